/- What the statement's proof needs (joined out of several texts); no conditions. -/
import Derived.Test.YtgekngfnhhdamaaZD2
import Derived.Test.YtgekngfnhhdamaaM31
set_option linter.unusedVariables false
set_option linter.unusedSimpArgs false
set_option maxRecDepth 100000
set_option maxHeartbeats 4000000
namespace Go.Proofs.YtgekngfnhhdamaaI
open Go Go.Proofs.YtgekngfnhhdamaaM
attribute [local go_sem] aop ev fg_slc fg_slk fg_ptr fg_bool fg_int fg_str fg_iface fg_func fg_agg fg_tup fg_nils fg_nilp fg_nilI fg_nilF fg_und aboundsK alen_nils alen_slc alen_slk aslice_nils aslice_slc aslice_slk awanted abin aun aint aeqn aeqc aeqs apart abounds abnd amaxi amaxiGo cells_agg cells_slc cells_slk cells_ptr cells_bool cells_int cells_str cells_iface cells_func cells_tup cells_nils cells_nilp cells_nilI cells_nilF cells_und sc_slc sc_slk sc_ptr sc_bool sc_int sc_str sc_iface sc_func sc_nils sc_nilp sc_nilI sc_nilF gd_zero gd_succ List.all_cons List.all_nil Bool.and_self Bool.and_true Bool.true_and List.length_cons List.length_nil Option.map_some Option.some.injEq cell_same cell_ne cell_ne' cellsAt_same cellsAt_ne cellsAt_ne' put_same put_of set_same set_ne set_ne' List.getElem?_cons_zero List.getElem?_cons_succ if_true if_false and_self and_true true_and ne_eq not_true_eq_false not_false_eq_true decide_true decide_false Bool.false_eq_true Bool.true_eq_false beq_self_eq_true bne_self_eq_false beq_true beq_false Bool.not_true Bool.not_false List.map_cons List.map_nil putL List.set_cons_zero List.set_cons_succ afill Nat.zero_le Nat.le_refl Nat.zero_add Nat.add_zero List.drop_zero List.drop_succ_cons List.take_zero List.take_succ_cons Bool.not_eq_true Bool.not_eq_false decide_eq_true_eq decide_eq_false_iff_not Int.toNat_zero Nat.sub_zero Int.toNat_natCast Bool.bne_true Bool.bne_false AH.cell AH.cellsAt AH.put Nat.mul_one Nat.one_mul Int.natCast_nonneg List.length_set aslice azeros abytes bs_append bs_size be_length UInt8.ofNat_toNat List.cons_append List.nil_append List.append_nil AV.scalar List.length_append
theorem big_no {n : Nat} (h : n ≤ 4398046511104) : ¬ IntKind.i64.max < (n : Int) := by simp [IntKind.max, IntKind.signed, IntKind.bits]; omega
/-- the document's wide -/
theorem sp80 (v n : Nat) (h : AH) (hv : v ≤ 18446744073709551615) (hn : n ≤ 8) : Sp T 80 [.int .u64 v, .int .i64 n] h (fun r h' => r = .str (bs (be v n)) ∧ Up h h') := by
  refine Sp_of (fn := f80) rfl (show W T b80 [.int .u64 v, .int .i64 n, .tup [], .tup [], .tup [], .tup [], .tup [], .tup [], .tup [], .tup [], .tup [], .tup [], .tup [], .tup [], .tup [], .tup [], .tup [], .tup [], .tup [], .tup [], .tup [], .tup []] _ _ from ?_)
  unfold b80
  repeat' (first | (refine wNil ?_) | (refine xPure ?_) | (refine xMk ?_; intro id hid; (try simp only [set_none_iff] at hid); refine mkDo ?_) | (refine xChk ?_) | (refine xChkF ?_) | (refine xSkip ?_) | (refine cSeq ?_) | (refine cNorm ?_) | (refine cRet ?_) | (refine cExit ?_) | (refine W_reg rfl ?_) | (refine W_block ?_) | (refine W_ret ?_) | (refine W_skip ?_) | (refine W_exit ?_) | (refine bNorm ?_) | (refine bRet ?_) | (refine bExit ?_) | (refine bExitN rfl ?_) | (refine xMask ?_) | (refine xT ?_) | (refine xF ?_) | (refine xRet ?_) | (refine xNorm ?_) | (refine xSplit ?_ ?_ <;> intro hb <;> (try exact False.elim hb)) | (refine xCond ?_ ?_ <;> intro hb <;> (try exact False.elim hb)))
  refine W_loop (fun m tm h' => ∃ k, k + m = n ∧ Up h h' ∧ keep [0, 1, 5, 6] 0 tm = [.int .u64 ((v / 256 ^ k : Nat) : Int), .int .i64 n, .und, .und, .und, .str (bs (be v k)), .int .i64 k, .und, .und, .und, .und, .und, .und, .und, .und, .und, .und, .und, .und, .und, .und, .und]) n ⟨0, by omega, Up.refl _, by rw [Nat.pow_zero, Nat.div_one]; rfl⟩ ?_
  rintro m tm h' ⟨k, hk, hU, htm⟩
  refine cSeq (cMask (cNorm ?_))
  rw [htm]; clear htm
  by_cases hm : k < n
  · have d1 : (k : Int) < (n : Int) := by omega
    have hw : v / 256 ^ k ≤ 18446744073709551615 := Nat.le_trans (Nat.div_le_self _ _) hv
    have e : v / 256 ^ (k + 1) = v / 256 ^ k / 256 := by rw [Nat.pow_succ, Nat.div_div_eq_div_mul]
    have eb : be v (k + 1) = UInt8.ofNat (v / 256 ^ k) :: be v k := rfl
    obtain ⟨w, hw'⟩ : ∃ w, v / 256 ^ k = w := ⟨_, rfl⟩
    rw [hw'] at hw e eb ⊢
    have d2 : (w : Int).tmod 256 = ((w % 256 : Nat) : Int) := by rw [Int.tmod_eq_emod_of_nonneg (by omega)]; omega
    have d3 : IntKind.u8.wrap ((w % 256 : Nat) : Int) = ((UInt8.ofNat w).toNat : Int) := by rw [u8wrap]; congr 2; apply UInt8.toNat_inj.1; simp
    have d4 : IntKind.u64.wrap ((w : Int).tdiv 256) = ((w / 256 : Nat) : Int) := by rw [Int.tdiv_eq_ediv_of_nonneg (by omega), wrapU64 (by omega) (by omega)]; omega
    have d5 : IntKind.i64.wrap ((k : Int) + 1) = ((k + 1 : Nat) : Int) := by rw [wrap64 (by omega) (by omega)]; rfl
    have d6 : ¬ IntKind.i64.max < ((1 + k : Nat) : Int) := big_no (by omega)
    clear hw'
    repeat' (first | (refine wNil ?_) | (refine xPure ?_) | (refine xMk ?_; intro id hid; (try simp only [set_none_iff] at hid); refine mkDo ?_) | (refine xChk ?_) | (refine xChkF ?_) | (refine xSkip ?_) | (refine cSeq ?_) | (refine cNorm ?_) | (refine cRet ?_) | (refine cExit ?_) | (refine W_reg rfl ?_) | (refine W_block ?_) | (refine W_ret ?_) | (refine W_skip ?_) | (refine W_exit ?_) | (refine bNorm ?_) | (refine bRet ?_) | (refine bExit ?_) | (refine bExitN rfl ?_) | (refine xMask ?_) | (refine xT ?_) | (refine xF ?_) | (refine xRet ?_) | (refine xNorm ?_) | (refine xSplit ?_ ?_ <;> intro hb <;> (try exact False.elim hb)) | (refine xCond ?_ ?_ <;> intro hb <;> (try exact False.elim hb)))
    all_goals exact ⟨m - 1, by omega, k + 1, by omega, hU.new (hU.none hid), by simp only [keep, List.contains_cons, List.contains_nil, Nat.reduceBEq, Bool.or_true, Bool.true_or, Bool.or_false, Bool.false_or, if_true, if_false, Bool.false_eq_true, beq_self_eq_true, Nat.zero_add, Nat.reduceAdd, eq_self, e, eb]⟩
  · have d1 : ¬ (k : Int) < (n : Int) := by omega
    repeat' (first | (refine wNil ?_) | (refine xPure ?_) | (refine xMk ?_; intro id hid; (try simp only [set_none_iff] at hid); refine mkDo ?_) | (refine xChk ?_) | (refine xChkF ?_) | (refine xSkip ?_) | (refine cSeq ?_) | (refine cNorm ?_) | (refine cRet ?_) | (refine cExit ?_) | (refine W_reg rfl ?_) | (refine W_block ?_) | (refine W_ret ?_) | (refine W_skip ?_) | (refine W_exit ?_) | (refine bNorm ?_) | (refine bRet ?_) | (refine bExit ?_) | (refine bExitN rfl ?_) | (refine xMask ?_) | (refine xT ?_) | (refine xF ?_) | (refine xRet ?_) | (refine xNorm ?_) | (refine xSplit ?_ ?_ <;> intro hb <;> (try exact False.elim hb)) | (refine xCond ?_ ?_ <;> intro hb <;> (try exact False.elim hb)))
    all_goals (obtain rfl : k = n := by omega)
    all_goals exact ⟨rfl, hU⟩
/-- the document's U -/
theorem sp57 (v : Nat) (h : AH) (hv : v ≤ 18446744073709551615) : Sp T 57 [.int .u64 v] h (fun r h' => r = .str (bs (encU v)) ∧ Up h h') := by
  rcases (show v < 252 ∨ (¬ v < 252 ∧ v < 65536) ∨ (¬ v < 252 ∧ ¬ v < 65536 ∧ v < 4294967296) ∨ (¬ v < 252 ∧ ¬ v < 65536 ∧ ¬ v < 4294967296) from by omega) with c | ⟨c, c2⟩ | ⟨c, c2, c3⟩ | ⟨c, c2, c3⟩
  · have d1 : (v : Int) < 252 := by omega
    refine Sp_of (fn := f57) rfl (show W T b57 [.int .u64 v, .tup [], .tup [], .tup [], .tup [], .tup [], .tup [], .tup [], .tup [], .tup [], .tup [], .tup [], .tup [], .tup [], .tup [], .tup [], .tup [], .tup [], .tup [], .tup []] _ _ from ?_)
    unfold b57
    repeat' (first | (refine wNil ?_) | (refine xPure ?_) | (refine xMk ?_; intro id hid; (try simp only [set_none_iff] at hid); refine mkDo ?_) | (refine xChk ?_) | (refine xChkF ?_) | (refine xSkip ?_) | (refine xCall rfl rfl (sp80 v 1 _ hv (by omega)) ?_; rintro r h' ⟨rfl, hU⟩; refine nTm ?_) | (refine cSeq ?_) | (refine cNorm ?_) | (refine cRet ?_) | (refine cExit ?_) | (refine W_reg rfl ?_) | (refine W_block ?_) | (refine W_ret ?_) | (refine W_skip ?_) | (refine W_exit ?_) | (refine bNorm ?_) | (refine bRet ?_) | (refine bExit ?_) | (refine bExitN rfl ?_) | (refine xMask ?_) | (refine xT ?_) | (refine xF ?_) | (refine xRet ?_) | (refine xNorm ?_) | (refine xSplit ?_ ?_ <;> intro hb <;> (try exact False.elim hb)) | (refine xCond ?_ ?_ <;> intro hb <;> (try exact False.elim hb)))
    all_goals exact ⟨by unfold encU hd; rw [if_pos c]; show AV.str (bs [UInt8.ofNat (v / 256 ^ 0)]) = AV.str (bs [UInt8.ofNat v]); simp, hU⟩
  · have d1 : ¬ (v : Int) < 252 := by omega
    have d2 : (v : Int) < 65536 := by omega
    have m1 := big_no (n := 1 + 2) (by omega)
    refine Sp_of (fn := f57) rfl (show W T b57 [.int .u64 v, .tup [], .tup [], .tup [], .tup [], .tup [], .tup [], .tup [], .tup [], .tup [], .tup [], .tup [], .tup [], .tup [], .tup [], .tup [], .tup [], .tup [], .tup [], .tup []] _ _ from ?_)
    unfold b57
    repeat' (first | (refine wNil ?_) | (refine xPure ?_) | (refine xMk ?_; intro id hid; (try simp only [set_none_iff] at hid); refine mkDo ?_) | (refine xChk ?_) | (refine xChkF ?_) | (refine xSkip ?_) | (refine xCall rfl rfl (sp80 v 2 _ hv (by omega)) ?_; rintro r h' ⟨rfl, hU⟩; refine nTm ?_) | (refine cSeq ?_) | (refine cNorm ?_) | (refine cRet ?_) | (refine cExit ?_) | (refine W_reg rfl ?_) | (refine W_block ?_) | (refine W_ret ?_) | (refine W_skip ?_) | (refine W_exit ?_) | (refine bNorm ?_) | (refine bRet ?_) | (refine bExit ?_) | (refine bExitN rfl ?_) | (refine xMask ?_) | (refine xT ?_) | (refine xF ?_) | (refine xRet ?_) | (refine xNorm ?_) | (refine xSplit ?_ ?_ <;> intro hb <;> (try exact False.elim hb)) | (refine xCond ?_ ?_ <;> intro hb <;> (try exact False.elim hb)))
    all_goals exact ⟨by unfold encU hd; rw [if_neg c, if_pos c2]; rfl, hU⟩
  · have d1 : ¬ (v : Int) < 252 := by omega
    have d2 : ¬ (v : Int) < 65536 := by omega
    have d3 : (v : Int) < 4294967296 := by omega
    have m1 := big_no (n := 1 + 4) (by omega)
    refine Sp_of (fn := f57) rfl (show W T b57 [.int .u64 v, .tup [], .tup [], .tup [], .tup [], .tup [], .tup [], .tup [], .tup [], .tup [], .tup [], .tup [], .tup [], .tup [], .tup [], .tup [], .tup [], .tup [], .tup [], .tup []] _ _ from ?_)
    unfold b57
    repeat' (first | (refine wNil ?_) | (refine xPure ?_) | (refine xMk ?_; intro id hid; (try simp only [set_none_iff] at hid); refine mkDo ?_) | (refine xChk ?_) | (refine xChkF ?_) | (refine xSkip ?_) | (refine xCall rfl rfl (sp80 v 4 _ hv (by omega)) ?_; rintro r h' ⟨rfl, hU⟩; refine nTm ?_) | (refine cSeq ?_) | (refine cNorm ?_) | (refine cRet ?_) | (refine cExit ?_) | (refine W_reg rfl ?_) | (refine W_block ?_) | (refine W_ret ?_) | (refine W_skip ?_) | (refine W_exit ?_) | (refine bNorm ?_) | (refine bRet ?_) | (refine bExit ?_) | (refine bExitN rfl ?_) | (refine xMask ?_) | (refine xT ?_) | (refine xF ?_) | (refine xRet ?_) | (refine xNorm ?_) | (refine xSplit ?_ ?_ <;> intro hb <;> (try exact False.elim hb)) | (refine xCond ?_ ?_ <;> intro hb <;> (try exact False.elim hb)))
    all_goals exact ⟨by unfold encU hd; rw [if_neg c, if_neg c2, if_pos c3]; rfl, hU⟩
  · have d1 : ¬ (v : Int) < 252 := by omega
    have d2 : ¬ (v : Int) < 65536 := by omega
    have d3 : ¬ (v : Int) < 4294967296 := by omega
    have m1 := big_no (n := 1 + 8) (by omega)
    refine Sp_of (fn := f57) rfl (show W T b57 [.int .u64 v, .tup [], .tup [], .tup [], .tup [], .tup [], .tup [], .tup [], .tup [], .tup [], .tup [], .tup [], .tup [], .tup [], .tup [], .tup [], .tup [], .tup [], .tup [], .tup []] _ _ from ?_)
    unfold b57
    repeat' (first | (refine wNil ?_) | (refine xPure ?_) | (refine xMk ?_; intro id hid; (try simp only [set_none_iff] at hid); refine mkDo ?_) | (refine xChk ?_) | (refine xChkF ?_) | (refine xSkip ?_) | (refine xCall rfl rfl (sp80 v 8 _ hv (by omega)) ?_; rintro r h' ⟨rfl, hU⟩; refine nTm ?_) | (refine cSeq ?_) | (refine cNorm ?_) | (refine cRet ?_) | (refine cExit ?_) | (refine W_reg rfl ?_) | (refine W_block ?_) | (refine W_ret ?_) | (refine W_skip ?_) | (refine W_exit ?_) | (refine bNorm ?_) | (refine bRet ?_) | (refine bExit ?_) | (refine bExitN rfl ?_) | (refine xMask ?_) | (refine xT ?_) | (refine xF ?_) | (refine xRet ?_) | (refine xNorm ?_) | (refine xSplit ?_ ?_ <;> intro hb <;> (try exact False.elim hb)) | (refine xCond ?_ ?_ <;> intro hb <;> (try exact False.elim hb)))
    all_goals exact ⟨by unfold encU hd; rw [if_neg c, if_neg c2, if_neg c3]; rfl, hU⟩
end Go.Proofs.YtgekngfnhhdamaaI
set_option linter.unusedVariables false
set_option linter.unusedSimpArgs false
set_option maxRecDepth 100000
set_option maxHeartbeats 4000000
namespace Go.Proofs.YtgekngfnhhdamaaI
open Go Go.Proofs.YtgekngfnhhdamaaM
attribute [local go_sem] aop ev fg_slc fg_slk fg_ptr fg_bool fg_int fg_str fg_iface fg_func fg_agg fg_tup fg_nils fg_nilp fg_nilI fg_nilF fg_und aboundsK alen_nils alen_slc alen_slk aslice_nils aslice_slc aslice_slk awanted abin aun aint aeqn aeqc aeqs apart abounds abnd amaxi amaxiGo cells_agg cells_slc cells_slk cells_ptr cells_bool cells_int cells_str cells_iface cells_func cells_tup cells_nils cells_nilp cells_nilI cells_nilF cells_und sc_slc sc_slk sc_ptr sc_bool sc_int sc_str sc_iface sc_func sc_nils sc_nilp sc_nilI sc_nilF gd_zero gd_succ List.all_cons List.all_nil Bool.and_self Bool.and_true Bool.true_and List.length_cons List.length_nil Option.map_some Option.some.injEq cell_same cell_ne cell_ne' cellsAt_same cellsAt_ne cellsAt_ne' put_same put_of set_same set_ne set_ne' List.getElem?_cons_zero List.getElem?_cons_succ if_true if_false and_self and_true true_and ne_eq not_true_eq_false not_false_eq_true decide_true decide_false Bool.false_eq_true Bool.true_eq_false beq_self_eq_true bne_self_eq_false beq_true beq_false Bool.not_true Bool.not_false List.map_cons List.map_nil putL List.set_cons_zero List.set_cons_succ afill Nat.zero_le Nat.le_refl Nat.zero_add Nat.add_zero List.drop_zero List.drop_succ_cons List.take_zero List.take_succ_cons Bool.not_eq_true Bool.not_eq_false decide_eq_true_eq decide_eq_false_iff_not Int.toNat_zero Nat.sub_zero Int.toNat_natCast Bool.bne_true Bool.bne_false AH.cell AH.cellsAt AH.put Nat.mul_one Nat.one_mul Int.natCast_nonneg List.length_set aslice azeros abytes bs_append bs_size bs_toList bs_extract bs_get UInt8.ofNat_toNat List.cons_append List.nil_append List.append_nil AV.scalar List.length_append
/-- A reader. -/
def Rd (h0 : AH) (p : List Nat) (h : AH) (s : List UInt8) (e : Int) : Prop := Sub h0 h ∧ h0 p = none ∧ h p = some ⟨true, [.str (bs s), .int .i64 e]⟩
def fl (e x : Int) : Int := if e = 0 then x else e
theorem Rd.set' {h0 h : AH} {p : List Nat} {s s' : List UInt8} {e e' : Int} (hr : Rd h0 p h s e) : Rd h0 p (h.set p (some ⟨true, [.str (bs s'), .int .i64 e']⟩)) s' e' := ⟨hr.1.set hr.2.1, hr.2.1, set_same⟩
/-- Read -/
theorem sp17 (s : List UInt8) (h : AH) : Sp T 17 [.str (bs s)] h (fun r h' => ∃ p, r = .ptr p 0 ∧ Rd h p h' s 0) := by
  refine Sp_of (fn := f17) rfl (show W T b17 [.str (bs s), .tup [], .tup [], .tup [], .tup [], .tup []] _ _ from ?_)
  unfold b17
  repeat' (first | (refine wNil ?_) | (refine xPure ?_) | (refine xMk ?_; intro id hid; (try simp only [set_none_iff] at hid); refine mkDo ?_) | (refine xChk ?_) | (refine xChkF ?_) | (refine xSkip ?_) | (refine cSeq ?_) | (refine cNorm ?_) | (refine cRet ?_) | (refine cExit ?_) | (refine W_reg rfl ?_) | (refine W_block ?_) | (refine W_ret ?_) | (refine W_skip ?_) | (refine W_exit ?_) | (refine bNorm ?_) | (refine bRet ?_) | (refine bExit ?_) | (refine bExitN rfl ?_) | (refine xMask ?_) | (refine xT ?_) | (refine xF ?_) | (refine xRet ?_) | (refine xNorm ?_) | (refine xSplit ?_ ?_ <;> intro hb <;> (try exact False.elim hb)) | (refine xCond ?_ ?_ <;> intro hb <;> (try exact False.elim hb)))
  exact ⟨id, rfl, (fun x b e => by rw [set_ne (nei e hid)]; exact e), hid, set_same⟩
/-- (*Reader).Fail -/
theorem sp32 (h0 : AH) (p : List Nat) (s : List UInt8) (e x : Int) (h : AH) (hr : Rd h0 p h s e) : Sp T 32 [.ptr p 0, .int .i64 x] h (fun r h' => Rd h0 p h' s (fl e x)) := by
  have hp := hr.2.2
  unfold fl
  by_cases c : e = 0
  · subst c
    rw [if_pos rfl]
    refine Sp_of (fn := f32) rfl (show W T b32 [.ptr p 0, .int .i64 x, .tup [], .tup [], .tup [], .tup [], .tup [], .tup [], .tup [], .tup [], .tup [], .tup [], .tup []] _ _ from ?_)
    unfold b32
    repeat' (first | (refine wNil ?_) | (refine xPure ?_) | (refine xMk ?_; intro id hid; (try simp only [set_none_iff] at hid); refine mkDo ?_) | (refine xChk ?_) | (refine xChkF ?_) | (refine xSkip ?_) | (refine cSeq ?_) | (refine cNorm ?_) | (refine cRet ?_) | (refine cExit ?_) | (refine W_reg rfl ?_) | (refine W_block ?_) | (refine W_ret ?_) | (refine W_skip ?_) | (refine W_exit ?_) | (refine bNorm ?_) | (refine bRet ?_) | (refine bExit ?_) | (refine bExitN rfl ?_) | (refine xMask ?_) | (refine xT ?_) | (refine xF ?_) | (refine xRet ?_) | (refine xNorm ?_) | (refine xSplit ?_ ?_ <;> intro hb <;> (try exact False.elim hb)) | (refine xCond ?_ ?_ <;> intro hb <;> (try exact False.elim hb)))
    all_goals exact hr.set'
  · have c' : (e == 0) = false := by simpa using c
    rw [if_neg c]
    refine Sp_of (fn := f32) rfl (show W T b32 [.ptr p 0, .int .i64 x, .tup [], .tup [], .tup [], .tup [], .tup [], .tup [], .tup [], .tup [], .tup [], .tup [], .tup []] _ _ from ?_)
    unfold b32
    repeat' (first | (refine wNil ?_) | (refine xPure ?_) | (refine xMk ?_; intro id hid; (try simp only [set_none_iff] at hid); refine mkDo ?_) | (refine xChk ?_) | (refine xChkF ?_) | (refine xSkip ?_) | (refine cSeq ?_) | (refine cNorm ?_) | (refine cRet ?_) | (refine cExit ?_) | (refine W_reg rfl ?_) | (refine W_block ?_) | (refine W_ret ?_) | (refine W_skip ?_) | (refine W_exit ?_) | (refine bNorm ?_) | (refine bRet ?_) | (refine bExit ?_) | (refine bExitN rfl ?_) | (refine xMask ?_) | (refine xT ?_) | (refine xF ?_) | (refine xRet ?_) | (refine xNorm ?_) | (refine xSplit ?_ ?_ <;> intro hb <;> (try exact False.elim hb)) | (refine xCond ?_ ?_ <;> intro hb <;> (try exact False.elim hb)))
    all_goals exact hr
/-- (*Reader).Err -/
theorem sp26 (h0 : AH) (p : List Nat) (s : List UInt8) (e : Int) (h : AH) (hr : Rd h0 p h s e) : Sp T 26 [.ptr p 0] h (fun r h' => r = .int .i64 e ∧ h' = h) := by
  have hp := hr.2.2
  refine Sp_of (fn := f26) rfl (show W T b26 [.ptr p 0, .tup [], .tup [], .tup [], .tup [], .tup [], .tup []] _ _ from ?_)
  unfold b26
  repeat' (first | (refine wNil ?_) | (refine xPure ?_) | (refine xMk ?_; intro id hid; (try simp only [set_none_iff] at hid); refine mkDo ?_) | (refine xChk ?_) | (refine xChkF ?_) | (refine xSkip ?_) | (refine cSeq ?_) | (refine cNorm ?_) | (refine cRet ?_) | (refine cExit ?_) | (refine W_reg rfl ?_) | (refine W_block ?_) | (refine W_ret ?_) | (refine W_skip ?_) | (refine W_exit ?_) | (refine bNorm ?_) | (refine bRet ?_) | (refine bExit ?_) | (refine bExitN rfl ?_) | (refine xMask ?_) | (refine xT ?_) | (refine xF ?_) | (refine xRet ?_) | (refine xNorm ?_) | (refine xSplit ?_ ?_ <;> intro hb <;> (try exact False.elim hb)) | (refine xCond ?_ ?_ <;> intro hb <;> (try exact False.elim hb)))
  all_goals exact ⟨rfl, rfl⟩
def dn (s : List UInt8) (e : Int) : Int := if s = [] then e else fl e 4
/-- (*Reader).Done -/
theorem sp29 (h0 : AH) (p : List Nat) (s : List UInt8) (e : Int) (h : AH) (hr : Rd h0 p h s e) : Sp T 29 [.ptr p 0] h (fun r h' => r = .int .i64 (dn s e) ∧ Rd h0 p h' s (dn s e)) := by
  have hp := hr.2.2
  unfold dn
  cases s with
  | nil =>
    rw [if_pos rfl]
    refine Sp_of (fn := f29) rfl (show W T b29 [.ptr p 0, .tup [], .tup [], .tup [], .tup [], .tup [], .tup [], .tup [], .tup [], .tup [], .tup [], .tup [], .tup [], .tup []] _ _ from ?_)
    unfold b29
    repeat' (first | (refine wNil ?_) | (refine xPure ?_) | (refine xMk ?_; intro id hid; (try simp only [set_none_iff] at hid); refine mkDo ?_) | (refine xChk ?_) | (refine xChkF ?_) | (refine xSkip ?_) | (refine cSeq ?_) | (refine cNorm ?_) | (refine cRet ?_) | (refine cExit ?_) | (refine W_reg rfl ?_) | (refine W_block ?_) | (refine W_ret ?_) | (refine W_skip ?_) | (refine W_exit ?_) | (refine bNorm ?_) | (refine bRet ?_) | (refine bExit ?_) | (refine bExitN rfl ?_) | (refine xMask ?_) | (refine xT ?_) | (refine xF ?_) | (refine xRet ?_) | (refine xNorm ?_) | (refine xSplit ?_ ?_ <;> intro hb <;> (try exact False.elim hb)) | (refine xCond ?_ ?_ <;> intro hb <;> (try exact False.elim hb)))
    all_goals exact ⟨rfl, hr⟩
  | cons b s =>
    rw [if_neg (by simp)]
    have hbn : ((b :: s) == []) = false := rfl
    refine Sp_of (fn := f29) rfl (show W T b29 [.ptr p 0, .tup [], .tup [], .tup [], .tup [], .tup [], .tup [], .tup [], .tup [], .tup [], .tup [], .tup [], .tup [], .tup []] _ _ from ?_)
    unfold b29
    repeat' (first | (refine wNil ?_) | (refine xPure ?_) | (refine xMk ?_; intro id hid; (try simp only [set_none_iff] at hid); refine mkDo ?_) | (refine xChk ?_) | (refine xChkF ?_) | (refine xSkip ?_) | (refine xCall rfl rfl (sp32 h0 p (b :: s) e 4 _ hr) ?_; rintro r h' hr2; have hp2 := hr2.2.2; refine nTm ?_) | (refine cSeq ?_) | (refine cNorm ?_) | (refine cRet ?_) | (refine cExit ?_) | (refine W_reg rfl ?_) | (refine W_block ?_) | (refine W_ret ?_) | (refine W_skip ?_) | (refine W_exit ?_) | (refine bNorm ?_) | (refine bRet ?_) | (refine bExit ?_) | (refine bExitN rfl ?_) | (refine xMask ?_) | (refine xT ?_) | (refine xF ?_) | (refine xRet ?_) | (refine xNorm ?_) | (refine xSplit ?_ ?_ <;> intro hb <;> (try exact False.elim hb)) | (refine xCond ?_ ?_ <;> intro hb <;> (try exact False.elim hb)))
    all_goals exact ⟨rfl, hr2⟩
end Go.Proofs.YtgekngfnhhdamaaI
set_option linter.unusedVariables false
set_option linter.unusedSimpArgs false
set_option maxRecDepth 100000
set_option maxHeartbeats 4000000
namespace Go.Proofs.YtgekngfnhhdamaaI
open Go Go.Proofs.YtgekngfnhhdamaaM
attribute [local go_sem] aop ev fg_slc fg_slk fg_ptr fg_bool fg_int fg_str fg_iface fg_func fg_agg fg_tup fg_nils fg_nilp fg_nilI fg_nilF fg_und aboundsK alen_nils alen_slc alen_slk aslice_nils aslice_slc aslice_slk awanted abin aun aint aeqn aeqc aeqs apart abounds abnd amaxi amaxiGo cells_agg cells_slc cells_slk cells_ptr cells_bool cells_int cells_str cells_iface cells_func cells_tup cells_nils cells_nilp cells_nilI cells_nilF cells_und sc_slc sc_slk sc_ptr sc_bool sc_int sc_str sc_iface sc_func sc_nils sc_nilp sc_nilI sc_nilF gd_zero gd_succ List.all_cons List.all_nil Bool.and_self Bool.and_true Bool.true_and List.length_cons List.length_nil Option.map_some Option.some.injEq cell_same cell_ne cell_ne' cellsAt_same cellsAt_ne cellsAt_ne' put_same put_of set_same set_ne set_ne' List.getElem?_cons_zero List.getElem?_cons_succ if_true if_false and_self and_true true_and ne_eq not_true_eq_false not_false_eq_true decide_true decide_false Bool.false_eq_true Bool.true_eq_false beq_self_eq_true bne_self_eq_false beq_true beq_false Bool.not_true Bool.not_false List.map_cons List.map_nil putL List.set_cons_zero List.set_cons_succ afill Nat.zero_le Nat.le_refl Nat.zero_add Nat.add_zero List.drop_zero List.drop_succ_cons List.take_zero List.take_succ_cons Bool.not_eq_true Bool.not_eq_false decide_eq_true_eq decide_eq_false_iff_not Int.toNat_zero Nat.sub_zero Int.toNat_natCast Bool.bne_true Bool.bne_false AH.cell AH.cellsAt AH.put Nat.mul_one Nat.one_mul Int.natCast_nonneg List.length_set aslice aapp azeros abytes bs_append bs_size bs_toList bs_extract bs_get UInt8.ofNat_toNat List.cons_append List.nil_append List.append_nil AV.scalar
theorem Sub.rfl' {h : AH} : Sub h h := fun _ _ e => e
end Go.Proofs.YtgekngfnhhdamaaI
set_option linter.unusedVariables false
set_option linter.unusedSimpArgs false
set_option maxRecDepth 100000
set_option maxHeartbeats 4000000
namespace Go.Proofs.YtgekngfnhhdamaaI
open Go Go.Proofs.YtgekngfnhhdamaaM
attribute [local go_sem] aop ev fg_slc fg_slk fg_ptr fg_bool fg_int fg_str fg_iface fg_func fg_agg fg_tup fg_nils fg_nilp fg_nilI fg_nilF fg_und aboundsK alen_nils alen_slc alen_slk aslice_nils aslice_slc aslice_slk awanted abin aun aint aeqn aeqc aeqs apart abounds abnd amaxi amaxiGo cells_agg cells_slc cells_slk cells_ptr cells_bool cells_int cells_str cells_iface cells_func cells_tup cells_nils cells_nilp cells_nilI cells_nilF cells_und sc_slc sc_slk sc_ptr sc_bool sc_int sc_str sc_iface sc_func sc_nils sc_nilp sc_nilI sc_nilF gd_zero gd_succ List.all_cons List.all_nil Bool.and_self Bool.and_true Bool.true_and List.length_cons List.length_nil Option.map_some Option.some.injEq cell_same cell_ne cell_ne' cellsAt_same cellsAt_ne cellsAt_ne' put_same put_of set_same set_ne set_ne' List.getElem?_cons_zero List.getElem?_cons_succ if_true if_false and_self and_true true_and ne_eq not_true_eq_false not_false_eq_true decide_true decide_false Bool.false_eq_true Bool.true_eq_false beq_self_eq_true bne_self_eq_false beq_true beq_false Bool.not_true Bool.not_false List.map_cons List.map_nil putL List.set_cons_zero List.set_cons_succ afill Nat.zero_le Nat.le_refl Nat.zero_add Nat.add_zero List.drop_zero List.drop_succ_cons List.take_zero List.take_succ_cons Bool.not_eq_true Bool.not_eq_false decide_eq_true_eq decide_eq_false_iff_not Int.toNat_zero Nat.sub_zero Int.toNat_natCast Bool.bne_true Bool.bne_false AH.cell AH.cellsAt AH.put Nat.mul_one Nat.one_mul Int.natCast_nonneg List.length_set aslice azeros bs_append bs_size List.cons_append List.nil_append List.append_nil AV.scalar
theorem Wr.new2 {h0 h : AH} {p q : List Nat} {l : List UInt8} {a b : Option Blk} (hw : Wr h0 p h l) (hq : h q = none) : Wr (h0.set q b) p ((h.set q a).set q b) l := by rw [set_set]; exact hw.new hq
theorem Wr.up {h0 h h' : AH} {p : List Nat} {l : List UInt8} (hw : Wr h0 p h l) (hu : Up h h') : Wr h0 p h' l := by
  obtain ⟨hs, hp0, S, hp, hS⟩ := hw
  refine ⟨fun x b e => hu x b (hs x b e), hp0, S, hu _ _ hp, ?_⟩
  rcases hS with h | ⟨i, i1, i2, i3, i4⟩
  · exact .inl h
  · exact .inr ⟨i, i1, i2, i3, hu _ _ i4⟩
end Go.Proofs.YtgekngfnhhdamaaI
set_option linter.unusedVariables false
set_option linter.unusedSimpArgs false
set_option maxRecDepth 100000
set_option maxHeartbeats 4000000
namespace Go.Proofs.YtgekngfnhhdamaaI
open Go Go.Proofs.YtgekngfnhhdamaaM
attribute [local go_sem] aop ev fg_slc fg_slk fg_ptr fg_bool fg_int fg_str fg_iface fg_func fg_agg fg_tup fg_nils fg_nilp fg_nilI fg_nilF fg_und aboundsK alen_nils alen_slc alen_slk aslice_nils aslice_slc aslice_slk awanted abin aun aint aeqn aeqc aeqs apart abounds abnd amaxi amaxiGo cells_agg cells_slc cells_slk cells_ptr cells_bool cells_int cells_str cells_iface cells_func cells_tup cells_nils cells_nilp cells_nilI cells_nilF cells_und sc_slc sc_slk sc_ptr sc_bool sc_int sc_str sc_iface sc_func sc_nils sc_nilp sc_nilI sc_nilF gd_zero gd_succ List.all_cons List.all_nil Bool.and_self Bool.and_true Bool.true_and List.length_cons List.length_nil Option.map_some Option.some.injEq cell_same cell_ne cell_ne' cellsAt_same cellsAt_ne cellsAt_ne' put_same put_of set_same set_ne set_ne' List.getElem?_cons_zero List.getElem?_cons_succ if_true if_false and_self and_true true_and ne_eq not_true_eq_false not_false_eq_true decide_true decide_false Bool.false_eq_true Bool.true_eq_false beq_self_eq_true bne_self_eq_false beq_true beq_false Bool.not_true Bool.not_false List.map_cons List.map_nil putL List.set_cons_zero List.set_cons_succ afill Nat.zero_le Nat.le_refl Nat.zero_add Nat.add_zero List.drop_zero List.drop_succ_cons List.take_zero List.take_succ_cons Bool.not_eq_true Bool.not_eq_false decide_eq_true_eq decide_eq_false_iff_not Int.toNat_zero Nat.sub_zero Int.toNat_natCast Bool.bne_true Bool.bne_false AH.cell AH.cellsAt AH.put Nat.mul_one Nat.one_mul Int.natCast_nonneg List.length_set bs_toList bne_self_eq_false
end Go.Proofs.YtgekngfnhhdamaaI
set_option linter.unusedVariables false
set_option linter.unusedSimpArgs false
set_option maxRecDepth 100000
set_option maxHeartbeats 4000000
namespace Go.Proofs.YtgekngfnhhdamaaI
open Go Go.Proofs.YtgekngfnhhdamaaM
attribute [local go_sem] aop ev fg_slc fg_slk fg_ptr fg_bool fg_int fg_str fg_iface fg_func fg_agg fg_tup fg_nils fg_nilp fg_nilI fg_nilF fg_und aboundsK alen_nils alen_slc alen_slk aslice_nils aslice_slc aslice_slk awanted abin aun aint aeqn aeqc aeqs apart abounds abnd amaxi amaxiGo cells_agg cells_slc cells_slk cells_ptr cells_bool cells_int cells_str cells_iface cells_func cells_tup cells_nils cells_nilp cells_nilI cells_nilF cells_und sc_slc sc_slk sc_ptr sc_bool sc_int sc_str sc_iface sc_func sc_nils sc_nilp sc_nilI sc_nilF gd_zero gd_succ List.all_cons List.all_nil Bool.and_self Bool.and_true Bool.true_and List.length_cons List.length_nil Option.map_some Option.some.injEq cell_same cell_ne cell_ne' cellsAt_same cellsAt_ne cellsAt_ne' put_same put_of set_same set_ne set_ne' List.getElem?_cons_zero List.getElem?_cons_succ if_true if_false and_self and_true true_and ne_eq not_true_eq_false not_false_eq_true decide_true decide_false Bool.false_eq_true Bool.true_eq_false beq_self_eq_true bne_self_eq_false beq_true beq_false Bool.not_true Bool.not_false List.map_cons List.map_nil putL List.set_cons_zero List.set_cons_succ afill Nat.zero_le Nat.le_refl Nat.zero_add Nat.add_zero List.drop_zero List.drop_succ_cons List.take_zero List.take_succ_cons Bool.not_eq_true Bool.not_eq_false decide_eq_true_eq decide_eq_false_iff_not Int.toNat_zero Nat.sub_zero Int.toNat_natCast Bool.bne_true Bool.bne_false AH.cell AH.cellsAt AH.put Nat.mul_one Nat.one_mul Int.natCast_nonneg List.length_set aslice bs_append bs_size bs_toList bs_extract bs_get List.cons_append List.nil_append List.append_nil AV.scalar List.length_drop List.length_take Int.le_refl
def b19g : ICode :=
 (.seq (.reg [(0, false)] r19_14)
 (.seq (.seq (.reg [(0, false), (1, false), (2, false), (3, false), (4, false), (5, false)] r19_15)
 (.seq (.block 1 (.loop (.seq (.mask [0, 3, 5, 33, 34, 35]) (.seq (.reg [(0, false)] r19_16)
 (.seq (.cond (.t 36) .skip
 (.exit 1))
 (.seq (.seq (.block 2 (.seq (.reg [(0, false), (1, false), (2, false)] r19_17)
 (.reg [(0, false), (1, false), (2, false), (3, false), (4, false), (5, false)] r19_18))) (.mask [0, 3, 5, 33, 34, 35]))
 (.reg [(0, false), (1, false)] r19_19))))))) (.mask [0, 3, 5])))
 (.seq (.seq (.reg [(0, false), (1, false), (2, false), (3, false), (4, false), (5, false), (6, false)] r19_20)
 (.seq (.reg [(0, false), (1, false), (2, false), (3, false)] r19_21)
 (.seq (.cond (.t 53) (.reg [(0, false), (1, false)] r19_22)
 .skip) (.mask [0, 5]))))
 (.seq (.seq (.reg [(0, false), (1, false), (2, false), (3, false), (4, false)] r19_23)
 (.cond (.t 60) (.seq (.reg [(0, false)] r19_24)
 .ret)
 .skip))
 (.seq (.reg [(0, false), (1, false)] r19_25)
 .ret)))))
theorem Rd.more {h0 h : AH} {p q : List Nat} {s : List UInt8} {e : Int} {b : Option Blk} (hr : Rd h0 p h s e) (hq : h q = none) : Rd h0 p (h.set q b) s e :=
  ⟨hr.1.set (hr.1.no hq), hr.2.1, by rw [set_ne (nei hr.2.2 hq)]; exact hr.2.2⟩
theorem Rd.up {h0 h h' : AH} {p : List Nat} {s : List UInt8} {e : Int} (hr : Rd h0 p h s e) (hu : Up h h') : Rd h0 p h' s e := ⟨fun x b e => hu x b (hr.1 x b e), hr.2.1, hu _ _ hr.2.2⟩
def tk (s : List UInt8) (e : Int) (n : Nat) : List UInt8 × Int × List UInt8 :=
  if e = 0 then (if s.length < n then (s, 3, []) else (s.drop n, 0, s.take n)) else (s, e, [])
theorem tk_err {s : List UInt8} {e : Int} {n : Nat} (h : ¬ e = 0) : tk s e n = (s, e, []) := if_neg h
theorem tk_end {s : List UInt8} {n : Nat} (h : s.length < n) : tk s 0 n = (s, 3, []) := by unfold tk; rw [if_pos rfl, if_pos h]
theorem tk_ok {s : List UInt8} {n : Nat} (h : ¬ s.length < n) : tk s 0 n = (s.drop n, 0, s.take n) := by unfold tk; rw [if_pos rfl, if_neg h]
theorem tk_len (s : List UInt8) (e : Int) (n : Nat) : (tk s e n).2.2.length ≤ n := by
  unfold tk; split
  · split
    · simp
    · simp; omega
  · simp
/-- (*Reader).take -/
theorem sp63 (h0 : AH) (p : List Nat) (s : List UInt8) (e : Int) (n : Nat) (h : AH) (hr : Rd h0 p h s e) : Sp T 63 [.ptr p 0, .int .i64 n] h (fun r h' => r = .str (bs (tk s e n).2.2) ∧ Rd h0 p h' (tk s e n).1 (tk s e n).2.1) := by
  have hp := hr.2.2
  by_cases c : s.length < n
  · have d1 : (s.length : Int) < (n : Int) := by omega
    have k := sp32 h0 p s e 3 h hr
    by_cases c0 : e = 0
    · subst c0
      rw [tk_end c]
      refine Sp_of (fn := f63) rfl (show W T b63 [.ptr p 0, .int .i64 n, .tup [], .tup [], .tup [], .tup [], .tup [], .tup [], .tup [], .tup [], .tup [], .tup [], .tup [], .tup [], .tup [], .tup [], .tup [], .tup [], .tup [], .tup [], .tup [], .tup [], .tup [], .tup [], .tup [], .tup [], .tup [], .tup [], .tup [], .tup [], .tup [], .tup [], .tup [], .tup [], .tup [], .tup []] _ _ from ?_)
      unfold b63
      repeat' (first | (refine wNil ?_) | (refine xPure ?_) | (refine xMk ?_; intro id hid; (try simp only [set_none_iff] at hid); refine mkDo ?_) | (refine xChk ?_) | (refine xChkF ?_) | (refine xSkip ?_) | (refine xCall rfl rfl (k) ?_; rintro r h2 hr2; have hp2 : h2 p = some ⟨true, [.str (bs s), .int .i64 3]⟩ := hr2.2.2; refine nTm ?_) | (refine cSeq ?_) | (refine cNorm ?_) | (refine cRet ?_) | (refine cExit ?_) | (refine W_reg rfl ?_) | (refine W_block ?_) | (refine W_ret ?_) | (refine W_skip ?_) | (refine W_exit ?_) | (refine bNorm ?_) | (refine bRet ?_) | (refine bExit ?_) | (refine bExitN rfl ?_) | (refine xMask ?_) | (refine xT ?_) | (refine xF ?_) | (refine xRet ?_) | (refine xNorm ?_) | (refine xSplit ?_ ?_ <;> intro hb <;> (try exact False.elim hb)) | (refine xCond ?_ ?_ <;> intro hb <;> (try exact False.elim hb)))
      all_goals exact ⟨rfl, hr2⟩
    · have c0' : (e != 0) = true := by simpa using c0
      rw [tk_err c0]
      have e3 : fl e 3 = e := if_neg c0
      rw [e3] at k
      refine Sp_of (fn := f63) rfl (show W T b63 [.ptr p 0, .int .i64 n, .tup [], .tup [], .tup [], .tup [], .tup [], .tup [], .tup [], .tup [], .tup [], .tup [], .tup [], .tup [], .tup [], .tup [], .tup [], .tup [], .tup [], .tup [], .tup [], .tup [], .tup [], .tup [], .tup [], .tup [], .tup [], .tup [], .tup [], .tup [], .tup [], .tup [], .tup [], .tup [], .tup [], .tup []] _ _ from ?_)
      unfold b63
      repeat' (first | (refine wNil ?_) | (refine xPure ?_) | (refine xMk ?_; intro id hid; (try simp only [set_none_iff] at hid); refine mkDo ?_) | (refine xChk ?_) | (refine xChkF ?_) | (refine xSkip ?_) | (refine xCall rfl rfl (k) ?_; rintro r h2 hr2; have hp2 := hr2.2.2; refine nTm ?_) | (refine cSeq ?_) | (refine cNorm ?_) | (refine cRet ?_) | (refine cExit ?_) | (refine W_reg rfl ?_) | (refine W_block ?_) | (refine W_ret ?_) | (refine W_skip ?_) | (refine W_exit ?_) | (refine bNorm ?_) | (refine bRet ?_) | (refine bExit ?_) | (refine bExitN rfl ?_) | (refine xMask ?_) | (refine xT ?_) | (refine xF ?_) | (refine xRet ?_) | (refine xNorm ?_) | (refine xSplit ?_ ?_ <;> intro hb <;> (try exact False.elim hb)) | (refine xCond ?_ ?_ <;> intro hb <;> (try exact False.elim hb)))
      all_goals exact ⟨rfl, hr2⟩
  · have d1 : ¬ (s.length : Int) < (n : Int) := by omega
    have d2 : (n : Int) ≤ (s.length : Int) := by omega
    have d3 : n ≤ s.length := by omega
    by_cases c0 : e = 0
    · subst c0
      rw [tk_ok c]
      have d4 : List.take (s.length - n) (List.drop n s) = List.drop n s := List.take_of_length_le (by simp)
      refine Sp_of (fn := f63) rfl (show W T b63 [.ptr p 0, .int .i64 n, .tup [], .tup [], .tup [], .tup [], .tup [], .tup [], .tup [], .tup [], .tup [], .tup [], .tup [], .tup [], .tup [], .tup [], .tup [], .tup [], .tup [], .tup [], .tup [], .tup [], .tup [], .tup [], .tup [], .tup [], .tup [], .tup [], .tup [], .tup [], .tup [], .tup [], .tup [], .tup [], .tup [], .tup []] _ _ from ?_)
      unfold b63
      repeat' (first | (refine wNil ?_) | (refine xPure ?_) | (refine xMk ?_; intro id hid; (try simp only [set_none_iff] at hid); refine mkDo ?_) | (refine xChk ?_) | (refine xChkF ?_) | (refine xSkip ?_) | (refine cSeq ?_) | (refine cNorm ?_) | (refine cRet ?_) | (refine cExit ?_) | (refine W_reg rfl ?_) | (refine W_block ?_) | (refine W_ret ?_) | (refine W_skip ?_) | (refine W_exit ?_) | (refine bNorm ?_) | (refine bRet ?_) | (refine bExit ?_) | (refine bExitN rfl ?_) | (refine xMask ?_) | (refine xT ?_) | (refine xF ?_) | (refine xRet ?_) | (refine xNorm ?_) | (refine xSplit ?_ ?_ <;> intro hb <;> (try exact False.elim hb)) | (refine xCond ?_ ?_ <;> intro hb <;> (try exact False.elim hb)))
      all_goals exact ⟨rfl, hr.set'⟩
    · have c0' : (e != 0) = true := by simpa using c0
      rw [tk_err c0]
      refine Sp_of (fn := f63) rfl (show W T b63 [.ptr p 0, .int .i64 n, .tup [], .tup [], .tup [], .tup [], .tup [], .tup [], .tup [], .tup [], .tup [], .tup [], .tup [], .tup [], .tup [], .tup [], .tup [], .tup [], .tup [], .tup [], .tup [], .tup [], .tup [], .tup [], .tup [], .tup [], .tup [], .tup [], .tup [], .tup [], .tup [], .tup [], .tup [], .tup [], .tup [], .tup []] _ _ from ?_)
      unfold b63
      repeat' (first | (refine wNil ?_) | (refine xPure ?_) | (refine xMk ?_; intro id hid; (try simp only [set_none_iff] at hid); refine mkDo ?_) | (refine xChk ?_) | (refine xChkF ?_) | (refine xSkip ?_) | (refine cSeq ?_) | (refine cNorm ?_) | (refine cRet ?_) | (refine cExit ?_) | (refine W_reg rfl ?_) | (refine W_block ?_) | (refine W_ret ?_) | (refine W_skip ?_) | (refine W_exit ?_) | (refine bNorm ?_) | (refine bRet ?_) | (refine bExit ?_) | (refine bExitN rfl ?_) | (refine xMask ?_) | (refine xT ?_) | (refine xF ?_) | (refine xRet ?_) | (refine xNorm ?_) | (refine xSplit ?_ ?_ <;> intro hb <;> (try exact False.elim hb)) | (refine xCond ?_ ?_ <;> intro hb <;> (try exact False.elim hb)))
      all_goals exact ⟨rfl, hr⟩
def val (l : List UInt8) : Nat := l.foldl (fun v b => v * 256 + b.toNat) 0
theorem val_snoc (l : List UInt8) (b : UInt8) : val (l ++ [b]) = val l * 256 + b.toNat := by simp [val, List.foldl_append]
theorem val_take {l : List UInt8} {k : Nat} {b : UInt8} (h : l[k]? = some b) : val (l.take (k + 1)) = val (l.take k) * 256 + b.toNat := by
  rw [List.take_add_one, h]; exact val_snoc _ _
theorem val_lt : ∀ (n : Nat) (l : List UInt8), l.length = n → val l < 256 ^ n
  | 0, l, h => by
    obtain rfl : l = [] := List.length_eq_zero_iff.1 h
    simp [val]
  | n + 1, l, h => by
    obtain ⟨m, b, rfl⟩ : ∃ m b, l = m ++ [b] := ⟨l.dropLast, l.getLast (by rintro rfl; simp at h), (List.dropLast_concat_getLast _).symm⟩
    have := val_lt n m (by simpa using h)
    have hb := b.toNat_lt
    rw [val_snoc, Nat.pow_succ]; omega
theorem or_u64 (v b : Nat) (hv : v < 72057594037927936) (hb : b < 256) : absBits .or .u64 ((v * 256 : Nat) : Int) (b : Int) = some ((v * 256 + b : Nat) : Int) := by
  show some (IntKind.u64.wrap ((BitVec.ofInt 64 ((v * 256 : Nat) : Int) ||| BitVec.ofInt 64 (b : Int)).toNat : Int)) = _
  have e1 : (BitVec.ofInt 64 ((v * 256 : Nat) : Int)).toNat = v * 256 := by rw [BitVec.ofInt_natCast, BitVec.toNat_ofNat]; omega
  have e2 : (BitVec.ofInt 64 (b : Int)).toNat = b := by rw [BitVec.ofInt_natCast, BitVec.toNat_ofNat]; omega
  rw [BitVec.toNat_or, e1, e2]
  have e3 : v * 256 ||| b = v * 256 + b := by
    have := Nat.shiftLeft_add_eq_or_of_lt (i := 8) (b := b) (by omega) v
    rw [Nat.shiftLeft_eq] at this; exact this.symm
  rw [e3, wrapU64 (by omega) (by omega)]
theorem hd_lt (v : Nat) : (hd v).1 < 256 := by unfold hd; split <;> (try split) <;> (try split) <;> simp; omega
def ut (b : Nat) (s : List UInt8) (e : Int) (n : Nat) : List UInt8 × Int × Nat :=
  let q := tk s e n
  let e3 := if (hd (val q.2.2)).1 = b then q.2.1 else fl q.2.1 4
  (q.1, e3, if e3 = 0 then val q.2.2 else 0)
theorem u_tail (h0 : AH) (p : List Nat) (b : UInt8) (s : List UInt8) (e : Int) (n : Nat) (h : AH) (hr : Rd h0 p h s e) (hn : n ≤ 8) :
    W T b19g [.ptr p 0, .und, .und, .str (bs [b]), .int .i64 n, .und, .und, .und, .und, .und, .und, .und, .und, .und, .und, .und, .und, .und, .und, .und, .und, .und, .und, .und, .und, .und, .und, .und, .und, .und, .und, .und, .und, .und, .und, .und, .und, .und, .und, .und, .und, .und, .und, .und, .und, .und, .und, .und, .und, .und, .und, .und, .und, .und, .und, .und, .und, .und, .und, .und, .und, .und] h (Rets f19 (fun r h' => r = .int .u64 (ut b.toNat s e n).2.2 ∧ Rd h0 p h' (ut b.toNat s e n).1 (ut b.toNat s e n).2.1)) := by
  have k := sp63 h0 p s e n h hr
  have hlen := tk_len s e n
  unfold ut
  obtain ⟨⟨s2, e2, t2⟩, hq⟩ : ∃ q, tk s e n = q := ⟨_, rfl⟩
  simp only [hq] at k hlen ⊢
  clear hq
  unfold b19g
  repeat' (first | (refine wNil ?_) | (refine xPure ?_) | (refine xMk ?_; intro id hid; (try simp only [set_none_iff] at hid); refine mkDo ?_) | (refine xChk ?_) | (refine xChkF ?_) | (refine xSkip ?_) | (refine xCall rfl rfl (k) ?_; rintro r h2 ⟨rfl, hr2⟩; refine nTm ?_) | (refine cSeq ?_) | (refine cNorm ?_) | (refine cRet ?_) | (refine cExit ?_) | (refine W_reg rfl ?_) | (refine W_block ?_) | (refine W_ret ?_) | (refine W_skip ?_) | (refine W_exit ?_) | (refine bNorm ?_) | (refine bRet ?_) | (refine bExit ?_) | (refine bExitN rfl ?_) | (refine xMask ?_) | (refine xT ?_) | (refine xF ?_) | (refine xRet ?_) | (refine xNorm ?_) | (refine xSplit ?_ ?_ <;> intro hb <;> (try exact False.elim hb)) | (refine xCond ?_ ?_ <;> intro hb <;> (try exact False.elim hb)))
  obtain ⟨H, hH⟩ : ∃ H, H = AH.set h2 id (some ⟨true, bc t2⟩) := ⟨_, rfl⟩
  have hrH : Rd h0 p H s2 e2 := by rw [hH]; exact hr2.more hid
  have hHi : H id = some ⟨true, bc t2⟩ := by rw [hH]; exact set_same
  refine W_loop (fun m tm h' => ∃ k, k + m = t2.length ∧ h' = H ∧ keep [0, 3, 5, 33, 34, 35] 0 tm = [.ptr p 0, .und, .und, .str (bs [b]), .und, .int .u64 (val (t2.take k) : Int), .und, .und, .und, .und, .und, .und, .und, .und, .und, .und, .und, .und, .und, .und, .und, .und, .und, .und, .und, .und, .und, .und, .und, .und, .und, .und, .und, .slc id 0 t2.length 1, .int .i64 t2.length, .int .i64 k, .und, .und, .und, .und, .und, .und, .und, .und, .und, .und, .und, .und, .und, .und, .und, .und, .und, .und, .und, .und, .und, .und, .und, .und, .und, .und]) t2.length ⟨0, by omega, hH.symm, by simp only [List.size_toArray, bs_size]; rfl⟩ ?_
  clear hH
  rintro m tm h' ⟨k, hk, rfl, htm⟩
  refine cSeq (cMask (cNorm ?_))
  rw [htm]; clear htm
  by_cases hkn : k < t2.length
  · have d1 : (k : Int) < (t2.length : Int) := by omega
    obtain ⟨x, hx⟩ : ∃ x, t2[k]? = some x := ⟨_, List.getElem?_eq_getElem hkn⟩
    have g1 : (bc t2)[k]? = some (.int .u8 x.toNat) := by unfold bc; rw [List.getElem?_map, hx]; rfl
    have d4 : IntKind.i64.wrap ((k : Int) + 1) = ((k + 1 : Nat) : Int) := by rw [wrap64 (by omega) (by omega)]; rfl
    have v1 := val_lt k (t2.take k) (by rw [List.length_take]; omega)
    have v2 : 256 ^ k ≤ 256 ^ 7 := Nat.pow_le_pow_right (by decide) (by omega)
    have v3 := val_take hx
    have v4 := x.toNat_lt
    obtain ⟨v, hv⟩ : ∃ v, val (t2.take k) = v := ⟨_, rfl⟩
    rw [hv] at v1 v3 ⊢
    have v5 : v < 72057594037927936 := by have : (256 : Nat) ^ 7 = 72057594037927936 := by decide
                                          omega
    have c1 : IntKind.u64.wrap ((v : Int) * 2 ^ min (Int.toNat 8) 64) = ((v * 256 : Nat) : Int) := by
      show IntKind.u64.wrap ((v : Int) * 256) = _
      rw [wrapU64 (by omega) (by omega)]; omega
    have c3 : IntKind.u64.wrap (x.toNat : Int) = (x.toNat : Int) := wrapU64 (by omega) (by omega)
    have c2 := or_u64 v x.toNat v5 v4
    clear v1 v2 hv
    repeat' (first | (refine wNil ?_) | (refine xPure ?_) | (refine xMk ?_; intro id hid; (try simp only [set_none_iff] at hid); refine mkDo ?_) | (refine xChk ?_) | (refine xChkF ?_) | (refine xSkip ?_) | (refine cSeq ?_) | (refine cNorm ?_) | (refine cRet ?_) | (refine cExit ?_) | (refine W_reg rfl ?_) | (refine W_block ?_) | (refine W_ret ?_) | (refine W_skip ?_) | (refine W_exit ?_) | (refine bNorm ?_) | (refine bRet ?_) | (refine bExit ?_) | (refine bExitN rfl ?_) | (refine xMask ?_) | (refine xT ?_) | (refine xF ?_) | (refine xRet ?_) | (refine xNorm ?_) | (refine xSplit ?_ ?_ <;> intro hb <;> (try exact False.elim hb)) | (refine xCond ?_ ?_ <;> intro hb <;> (try exact False.elim hb)))
    all_goals exact ⟨m - 1, by omega, k + 1, by omega, rfl, by rw [v3]; simp only [keep, List.contains_cons, List.contains_nil, Nat.reduceBEq, Bool.or_true, Bool.true_or, Bool.or_false, Bool.false_or, if_true, if_false, Bool.false_eq_true, beq_self_eq_true, Nat.zero_add, Nat.reduceAdd, eq_self]⟩
  · have d1 : ¬ (k : Int) < (t2.length : Int) := by omega
    rw [List.take_of_length_le (by omega)]
    have hp := hrH.2.2
    obtain ⟨v, hv⟩ : ∃ v, val t2 = v := ⟨_, rfl⟩
    rw [hv]
    have u1 : (UInt8.ofNat (hd v).1).toNat = (hd v).1 := by have := hd_lt v; simp; omega
    have k64 := sp64 v h'
    rw [u1] at k64
    by_cases c : (hd v).1 = b.toNat
    · have c' : (((hd v).1 : Int) != (b.toNat : Int)) = false := by simp; omega
      simp only [if_pos c]
      by_cases c0 : e2 = 0
      · subst c0
        rw [if_pos rfl]
        repeat' (first | (refine wNil ?_) | (refine xPure ?_) | (refine xMk ?_; intro id hid; (try simp only [set_none_iff] at hid); refine mkDo ?_) | (refine xChk ?_) | (refine xChkF ?_) | (refine xSkip ?_) | (refine xCall rfl rfl (k64) ?_; rintro r h2 ⟨rfl, rfl⟩; refine nTm ?_) | (refine cSeq ?_) | (refine cNorm ?_) | (refine cRet ?_) | (refine cExit ?_) | (refine W_reg rfl ?_) | (refine W_block ?_) | (refine W_ret ?_) | (refine W_skip ?_) | (refine W_exit ?_) | (refine bNorm ?_) | (refine bRet ?_) | (refine bExit ?_) | (refine bExitN rfl ?_) | (refine xMask ?_) | (refine xT ?_) | (refine xF ?_) | (refine xRet ?_) | (refine xNorm ?_) | (refine xSplit ?_ ?_ <;> intro hb <;> (try exact False.elim hb)) | (refine xCond ?_ ?_ <;> intro hb <;> (try exact False.elim hb)))
        all_goals exact ⟨rfl, hrH⟩
      · have c0' : (e2 != 0) = true := by simpa using c0
        rw [if_neg c0]
        repeat' (first | (refine wNil ?_) | (refine xPure ?_) | (refine xMk ?_; intro id hid; (try simp only [set_none_iff] at hid); refine mkDo ?_) | (refine xChk ?_) | (refine xChkF ?_) | (refine xSkip ?_) | (refine xCall rfl rfl (k64) ?_; rintro r h2 ⟨rfl, rfl⟩; refine nTm ?_) | (refine cSeq ?_) | (refine cNorm ?_) | (refine cRet ?_) | (refine cExit ?_) | (refine W_reg rfl ?_) | (refine W_block ?_) | (refine W_ret ?_) | (refine W_skip ?_) | (refine W_exit ?_) | (refine bNorm ?_) | (refine bRet ?_) | (refine bExit ?_) | (refine bExitN rfl ?_) | (refine xMask ?_) | (refine xT ?_) | (refine xF ?_) | (refine xRet ?_) | (refine xNorm ?_) | (refine xSplit ?_ ?_ <;> intro hb <;> (try exact False.elim hb)) | (refine xCond ?_ ?_ <;> intro hb <;> (try exact False.elim hb)))
        all_goals exact ⟨rfl, hrH⟩
    · have c' : (((hd v).1 : Int) != (b.toNat : Int)) = true := by simp; omega
      simp only [if_neg c]
      have c1 : ¬ fl e2 4 = 0 := by unfold fl; split <;> omega
      have c1' : (fl e2 4 != 0) = true := by simpa using c1
      rw [if_neg c1]
      repeat' (first | (refine wNil ?_) | (refine xPure ?_) | (refine xMk ?_; intro id hid; (try simp only [set_none_iff] at hid); refine mkDo ?_) | (refine xChk ?_) | (refine xChkF ?_) | (refine xSkip ?_) | (refine xCall rfl rfl (k64) ?_; rintro r h2 ⟨rfl, rfl⟩; refine nTm ?_) | (refine xCall rfl rfl (sp32 h0 p s2 e2 4 _ hrH) ?_; rintro r h3 hr3; have hp3 := hr3.2.2; refine nTm ?_) | (refine cSeq ?_) | (refine cNorm ?_) | (refine cRet ?_) | (refine cExit ?_) | (refine W_reg rfl ?_) | (refine W_block ?_) | (refine W_ret ?_) | (refine W_skip ?_) | (refine W_exit ?_) | (refine bNorm ?_) | (refine bRet ?_) | (refine bExit ?_) | (refine bExitN rfl ?_) | (refine xMask ?_) | (refine xT ?_) | (refine xF ?_) | (refine xRet ?_) | (refine xNorm ?_) | (refine xSplit ?_ ?_ <;> intro hb <;> (try exact False.elim hb)) | (refine xCond ?_ ?_ <;> intro hb <;> (try exact False.elim hb)))
      all_goals exact ⟨rfl, hr3⟩
end Go.Proofs.YtgekngfnhhdamaaI
set_option linter.unusedVariables false
set_option linter.unusedSimpArgs false
set_option maxRecDepth 100000
set_option maxHeartbeats 4000000
namespace Go.Proofs.YtgekngfnhhdamaaI
open Go Go.Proofs.YtgekngfnhhdamaaM
attribute [local go_sem] aop ev fg_slc fg_slk fg_ptr fg_bool fg_int fg_str fg_iface fg_func fg_agg fg_tup fg_nils fg_nilp fg_nilI fg_nilF fg_und aboundsK alen_nils alen_slc alen_slk aslice_nils aslice_slc aslice_slk awanted abin aun aint aeqn aeqc aeqs apart abounds abnd amaxi amaxiGo cells_agg cells_slc cells_slk cells_ptr cells_bool cells_int cells_str cells_iface cells_func cells_tup cells_nils cells_nilp cells_nilI cells_nilF cells_und sc_slc sc_slk sc_ptr sc_bool sc_int sc_str sc_iface sc_func sc_nils sc_nilp sc_nilI sc_nilF gd_zero gd_succ List.all_cons List.all_nil Bool.and_self Bool.and_true Bool.true_and List.length_cons List.length_nil Option.map_some Option.some.injEq cell_same cell_ne cell_ne' cellsAt_same cellsAt_ne cellsAt_ne' put_same put_of set_same set_ne set_ne' List.getElem?_cons_zero List.getElem?_cons_succ if_true if_false and_self and_true true_and ne_eq not_true_eq_false not_false_eq_true decide_true decide_false Bool.false_eq_true Bool.true_eq_false beq_self_eq_true bne_self_eq_false beq_true beq_false Bool.not_true Bool.not_false List.map_cons List.map_nil putL List.set_cons_zero List.set_cons_succ afill Nat.zero_le Nat.le_refl Nat.zero_add Nat.add_zero List.drop_zero List.drop_succ_cons List.take_zero List.take_succ_cons Bool.not_eq_true Bool.not_eq_false decide_eq_true_eq decide_eq_false_iff_not Int.toNat_zero Nat.sub_zero Int.toNat_natCast Bool.bne_true Bool.bne_false AH.cell AH.cellsAt AH.put Nat.mul_one Nat.one_mul Int.natCast_nonneg List.length_set aslice bs_append bs_size bs_toList bs_extract bs_get List.cons_append List.nil_append List.append_nil AV.scalar Int.le_refl
def tU (s : List UInt8) (e : Int) : List UInt8 × Int × Nat :=
  if e = 0 then (match s with
    | [] => ([], 3, 0)
    | b :: s1 => if b.toNat < 252 then (s1, 0, b.toNat) else ut b.toNat s1 (if b.toNat = 255 then 4 else 0) (if b.toNat = 252 then 2 else if b.toNat = 253 then 4 else 8)) else (s, e, 0)
theorem tk1 (b : UInt8) (s : List UInt8) : tk (b :: s) 0 1 = (s, 0, [b]) := by rw [tk_ok (by simp)]; simp
theorem cons_beq (b : UInt8) (s : List UInt8) : ((b :: s) == []) = false := rfl
/-- (*Reader).U -/
theorem sp19 (h0 : AH) (p : List Nat) (s : List UInt8) (e : Int) (h : AH) (hr : Rd h0 p h s e) : Sp T 19 [.ptr p 0] h (fun r h' => r = .int .u64 (tU s e).2.2 ∧ Rd h0 p h' (tU s e).1 (tU s e).2.1) := by
  unfold tU
  by_cases c0 : e = 0
  · subst c0
    rw [if_pos rfl]
    cases s with
    | nil =>
      have k : Sp T 63 [.ptr p 0, .int .i64 1] h (fun r h' => r = .str (bs (tk [] 0 1).2.2) ∧ Rd h0 p h' (tk [] 0 1).1 (tk [] 0 1).2.1) := sp63 h0 p _ _ 1 h hr
      rw [tk_end (by simp)] at k
      refine Sp_of (fn := f19) rfl (show W T b19 [.ptr p 0, .tup [], .tup [], .tup [], .tup [], .tup [], .tup [], .tup [], .tup [], .tup [], .tup [], .tup [], .tup [], .tup [], .tup [], .tup [], .tup [], .tup [], .tup [], .tup [], .tup [], .tup [], .tup [], .tup [], .tup [], .tup [], .tup [], .tup [], .tup [], .tup [], .tup [], .tup [], .tup [], .tup [], .tup [], .tup [], .tup [], .tup [], .tup [], .tup [], .tup [], .tup [], .tup [], .tup [], .tup [], .tup [], .tup [], .tup [], .tup [], .tup [], .tup [], .tup [], .tup [], .tup [], .tup [], .tup [], .tup [], .tup [], .tup [], .tup [], .tup [], .tup []] _ _ from ?_)
      unfold b19
      repeat' (first | (refine wNil ?_) | (refine xPure ?_) | (refine xMk ?_; intro id hid; (try simp only [set_none_iff] at hid); refine mkDo ?_) | (refine xChk ?_) | (refine xChkF ?_) | (refine xSkip ?_) | (refine xCall rfl rfl (k) ?_; rintro r h2 ⟨rfl, hr2⟩; refine nTm ?_) | (refine cSeq ?_) | (refine cNorm ?_) | (refine cRet ?_) | (refine cExit ?_) | (refine W_reg rfl ?_) | (refine W_block ?_) | (refine W_ret ?_) | (refine W_skip ?_) | (refine W_exit ?_) | (refine bNorm ?_) | (refine bRet ?_) | (refine bExit ?_) | (refine bExitN rfl ?_) | (refine xMask ?_) | (refine xT ?_) | (refine xF ?_) | (refine xRet ?_) | (refine xNorm ?_) | (refine xSplit ?_ ?_ <;> intro hb <;> (try exact False.elim hb)) | (refine xCond ?_ ?_ <;> intro hb <;> (try exact False.elim hb)))
      all_goals exact ⟨rfl, hr2⟩
    | cons b s1 =>
      simp only
      have hbl := b.toNat_lt
      rcases (show b.toNat < 252 ∨ b.toNat = 252 ∨ b.toNat = 253 ∨ b.toNat = 254 ∨ b.toNat = 255 from by omega) with c | c | c | c | c
      ·
        have k : Sp T 63 [.ptr p 0, .int .i64 1] h (fun r h' => r = .str (bs (tk (b :: s1) 0 1).2.2) ∧ Rd h0 p h' (tk (b :: s1) 0 1).1 (tk (b :: s1) 0 1).2.1) := sp63 h0 p _ _ 1 h hr
        rw [tk1] at k
        rw [if_pos c]
        have cc := cons_beq b []
        have cn : (b.toNat : Int) < 252 := by omega
        have cw : IntKind.u64.wrap (b.toNat : Int) = (b.toNat : Int) := wrapU64 (by omega) (by omega)
        refine Sp_of (fn := f19) rfl (show W T b19 [.ptr p 0, .tup [], .tup [], .tup [], .tup [], .tup [], .tup [], .tup [], .tup [], .tup [], .tup [], .tup [], .tup [], .tup [], .tup [], .tup [], .tup [], .tup [], .tup [], .tup [], .tup [], .tup [], .tup [], .tup [], .tup [], .tup [], .tup [], .tup [], .tup [], .tup [], .tup [], .tup [], .tup [], .tup [], .tup [], .tup [], .tup [], .tup [], .tup [], .tup [], .tup [], .tup [], .tup [], .tup [], .tup [], .tup [], .tup [], .tup [], .tup [], .tup [], .tup [], .tup [], .tup [], .tup [], .tup [], .tup [], .tup [], .tup [], .tup [], .tup [], .tup [], .tup []] _ _ from ?_)
        unfold b19
        repeat' (first | (refine wNil ?_) | (refine xPure ?_) | (refine xMk ?_; intro id hid; (try simp only [set_none_iff] at hid); refine mkDo ?_) | (refine xChk ?_) | (refine xChkF ?_) | (refine xSkip ?_) | (refine xCall rfl rfl (k) ?_; rintro r h2 ⟨rfl, hr2⟩; refine nTm ?_) | (refine cSeq ?_) | (refine cNorm ?_) | (refine cRet ?_) | (refine cExit ?_) | (refine W_reg rfl ?_) | (refine W_block ?_) | (refine W_ret ?_) | (refine W_skip ?_) | (refine W_exit ?_) | (refine bNorm ?_) | (refine bRet ?_) | (refine bExit ?_) | (refine bExitN rfl ?_) | (refine xMask ?_) | (refine xT ?_) | (refine xF ?_) | (refine xRet ?_) | (refine xNorm ?_) | (refine xSplit ?_ ?_ <;> intro hb <;> (try exact False.elim hb)) | (refine xCond ?_ ?_ <;> intro hb <;> (try exact False.elim hb)))
        all_goals exact ⟨rfl, hr2⟩
      · rw [if_neg (by omega : ¬ b.toNat = 255)]
        rw [if_pos c]
        have k : Sp T 63 [.ptr p 0, .int .i64 1] h (fun r h' => r = .str (bs (tk (b :: s1) 0 1).2.2) ∧ Rd h0 p h' (tk (b :: s1) 0 1).1 (tk (b :: s1) 0 1).2.1) := sp63 h0 p _ _ 1 h hr
        rw [tk1] at k
        rw [if_neg (by omega : ¬ b.toNat < 252)]
        have cn : ¬ (b.toNat : Int) < 252 := by omega
        have cc := cons_beq b []
        have c252 : ((b.toNat : Int) == 252) = true := by simp; omega
        have c253 : ((b.toNat : Int) == 253) = false := by simp; omega
        have c255 : ((b.toNat : Int) == 255) = false := by simp; omega
        refine Sp_of (fn := f19) rfl (show W T b19 [.ptr p 0, .tup [], .tup [], .tup [], .tup [], .tup [], .tup [], .tup [], .tup [], .tup [], .tup [], .tup [], .tup [], .tup [], .tup [], .tup [], .tup [], .tup [], .tup [], .tup [], .tup [], .tup [], .tup [], .tup [], .tup [], .tup [], .tup [], .tup [], .tup [], .tup [], .tup [], .tup [], .tup [], .tup [], .tup [], .tup [], .tup [], .tup [], .tup [], .tup [], .tup [], .tup [], .tup [], .tup [], .tup [], .tup [], .tup [], .tup [], .tup [], .tup [], .tup [], .tup [], .tup [], .tup [], .tup [], .tup [], .tup [], .tup [], .tup [], .tup [], .tup [], .tup []] _ _ from ?_)
        unfold b19
        repeat' (first | (exact u_tail h0 p b s1 0 2 _ hr2 (by decide)) | (refine wNil ?_) | (refine xPure ?_) | (refine xMk ?_; intro id hid; (try simp only [set_none_iff] at hid); refine mkDo ?_) | (refine xChk ?_) | (refine xChkF ?_) | (refine xSkip ?_) | (refine xCall rfl rfl (k) ?_; rintro r h2 ⟨rfl, hr2⟩; refine nTm ?_) | (refine cSeq ?_) | (refine cNorm ?_) | (refine cRet ?_) | (refine cExit ?_) | (refine W_reg rfl ?_) | (refine W_block ?_) | (refine W_ret ?_) | (refine W_skip ?_) | (refine W_exit ?_) | (refine bNorm ?_) | (refine bRet ?_) | (refine bExit ?_) | (refine bExitN rfl ?_) | (refine xMask ?_) | (refine xT ?_) | (refine xF ?_) | (refine xRet ?_) | (refine xNorm ?_) | (refine xSplit ?_ ?_ <;> intro hb <;> (try exact False.elim hb)) | (refine xCond ?_ ?_ <;> intro hb <;> (try exact False.elim hb)))
      · rw [if_neg (by omega : ¬ b.toNat = 255)]
        rw [if_neg (by omega : ¬ b.toNat = 252), if_pos c]
        have k : Sp T 63 [.ptr p 0, .int .i64 1] h (fun r h' => r = .str (bs (tk (b :: s1) 0 1).2.2) ∧ Rd h0 p h' (tk (b :: s1) 0 1).1 (tk (b :: s1) 0 1).2.1) := sp63 h0 p _ _ 1 h hr
        rw [tk1] at k
        rw [if_neg (by omega : ¬ b.toNat < 252)]
        have cn : ¬ (b.toNat : Int) < 252 := by omega
        have cc := cons_beq b []
        have c252 : ((b.toNat : Int) == 252) = false := by simp; omega
        have c253 : ((b.toNat : Int) == 253) = true := by simp; omega
        have c255 : ((b.toNat : Int) == 255) = false := by simp; omega
        refine Sp_of (fn := f19) rfl (show W T b19 [.ptr p 0, .tup [], .tup [], .tup [], .tup [], .tup [], .tup [], .tup [], .tup [], .tup [], .tup [], .tup [], .tup [], .tup [], .tup [], .tup [], .tup [], .tup [], .tup [], .tup [], .tup [], .tup [], .tup [], .tup [], .tup [], .tup [], .tup [], .tup [], .tup [], .tup [], .tup [], .tup [], .tup [], .tup [], .tup [], .tup [], .tup [], .tup [], .tup [], .tup [], .tup [], .tup [], .tup [], .tup [], .tup [], .tup [], .tup [], .tup [], .tup [], .tup [], .tup [], .tup [], .tup [], .tup [], .tup [], .tup [], .tup [], .tup [], .tup [], .tup [], .tup [], .tup []] _ _ from ?_)
        unfold b19
        repeat' (first | (exact u_tail h0 p b s1 0 4 _ hr2 (by decide)) | (refine wNil ?_) | (refine xPure ?_) | (refine xMk ?_; intro id hid; (try simp only [set_none_iff] at hid); refine mkDo ?_) | (refine xChk ?_) | (refine xChkF ?_) | (refine xSkip ?_) | (refine xCall rfl rfl (k) ?_; rintro r h2 ⟨rfl, hr2⟩; refine nTm ?_) | (refine cSeq ?_) | (refine cNorm ?_) | (refine cRet ?_) | (refine cExit ?_) | (refine W_reg rfl ?_) | (refine W_block ?_) | (refine W_ret ?_) | (refine W_skip ?_) | (refine W_exit ?_) | (refine bNorm ?_) | (refine bRet ?_) | (refine bExit ?_) | (refine bExitN rfl ?_) | (refine xMask ?_) | (refine xT ?_) | (refine xF ?_) | (refine xRet ?_) | (refine xNorm ?_) | (refine xSplit ?_ ?_ <;> intro hb <;> (try exact False.elim hb)) | (refine xCond ?_ ?_ <;> intro hb <;> (try exact False.elim hb)))
      · rw [if_neg (by omega : ¬ b.toNat = 255)]
        rw [if_neg (by omega : ¬ b.toNat = 252), if_neg (by omega : ¬ b.toNat = 253)]
        have k : Sp T 63 [.ptr p 0, .int .i64 1] h (fun r h' => r = .str (bs (tk (b :: s1) 0 1).2.2) ∧ Rd h0 p h' (tk (b :: s1) 0 1).1 (tk (b :: s1) 0 1).2.1) := sp63 h0 p _ _ 1 h hr
        rw [tk1] at k
        rw [if_neg (by omega : ¬ b.toNat < 252)]
        have cn : ¬ (b.toNat : Int) < 252 := by omega
        have cc := cons_beq b []
        have c252 : ((b.toNat : Int) == 252) = false := by simp; omega
        have c253 : ((b.toNat : Int) == 253) = false := by simp; omega
        have c255 : ((b.toNat : Int) == 255) = false := by simp; omega
        refine Sp_of (fn := f19) rfl (show W T b19 [.ptr p 0, .tup [], .tup [], .tup [], .tup [], .tup [], .tup [], .tup [], .tup [], .tup [], .tup [], .tup [], .tup [], .tup [], .tup [], .tup [], .tup [], .tup [], .tup [], .tup [], .tup [], .tup [], .tup [], .tup [], .tup [], .tup [], .tup [], .tup [], .tup [], .tup [], .tup [], .tup [], .tup [], .tup [], .tup [], .tup [], .tup [], .tup [], .tup [], .tup [], .tup [], .tup [], .tup [], .tup [], .tup [], .tup [], .tup [], .tup [], .tup [], .tup [], .tup [], .tup [], .tup [], .tup [], .tup [], .tup [], .tup [], .tup [], .tup [], .tup [], .tup [], .tup []] _ _ from ?_)
        unfold b19
        repeat' (first | (exact u_tail h0 p b s1 0 8 _ hr2 (by decide)) | (refine wNil ?_) | (refine xPure ?_) | (refine xMk ?_; intro id hid; (try simp only [set_none_iff] at hid); refine mkDo ?_) | (refine xChk ?_) | (refine xChkF ?_) | (refine xSkip ?_) | (refine xCall rfl rfl (k) ?_; rintro r h2 ⟨rfl, hr2⟩; refine nTm ?_) | (refine cSeq ?_) | (refine cNorm ?_) | (refine cRet ?_) | (refine cExit ?_) | (refine W_reg rfl ?_) | (refine W_block ?_) | (refine W_ret ?_) | (refine W_skip ?_) | (refine W_exit ?_) | (refine bNorm ?_) | (refine bRet ?_) | (refine bExit ?_) | (refine bExitN rfl ?_) | (refine xMask ?_) | (refine xT ?_) | (refine xF ?_) | (refine xRet ?_) | (refine xNorm ?_) | (refine xSplit ?_ ?_ <;> intro hb <;> (try exact False.elim hb)) | (refine xCond ?_ ?_ <;> intro hb <;> (try exact False.elim hb)))
      · rw [if_pos c]
        rw [if_neg (by omega : ¬ b.toNat = 252), if_neg (by omega : ¬ b.toNat = 253)]
        have k : Sp T 63 [.ptr p 0, .int .i64 1] h (fun r h' => r = .str (bs (tk (b :: s1) 0 1).2.2) ∧ Rd h0 p h' (tk (b :: s1) 0 1).1 (tk (b :: s1) 0 1).2.1) := sp63 h0 p _ _ 1 h hr
        rw [tk1] at k
        rw [if_neg (by omega : ¬ b.toNat < 252)]
        have cn : ¬ (b.toNat : Int) < 252 := by omega
        have cc := cons_beq b []
        have c252 : ((b.toNat : Int) == 252) = false := by simp; omega
        have c253 : ((b.toNat : Int) == 253) = false := by simp; omega
        have c255 : ((b.toNat : Int) == 255) = true := by simp; omega
        refine Sp_of (fn := f19) rfl (show W T b19 [.ptr p 0, .tup [], .tup [], .tup [], .tup [], .tup [], .tup [], .tup [], .tup [], .tup [], .tup [], .tup [], .tup [], .tup [], .tup [], .tup [], .tup [], .tup [], .tup [], .tup [], .tup [], .tup [], .tup [], .tup [], .tup [], .tup [], .tup [], .tup [], .tup [], .tup [], .tup [], .tup [], .tup [], .tup [], .tup [], .tup [], .tup [], .tup [], .tup [], .tup [], .tup [], .tup [], .tup [], .tup [], .tup [], .tup [], .tup [], .tup [], .tup [], .tup [], .tup [], .tup [], .tup [], .tup [], .tup [], .tup [], .tup [], .tup [], .tup [], .tup [], .tup [], .tup []] _ _ from ?_)
        unfold b19
        repeat' (first | (exact u_tail h0 p b s1 4 8 _ hr3 (by decide)) | (refine wNil ?_) | (refine xPure ?_) | (refine xMk ?_; intro id hid; (try simp only [set_none_iff] at hid); refine mkDo ?_) | (refine xChk ?_) | (refine xChkF ?_) | (refine xSkip ?_) | (refine xCall rfl rfl (k) ?_; rintro r h2 ⟨rfl, hr2⟩; refine nTm ?_) | (refine xCall rfl rfl (sp32 h0 p s1 0 4 _ hr2) ?_; rintro r h3 hr3; have hr3 : Rd h0 p h3 s1 4 := hr3; refine nTm ?_) | (refine cSeq ?_) | (refine cNorm ?_) | (refine cRet ?_) | (refine cExit ?_) | (refine W_reg rfl ?_) | (refine W_block ?_) | (refine W_ret ?_) | (refine W_skip ?_) | (refine W_exit ?_) | (refine bNorm ?_) | (refine bRet ?_) | (refine bExit ?_) | (refine bExitN rfl ?_) | (refine xMask ?_) | (refine xT ?_) | (refine xF ?_) | (refine xRet ?_) | (refine xNorm ?_) | (refine xSplit ?_ ?_ <;> intro hb <;> (try exact False.elim hb)) | (refine xCond ?_ ?_ <;> intro hb <;> (try exact False.elim hb)))

  · rw [if_neg c0]
    have k : Sp T 63 [.ptr p 0, .int .i64 1] h (fun r h' => r = .str (bs (tk s e 1).2.2) ∧ Rd h0 p h' (tk s e 1).1 (tk s e 1).2.1) := sp63 h0 p _ _ 1 h hr
    rw [tk_err c0] at k
    refine Sp_of (fn := f19) rfl (show W T b19 [.ptr p 0, .tup [], .tup [], .tup [], .tup [], .tup [], .tup [], .tup [], .tup [], .tup [], .tup [], .tup [], .tup [], .tup [], .tup [], .tup [], .tup [], .tup [], .tup [], .tup [], .tup [], .tup [], .tup [], .tup [], .tup [], .tup [], .tup [], .tup [], .tup [], .tup [], .tup [], .tup [], .tup [], .tup [], .tup [], .tup [], .tup [], .tup [], .tup [], .tup [], .tup [], .tup [], .tup [], .tup [], .tup [], .tup [], .tup [], .tup [], .tup [], .tup [], .tup [], .tup [], .tup [], .tup [], .tup [], .tup [], .tup [], .tup [], .tup [], .tup [], .tup [], .tup []] _ _ from ?_)
    unfold b19
    repeat' (first | (refine wNil ?_) | (refine xPure ?_) | (refine xMk ?_; intro id hid; (try simp only [set_none_iff] at hid); refine mkDo ?_) | (refine xChk ?_) | (refine xChkF ?_) | (refine xSkip ?_) | (refine xCall rfl rfl (k) ?_; rintro r h2 ⟨rfl, hr2⟩; refine nTm ?_) | (refine cSeq ?_) | (refine cNorm ?_) | (refine cRet ?_) | (refine cExit ?_) | (refine W_reg rfl ?_) | (refine W_block ?_) | (refine W_ret ?_) | (refine W_skip ?_) | (refine W_exit ?_) | (refine bNorm ?_) | (refine bRet ?_) | (refine bExit ?_) | (refine bExitN rfl ?_) | (refine xMask ?_) | (refine xT ?_) | (refine xF ?_) | (refine xRet ?_) | (refine xNorm ?_) | (refine xSplit ?_ ?_ <;> intro hb <;> (try exact False.elim hb)) | (refine xCond ?_ ?_ <;> intro hb <;> (try exact False.elim hb)))
    all_goals exact ⟨rfl, hr2⟩
def tN (s : List UInt8) (e most : Int) : List UInt8 × Int × Nat := if most.toNat < (tU s e).2.2 then ((tU s e).1, fl (tU s e).2.1 6, 0) else tU s e
/-- (*Reader).N -/
theorem sp21 (h0 : AH) (p : List Nat) (s : List UInt8) (e most : Int) (h : AH) (hr : Rd h0 p h s e) (hm : most ≤ 9223372036854775807) : Sp T 21 [.ptr p 0, .int .i64 most] h (fun r h' => r = .int .i64 (tN s e most).2.2 ∧ Rd h0 p h' (tN s e most).1 (tN s e most).2.1) := by
  have k := sp19 h0 p s e h hr
  unfold tN
  obtain ⟨⟨s2, e2, v⟩, hq⟩ : ∃ q, tU s e = q := ⟨_, rfl⟩
  simp only [hq] at k ⊢
  clear hq
  have d5 : (if most < 0 then 0 else most) = (most.toNat : Int) := by split <;> omega
  have d6 : IntKind.u64.wrap (most.toNat : Int) = (most.toNat : Int) := wrapU64 (by omega) (by omega)
  by_cases c : most.toNat < v
  · have c' : (most.toNat : Int) < (v : Int) := by omega
    rw [if_pos c]
    refine Sp_of (fn := f21) rfl (show W T b21 [.ptr p 0, .int .i64 most, .tup [], .tup [], .tup [], .tup [], .tup [], .tup [], .tup [], .tup [], .tup [], .tup [], .tup [], .tup [], .tup [], .tup [], .tup []] _ _ from ?_)
    unfold b21
    repeat' (first | (refine wNil ?_) | (refine xPure ?_) | (refine xMk ?_; intro id hid; (try simp only [set_none_iff] at hid); refine mkDo ?_) | (refine xChk ?_) | (refine xChkF ?_) | (refine xSkip ?_) | (refine xCall rfl rfl (k) ?_; rintro r h2 ⟨rfl, hr2⟩; refine nTm ?_) | (refine xCall rfl rfl (sp32 h0 p s2 e2 6 _ hr2) ?_; rintro r h3 hr3; refine nTm ?_) | (refine cSeq ?_) | (refine cNorm ?_) | (refine cRet ?_) | (refine cExit ?_) | (refine W_reg rfl ?_) | (refine W_block ?_) | (refine W_ret ?_) | (refine W_skip ?_) | (refine W_exit ?_) | (refine bNorm ?_) | (refine bRet ?_) | (refine bExit ?_) | (refine bExitN rfl ?_) | (refine xMask ?_) | (refine xT ?_) | (refine xF ?_) | (refine xRet ?_) | (refine xNorm ?_) | (refine xSplit ?_ ?_ <;> intro hb <;> (try exact False.elim hb)) | (refine xCond ?_ ?_ <;> intro hb <;> (try exact False.elim hb)))
    all_goals exact ⟨rfl, hr3⟩
  · have c' : ¬ (most.toNat : Int) < (v : Int) := by omega
    have d7 : IntKind.i64.wrap (v : Int) = (v : Int) := wrap64 (by omega) (by omega)
    rw [if_neg c]
    refine Sp_of (fn := f21) rfl (show W T b21 [.ptr p 0, .int .i64 most, .tup [], .tup [], .tup [], .tup [], .tup [], .tup [], .tup [], .tup [], .tup [], .tup [], .tup [], .tup [], .tup [], .tup [], .tup []] _ _ from ?_)
    unfold b21
    repeat' (first | (refine wNil ?_) | (refine xPure ?_) | (refine xMk ?_; intro id hid; (try simp only [set_none_iff] at hid); refine mkDo ?_) | (refine xChk ?_) | (refine xChkF ?_) | (refine xSkip ?_) | (refine xCall rfl rfl (k) ?_; rintro r h2 ⟨rfl, hr2⟩; refine nTm ?_) | (refine cSeq ?_) | (refine cNorm ?_) | (refine cRet ?_) | (refine cExit ?_) | (refine W_reg rfl ?_) | (refine W_block ?_) | (refine W_ret ?_) | (refine W_skip ?_) | (refine W_exit ?_) | (refine bNorm ?_) | (refine bRet ?_) | (refine bExit ?_) | (refine bExitN rfl ?_) | (refine xMask ?_) | (refine xT ?_) | (refine xF ?_) | (refine xRet ?_) | (refine xNorm ?_) | (refine xSplit ?_ ?_ <;> intro hb <;> (try exact False.elim hb)) | (refine xCond ?_ ?_ <;> intro hb <;> (try exact False.elim hb)))
    all_goals exact ⟨rfl, hr2⟩
def tS (s : List UInt8) (e most : Int) : List UInt8 × Int × List UInt8 := tk (tN s e most).1 (tN s e most).2.1 (tN s e most).2.2
/-- (*Reader).S -/
theorem sp25 (h0 : AH) (p : List Nat) (s : List UInt8) (e most : Int) (h : AH) (hr : Rd h0 p h s e) (hm : most ≤ 9223372036854775807) : Sp T 25 [.ptr p 0, .int .i64 most] h (fun r h' => r = .str (bs (tS s e most).2.2) ∧ Rd h0 p h' (tS s e most).1 (tS s e most).2.1) := by
  have k := sp21 h0 p s e most h hr hm
  unfold tS
  refine Sp_of (fn := f25) rfl (show W T b25 [.ptr p 0, .int .i64 most, .tup [], .tup [], .tup [], .tup [], .tup [], .tup [], .tup [], .tup []] _ _ from ?_)
  unfold b25
  repeat' (first | (refine wNil ?_) | (refine xPure ?_) | (refine xMk ?_; intro id hid; (try simp only [set_none_iff] at hid); refine mkDo ?_) | (refine xChk ?_) | (refine xChkF ?_) | (refine xSkip ?_) | (refine xCall rfl rfl (k) ?_; rintro r h2 ⟨rfl, hr2⟩; refine nTm ?_) | (refine xCall rfl rfl (sp63 h0 p _ _ _ _ hr2) ?_; rintro r h3 ⟨rfl, hr3⟩; refine nTm ?_) | (refine cSeq ?_) | (refine cNorm ?_) | (refine cRet ?_) | (refine cExit ?_) | (refine W_reg rfl ?_) | (refine W_block ?_) | (refine W_ret ?_) | (refine W_skip ?_) | (refine W_exit ?_) | (refine bNorm ?_) | (refine bRet ?_) | (refine bExit ?_) | (refine bExitN rfl ?_) | (refine xMask ?_) | (refine xT ?_) | (refine xF ?_) | (refine xRet ?_) | (refine xNorm ?_) | (refine xSplit ?_ ?_ <;> intro hb <;> (try exact False.elim hb)) | (refine xCond ?_ ?_ <;> intro hb <;> (try exact False.elim hb)))
  all_goals exact ⟨rfl, hr3⟩
def tB (s : List UInt8) (e : Int) : List UInt8 × Int × Bool :=
  if e = 0 then (match s with
    | [] => ([], 3, false)
    | b :: s1 => (s1, if 1 < b.toNat then 4 else 0, [b] == [1])) else (s, e, false)
/-- (*Reader).B -/
theorem sp23 (h0 : AH) (p : List Nat) (s : List UInt8) (e : Int) (h : AH) (hr : Rd h0 p h s e) : Sp T 23 [.ptr p 0] h (fun r h' => r = .bool (tB s e).2.2 ∧ Rd h0 p h' (tB s e).1 (tB s e).2.1) := by
  have nb : (([] : List UInt8) == [1]) = false := rfl
  unfold tB
  by_cases c0 : e = 0
  · subst c0
    rw [if_pos rfl]
    cases s with
    | nil =>
      have k : Sp T 63 [.ptr p 0, .int .i64 1] h (fun r h' => r = .str (bs (tk [] 0 1).2.2) ∧ Rd h0 p h' (tk [] 0 1).1 (tk [] 0 1).2.1) := sp63 h0 p _ _ 1 h hr
      rw [tk_end (by simp)] at k
      refine Sp_of (fn := f23) rfl (show W T b23 [.ptr p 0, .tup [], .tup [], .tup [], .tup [], .tup [], .tup [], .tup [], .tup [], .tup [], .tup [], .tup [], .tup [], .tup [], .tup [], .tup [], .tup []] _ _ from ?_)
      unfold b23
      repeat' (first | (refine wNil ?_) | (refine xPure ?_) | (refine xMk ?_; intro id hid; (try simp only [set_none_iff] at hid); refine mkDo ?_) | (refine xChk ?_) | (refine xChkF ?_) | (refine xSkip ?_) | (refine xCall rfl rfl (k) ?_; rintro r h2 ⟨rfl, hr2⟩; refine nTm ?_) | (refine cSeq ?_) | (refine cNorm ?_) | (refine cRet ?_) | (refine cExit ?_) | (refine W_reg rfl ?_) | (refine W_block ?_) | (refine W_ret ?_) | (refine W_skip ?_) | (refine W_exit ?_) | (refine bNorm ?_) | (refine bRet ?_) | (refine bExit ?_) | (refine bExitN rfl ?_) | (refine xMask ?_) | (refine xT ?_) | (refine xF ?_) | (refine xRet ?_) | (refine xNorm ?_) | (refine xSplit ?_ ?_ <;> intro hb <;> (try exact False.elim hb)) | (refine xCond ?_ ?_ <;> intro hb <;> (try exact False.elim hb)))
      all_goals exact ⟨rfl, hr2⟩
    | cons b s1 =>
      simp only
      have cc := cons_beq b []
      by_cases c : 1 < b.toNat
      · have c' : (1 : Int) < (b.toNat : Int) := by omega
        rw [if_pos c]
        have k : Sp T 63 [.ptr p 0, .int .i64 1] h (fun r h' => r = .str (bs (tk (b :: s1) 0 1).2.2) ∧ Rd h0 p h' (tk (b :: s1) 0 1).1 (tk (b :: s1) 0 1).2.1) := sp63 h0 p _ _ 1 h hr
        rw [tk1] at k
        refine Sp_of (fn := f23) rfl (show W T b23 [.ptr p 0, .tup [], .tup [], .tup [], .tup [], .tup [], .tup [], .tup [], .tup [], .tup [], .tup [], .tup [], .tup [], .tup [], .tup [], .tup [], .tup []] _ _ from ?_)
        unfold b23
        repeat' (first | (refine wNil ?_) | (refine xPure ?_) | (refine xMk ?_; intro id hid; (try simp only [set_none_iff] at hid); refine mkDo ?_) | (refine xChk ?_) | (refine xChkF ?_) | (refine xSkip ?_) | (refine xCall rfl rfl (k) ?_; rintro r h2 ⟨rfl, hr2⟩; refine nTm ?_) | (refine xCall rfl rfl (sp32 h0 p s1 0 4 _ hr2) ?_; rintro r h3 hr3; have hr3 : Rd h0 p h3 s1 4 := hr3; refine nTm ?_) | (refine cSeq ?_) | (refine cNorm ?_) | (refine cRet ?_) | (refine cExit ?_) | (refine W_reg rfl ?_) | (refine W_block ?_) | (refine W_ret ?_) | (refine W_skip ?_) | (refine W_exit ?_) | (refine bNorm ?_) | (refine bRet ?_) | (refine bExit ?_) | (refine bExitN rfl ?_) | (refine xMask ?_) | (refine xT ?_) | (refine xF ?_) | (refine xRet ?_) | (refine xNorm ?_) | (refine xSplit ?_ ?_ <;> intro hb <;> (try exact False.elim hb)) | (refine xCond ?_ ?_ <;> intro hb <;> (try exact False.elim hb)))
        all_goals exact ⟨rfl, hr3⟩
      · have c' : ¬ (1 : Int) < (b.toNat : Int) := by omega
        rw [if_neg c]
        have k : Sp T 63 [.ptr p 0, .int .i64 1] h (fun r h' => r = .str (bs (tk (b :: s1) 0 1).2.2) ∧ Rd h0 p h' (tk (b :: s1) 0 1).1 (tk (b :: s1) 0 1).2.1) := sp63 h0 p _ _ 1 h hr
        rw [tk1] at k
        refine Sp_of (fn := f23) rfl (show W T b23 [.ptr p 0, .tup [], .tup [], .tup [], .tup [], .tup [], .tup [], .tup [], .tup [], .tup [], .tup [], .tup [], .tup [], .tup [], .tup [], .tup [], .tup []] _ _ from ?_)
        unfold b23
        repeat' (first | (refine wNil ?_) | (refine xPure ?_) | (refine xMk ?_; intro id hid; (try simp only [set_none_iff] at hid); refine mkDo ?_) | (refine xChk ?_) | (refine xChkF ?_) | (refine xSkip ?_) | (refine xCall rfl rfl (k) ?_; rintro r h2 ⟨rfl, hr2⟩; refine nTm ?_) | (refine cSeq ?_) | (refine cNorm ?_) | (refine cRet ?_) | (refine cExit ?_) | (refine W_reg rfl ?_) | (refine W_block ?_) | (refine W_ret ?_) | (refine W_skip ?_) | (refine W_exit ?_) | (refine bNorm ?_) | (refine bRet ?_) | (refine bExit ?_) | (refine bExitN rfl ?_) | (refine xMask ?_) | (refine xT ?_) | (refine xF ?_) | (refine xRet ?_) | (refine xNorm ?_) | (refine xSplit ?_ ?_ <;> intro hb <;> (try exact False.elim hb)) | (refine xCond ?_ ?_ <;> intro hb <;> (try exact False.elim hb)))
        all_goals exact ⟨rfl, hr2⟩
  · rw [if_neg c0]
    have k : Sp T 63 [.ptr p 0, .int .i64 1] h (fun r h' => r = .str (bs (tk s e 1).2.2) ∧ Rd h0 p h' (tk s e 1).1 (tk s e 1).2.1) := sp63 h0 p _ _ 1 h hr
    rw [tk_err c0] at k
    refine Sp_of (fn := f23) rfl (show W T b23 [.ptr p 0, .tup [], .tup [], .tup [], .tup [], .tup [], .tup [], .tup [], .tup [], .tup [], .tup [], .tup [], .tup [], .tup [], .tup [], .tup [], .tup []] _ _ from ?_)
    unfold b23
    repeat' (first | (refine wNil ?_) | (refine xPure ?_) | (refine xMk ?_; intro id hid; (try simp only [set_none_iff] at hid); refine mkDo ?_) | (refine xChk ?_) | (refine xChkF ?_) | (refine xSkip ?_) | (refine xCall rfl rfl (k) ?_; rintro r h2 ⟨rfl, hr2⟩; refine nTm ?_) | (refine cSeq ?_) | (refine cNorm ?_) | (refine cRet ?_) | (refine cExit ?_) | (refine W_reg rfl ?_) | (refine W_block ?_) | (refine W_ret ?_) | (refine W_skip ?_) | (refine W_exit ?_) | (refine bNorm ?_) | (refine bRet ?_) | (refine bExit ?_) | (refine bExitN rfl ?_) | (refine xMask ?_) | (refine xT ?_) | (refine xF ?_) | (refine xRet ?_) | (refine xNorm ?_) | (refine xSplit ?_ ?_ <;> intro hb <;> (try exact False.elim hb)) | (refine xCond ?_ ?_ <;> intro hb <;> (try exact False.elim hb)))
    all_goals exact ⟨rfl, hr2⟩
end Go.Proofs.YtgekngfnhhdamaaI
set_option linter.unusedVariables false
set_option linter.unusedSimpArgs false
set_option maxRecDepth 100000
set_option maxHeartbeats 4000000
namespace Go.Proofs.YtgekngfnhhdamaaI
open Go Go.Proofs.YtgekngfnhhdamaaM
attribute [local go_sem] aop ev fg_slc fg_slk fg_ptr fg_bool fg_int fg_str fg_iface fg_func fg_agg fg_tup fg_nils fg_nilp fg_nilI fg_nilF fg_und aboundsK alen_nils alen_slc alen_slk aslice_nils aslice_slc aslice_slk awanted abin aun aint aeqn aeqc aeqs apart abounds abnd amaxi amaxiGo cells_agg cells_slc cells_slk cells_ptr cells_bool cells_int cells_str cells_iface cells_func cells_tup cells_nils cells_nilp cells_nilI cells_nilF cells_und sc_slc sc_slk sc_ptr sc_bool sc_int sc_str sc_iface sc_func sc_nils sc_nilp sc_nilI sc_nilF gd_zero gd_succ List.all_cons List.all_nil Bool.and_self Bool.and_true Bool.true_and List.length_cons List.length_nil Option.map_some Option.some.injEq cell_same cell_ne cell_ne' cellsAt_same cellsAt_ne cellsAt_ne' put_same put_of set_same set_ne set_ne' List.getElem?_cons_zero List.getElem?_cons_succ if_true if_false and_self and_true true_and ne_eq not_true_eq_false not_false_eq_true decide_true decide_false Bool.false_eq_true Bool.true_eq_false beq_self_eq_true bne_self_eq_false beq_true beq_false Bool.not_true Bool.not_false List.map_cons List.map_nil putL List.set_cons_zero List.set_cons_succ afill Nat.zero_le Nat.le_refl Nat.zero_add Nat.add_zero List.drop_zero List.drop_succ_cons List.take_zero List.take_succ_cons Bool.not_eq_true Bool.not_eq_false decide_eq_true_eq decide_eq_false_iff_not Int.toNat_zero Nat.sub_zero Int.toNat_natCast Bool.bne_true Bool.bne_false AH.cell AH.cellsAt AH.put Nat.mul_one Nat.one_mul Int.natCast_nonneg List.length_set aslice bs_append bs_size bs_toList bs_extract bs_get List.cons_append List.nil_append List.append_nil AV.scalar Int.le_refl
theorem val_go : ∀ (l : List UInt8) (a : Nat), l.foldl (fun v b => v * 256 + b.toNat) a = a * 256 ^ l.length + val l
  | [], a => by simp [val]
  | b :: l, a => by
    unfold val
    rw [List.foldl_cons, List.foldl_cons, val_go l, val_go l (0 * 256 + b.toNat), List.length_cons, Nat.pow_succ]
    simp [Nat.add_mul, Nat.mul_assoc, Nat.mul_comm 256, Nat.add_assoc]
theorem val_cons (b : UInt8) (l : List UInt8) : val (b :: l) = b.toNat * 256 ^ l.length + val l := by
  have := val_go l (0 * 256 + b.toNat)
  simpa [val] using this
theorem val_be (v : Nat) : ∀ n, val (be v n) = v % 256 ^ n
  | 0 => by simp [be, val, Nat.mod_one]
  | n + 1 => by
    rw [be, val_cons, be_length, val_be v n, UInt8.toNat_ofNat']
    have h1 : v % 256 ^ (n + 1) = v % (256 ^ n * 256) := by rw [Nat.pow_succ]
    rw [h1, Nat.mod_mul, Nat.mul_comm, Nat.add_comm]
theorem val_be' {v n : Nat} (h : v < 256 ^ n) : val (be v n) = v := by rw [val_be, Nat.mod_eq_of_lt h]
theorem hd_toNat (v : Nat) : (UInt8.ofNat (hd v).1).toNat = (hd v).1 := by have := hd_lt v; simp; omega
theorem Rd.new2 {h0 h : AH} {p q : List Nat} {s : List UInt8} {e : Int} {a b : Option Blk} (hr : Rd h0 p h s e) (hq : h q = none) : Rd (h0.set q b) p ((h.set q a).set q b) s e := by
  rw [set_set]
  exact ⟨hr.1.both, by rw [set_ne (nei hr.2.2 hq)]; exact hr.2.1, by rw [set_ne (nei hr.2.2 hq)]; exact hr.2.2⟩
theorem Rd.drop {h0 h : AH} {p q : List Nat} {s : List UInt8} {e : Int} {b : Option Blk} (hr : Rd (h0.set q b) p h s e) (hq : h0 q = none) : Rd h0 p h s e := by
  refine ⟨fun x c hx => hr.1 x c (by rw [set_ne (nei hx hq)]; exact hx), ?_, hr.2.2⟩
  have := hr.2.1
  by_cases e : p = q
  · rw [e]; exact hq
  · rw [set_ne e] at this; exact this
end Go.Proofs.YtgekngfnhhdamaaI
set_option linter.unusedVariables false
set_option linter.unusedSimpArgs false
set_option maxRecDepth 100000
set_option maxHeartbeats 4000000
namespace Go.Proofs.YtgekngfnhhdamaaI
open Go Go.Proofs.YtgekngfnhhdamaaM
attribute [local go_sem] aop ev fg_slc fg_slk fg_ptr fg_bool fg_int fg_str fg_iface fg_func fg_agg fg_tup fg_nils fg_nilp fg_nilI fg_nilF fg_und aboundsK alen_nils alen_slc alen_slk aslice_nils aslice_slc aslice_slk awanted abin aun aint aeqn aeqc aeqs apart abounds abnd amaxi amaxiGo cells_agg cells_slc cells_slk cells_ptr cells_bool cells_int cells_str cells_iface cells_func cells_tup cells_nils cells_nilp cells_nilI cells_nilF cells_und sc_slc sc_slk sc_ptr sc_bool sc_int sc_str sc_iface sc_func sc_nils sc_nilp sc_nilI sc_nilF gd_zero gd_succ List.all_cons List.all_nil Bool.and_self Bool.and_true Bool.true_and List.length_cons List.length_nil Option.map_some Option.some.injEq cell_same cell_ne cell_ne' cellsAt_same cellsAt_ne cellsAt_ne' put_same put_of set_same set_ne set_ne' List.getElem?_cons_zero List.getElem?_cons_succ if_true if_false and_self and_true true_and ne_eq not_true_eq_false not_false_eq_true decide_true decide_false Bool.false_eq_true Bool.true_eq_false beq_self_eq_true bne_self_eq_false beq_true beq_false Bool.not_true Bool.not_false List.map_cons List.map_nil putL List.set_cons_zero List.set_cons_succ afill Nat.zero_le Nat.le_refl Nat.zero_add Nat.add_zero List.drop_zero List.drop_succ_cons List.take_zero List.take_succ_cons Bool.not_eq_true Bool.not_eq_false decide_eq_true_eq decide_eq_false_iff_not Int.toNat_zero Nat.sub_zero Int.toNat_natCast Bool.bne_true Bool.bne_false AH.cell AH.cellsAt AH.put Nat.mul_one Nat.one_mul Int.natCast_nonneg List.length_set aslice azeros bs_append bs_size bs_toList bs_extract bs_get List.cons_append List.nil_append List.append_nil AV.scalar Int.le_refl
theorem be_add (a : Nat) : ∀ (n v : Nat), be (a * 256 ^ n + v) n = be v n
  | 0, v => rfl
  | n + 1, v => by
    have e1 : a * 256 ^ (n + 1) + v = (a * 256) * 256 ^ n + v := by rw [Nat.pow_succ, Nat.mul_assoc, Nat.mul_comm 256]
    rw [e1, be, be, be_add' a n v]
    congr 1
    have hpos : 0 < 256 ^ n := Nat.pow_pos (by decide)
    have e2 : ((a * 256) * 256 ^ n + v) / 256 ^ n = a * 256 + v / 256 ^ n := by rw [Nat.add_comm, Nat.add_mul_div_right _ _ hpos, Nat.add_comm]
    rw [e2]
    apply UInt8.toNat_inj.1
    simp
where be_add' (a n v : Nat) : be ((a * 256) * 256 ^ n + v) n = be v n := be_add (a * 256) n v
theorem be_val : ∀ t : List UInt8, be (val t) t.length = t
  | [] => rfl
  | b :: t => by
    have h1 := val_lt t.length t rfl
    have hpos : 0 < 256 ^ t.length := Nat.pow_pos (by decide)
    rw [val_cons, List.length_cons, be, be_add, be_val t]
    have e2 : (b.toNat * 256 ^ t.length + val t) / 256 ^ t.length = b.toNat := by rw [Nat.add_comm, Nat.add_mul_div_right _ _ hpos, Nat.div_eq_of_lt h1, Nat.zero_add]
    rw [e2]; simp
theorem hd_two {v b n : Nat} (h : (hd v).1 = b) (hb : (b = 252 ∧ n = 2) ∨ (b = 253 ∧ n = 4) ∨ (b = 254 ∧ n = 8)) : (hd v).2 = n := by
  unfold hd at h ⊢
  by_cases c : v < 252
  · rw [if_pos c] at h; simp only at h; omega
  · rw [if_neg c] at h ⊢
    by_cases c2 : v < 65536
    · rw [if_pos c2] at h ⊢; simp only at h ⊢; omega
    · rw [if_neg c2] at h ⊢
      by_cases c3 : v < 4294967296
      · rw [if_pos c3] at h ⊢; simp only at h ⊢; omega
      · rw [if_neg c3] at h ⊢; simp only at h ⊢; omega
theorem ut_cases {b : UInt8} {s : List UInt8} {n : Nat} (hb : (b.toNat = 252 ∧ n = 2) ∨ (b.toNat = 253 ∧ n = 4) ∨ (b.toNat = 254 ∧ n = 8)) :
    ∃ R v, (ut b.toNat s 0 n = (R, 0, v) ∧ b :: s = encU v ++ R ∧ R.length ≤ s.length ∧ v ≤ 18446744073709551615) ∨ (ut b.toNat s 0 n = (R, 3, 0)) ∨ (ut b.toNat s 0 n = (R, 4, 0)) := by
  have h0 : (hd 0).1 = 0 := rfl
  by_cases c : s.length < n
  · refine ⟨s, 0, .inr (.inl ?_)⟩
    unfold ut
    rw [tk_end c]
    have e : val [] = 0 := rfl
    simp only [e, h0, if_neg (by omega : ¬ 0 = b.toNat)]
    rfl
  · by_cases c1 : (hd (val (s.take n))).1 = b.toNat
    · refine ⟨s.drop n, val (s.take n), .inl ⟨?_, ?_, by simp, ?_⟩⟩
      · unfold ut
        rw [tk_ok c]
        simp only [if_pos c1, if_true]
      · have e2 := hd_two c1 hb
        have e3 : (s.take n).length = n := by rw [List.length_take]; omega
        have e4 := be_val (s.take n)
        rw [e3] at e4
        unfold encU
        rw [c1, e2, e4, List.cons_append, List.take_append_drop]
        simp
      · have e3 : (s.take n).length = n := by rw [List.length_take]; omega
        have h1 := val_lt n (s.take n) e3
        have h2 : 256 ^ n ≤ 256 ^ 8 := Nat.pow_le_pow_right (by decide) (by omega)
        have h3 : (256 : Nat) ^ 8 = 18446744073709551616 := by decide
        omega
    · refine ⟨s.drop n, 0, .inr (.inr ?_)⟩
      unfold ut
      rw [tk_ok c]
      simp only [if_neg c1]
      rfl
theorem tU_cases (b : UInt8) (s : List UInt8) :
    ∃ R v, (tU (b :: s) 0 = (R, 0, v) ∧ b :: s = encU v ++ R ∧ R.length ≤ s.length ∧ v ≤ 18446744073709551615) ∨ (tU (b :: s) 0 = (R, 3, 0)) ∨ (tU (b :: s) 0 = (R, 4, 0)) := by
  have hbl := b.toNat_lt
  unfold tU
  rw [if_pos rfl]
  simp only
  by_cases c : b.toNat < 252
  · rw [if_pos c]
    refine ⟨s, b.toNat, .inl ⟨rfl, ?_, Nat.le_refl _, by omega⟩⟩
    unfold encU hd
    rw [if_pos c]; simp [be]
  · rw [if_neg c]
    by_cases c5 : b.toNat = 255
    · refine ⟨s, 0, .inr (.inr ?_)⟩
      rw [if_pos c5]
      unfold ut
      rw [tk_err (by decide)]
      have e : val [] = 0 := rfl
      have h0 : (hd 0).1 = 0 := rfl
      simp only [e, h0, if_neg (by omega : ¬ 0 = b.toNat)]
      rfl
    · rw [if_neg c5]
      refine ut_cases ?_
      by_cases c2 : b.toNat = 252
      · rw [if_pos c2]; exact .inl ⟨c2, rfl⟩
      · rw [if_neg c2]
        by_cases c3 : b.toNat = 253
        · rw [if_pos c3]; exact .inr (.inl ⟨c3, rfl⟩)
        · rw [if_neg c3]; exact .inr (.inr ⟨by omega, rfl⟩)
end Go.Proofs.YtgekngfnhhdamaaI
set_option linter.unusedVariables false
set_option linter.unusedSimpArgs false
set_option maxRecDepth 100000
set_option maxHeartbeats 4000000
namespace Go.Proofs.YtgekngfnhhdamaaI
open Go Go.Proofs.YtgekngfnhhdamaaM
attribute [local go_sem] aop ev fg_slc fg_slk fg_ptr fg_bool fg_int fg_str fg_iface fg_func fg_agg fg_tup fg_nils fg_nilp fg_nilI fg_nilF fg_und aboundsK alen_nils alen_slc alen_slk aslice_nils aslice_slc aslice_slk awanted abin aun aint aeqn aeqc aeqs apart abounds abnd amaxi amaxiGo cells_agg cells_slc cells_slk cells_ptr cells_bool cells_int cells_str cells_iface cells_func cells_tup cells_nils cells_nilp cells_nilI cells_nilF cells_und sc_slc sc_slk sc_ptr sc_bool sc_int sc_str sc_iface sc_func sc_nils sc_nilp sc_nilI sc_nilF gd_zero gd_succ List.all_cons List.all_nil Bool.and_self Bool.and_true Bool.true_and List.length_cons List.length_nil Option.map_some Option.some.injEq cell_same cell_ne cell_ne' cellsAt_same cellsAt_ne cellsAt_ne' put_same put_of set_same set_ne set_ne' List.getElem?_cons_zero List.getElem?_cons_succ if_true if_false and_self and_true true_and ne_eq not_true_eq_false not_false_eq_true decide_true decide_false Bool.false_eq_true Bool.true_eq_false beq_self_eq_true bne_self_eq_false beq_true beq_false Bool.not_true Bool.not_false List.map_cons List.map_nil putL List.set_cons_zero List.set_cons_succ afill Nat.zero_le Nat.le_refl Nat.zero_add Nat.add_zero List.drop_zero List.drop_succ_cons List.take_zero List.take_succ_cons Bool.not_eq_true Bool.not_eq_false decide_eq_true_eq decide_eq_false_iff_not Int.toNat_zero Nat.sub_zero Int.toNat_natCast Bool.bne_true Bool.bne_false AH.cell AH.cellsAt AH.put Nat.mul_one Nat.one_mul Int.natCast_nonneg List.length_set aslice bs_append bs_size bs_toList bs_extract bs_get List.cons_append List.nil_append List.append_nil AV.scalar Int.le_refl
/-- the document's fail -/
theorem sp62 (s : List UInt8) (e x : Int) (h : AH) : Sp T 62 [.agg [.str (bs s), .int .i64 e], .int .i64 x] h (fun r h' => r = .agg [.str (bs s), .int .i64 (fl e x)] ∧ Up h h') := by
  have hu0 := Up.refl h
  unfold fl
  by_cases c : e = 0
  · subst c
    rw [if_pos rfl]
    refine Sp_of (fn := f62) rfl (show W T b62 [.agg [.str (bs s), .int .i64 0], .int .i64 x, .tup [], .tup [], .tup [], .tup [], .tup [], .tup [], .tup [], .tup [], .tup []] _ _ from ?_)
    unfold b62
    repeat' (first | (refine wNil ?_) | (refine xPure ?_) | (refine xMk ?_; intro id hid; (try simp only [set_none_iff] at hid); have hz := hid; (repeat (replace hz := hz.2)); (try have := Up.none hu0 hz); refine mkDo ?_) | (refine xChk ?_) | (refine xChkF ?_) | (refine xSkip ?_) | (refine cSeq ?_) | (refine cNorm ?_) | (refine cRet ?_) | (refine cExit ?_) | (refine W_reg rfl ?_) | (refine W_block ?_) | (refine W_ret ?_) | (refine W_skip ?_) | (refine W_exit ?_) | (refine bNorm ?_) | (refine bRet ?_) | (refine bExit ?_) | (refine bExitN rfl ?_) | (refine xMask ?_) | (refine xT ?_) | (refine xF ?_) | (refine xRet ?_) | (refine xNorm ?_) | (refine xSplit ?_ ?_ <;> intro hb <;> (try exact False.elim hb)) | (refine xCond ?_ ?_ <;> intro hb <;> (try exact False.elim hb)))
    all_goals (refine ⟨[.agg [.str (bs s), .int .i64 x]], (by simp [ares, ares1, f62, ev, AH.cellsAt, AH.cell, set_same, set_ne', *]), rfl, (by repeat' (first | assumption | exact Up.refl _ | refine Up.new ?_ ?_))⟩)
  · have c' : (e == 0) = false := by simpa using c
    rw [if_neg c]
    refine Sp_of (fn := f62) rfl (show W T b62 [.agg [.str (bs s), .int .i64 e], .int .i64 x, .tup [], .tup [], .tup [], .tup [], .tup [], .tup [], .tup [], .tup [], .tup []] _ _ from ?_)
    unfold b62
    repeat' (first | (refine wNil ?_) | (refine xPure ?_) | (refine xMk ?_; intro id hid; (try simp only [set_none_iff] at hid); have hz := hid; (repeat (replace hz := hz.2)); (try have := Up.none hu0 hz); refine mkDo ?_) | (refine xChk ?_) | (refine xChkF ?_) | (refine xSkip ?_) | (refine cSeq ?_) | (refine cNorm ?_) | (refine cRet ?_) | (refine cExit ?_) | (refine W_reg rfl ?_) | (refine W_block ?_) | (refine W_ret ?_) | (refine W_skip ?_) | (refine W_exit ?_) | (refine bNorm ?_) | (refine bRet ?_) | (refine bExit ?_) | (refine bExitN rfl ?_) | (refine xMask ?_) | (refine xT ?_) | (refine xF ?_) | (refine xRet ?_) | (refine xNorm ?_) | (refine xSplit ?_ ?_ <;> intro hb <;> (try exact False.elim hb)) | (refine xCond ?_ ?_ <;> intro hb <;> (try exact False.elim hb)))
    all_goals (refine ⟨[.agg [.str (bs s), .int .i64 e]], (by simp [ares, ares1, f62, ev, AH.cellsAt, AH.cell, set_same, set_ne', *]), rfl, (by repeat' (first | assumption | exact Up.refl _ | refine Up.new ?_ ?_))⟩)
/-- the document's take -/
theorem sp61 (s : List UInt8) (e : Int) (n : Nat) (h : AH) : Sp T 61 [.agg [.str (bs s), .int .i64 e], .int .i64 n] h (fun r h' => r = .tup [.agg [.str (bs (tk s e n).1), .int .i64 (tk s e n).2.1], .str (bs (tk s e n).2.2)] ∧ Up h h') := by
  have hu0 := Up.refl h
  by_cases c0 : e = 0
  · subst c0
    by_cases c : s.length < n
    · have d1 : (s.length : Int) < (n : Int) := by omega
      rw [tk_end c]
      refine Sp_of (fn := f61) rfl (show W T b61 [.agg [.str (bs s), .int .i64 0], .int .i64 n, .tup [], .tup [], .tup [], .tup [], .tup [], .tup [], .tup [], .tup [], .tup [], .tup [], .tup [], .tup [], .tup [], .tup [], .tup [], .tup [], .tup [], .tup [], .tup [], .tup [], .tup [], .tup [], .tup [], .tup [], .tup [], .tup [], .tup [], .tup []] _ _ from ?_)
      unfold b61
      repeat' (first | (refine wNil ?_) | (refine xPure ?_) | (refine xMk ?_; intro id hid; (try simp only [set_none_iff] at hid); have hz := hid; (repeat (replace hz := hz.2)); (try have := Up.none hu0 hz); refine mkDo ?_) | (refine xChk ?_) | (refine xChkF ?_) | (refine xSkip ?_) | (refine cSeq ?_) | (refine cNorm ?_) | (refine cRet ?_) | (refine cExit ?_) | (refine W_reg rfl ?_) | (refine W_block ?_) | (refine W_ret ?_) | (refine W_skip ?_) | (refine W_exit ?_) | (refine bNorm ?_) | (refine bRet ?_) | (refine bExit ?_) | (refine bExitN rfl ?_) | (refine xMask ?_) | (refine xT ?_) | (refine xF ?_) | (refine xRet ?_) | (refine xNorm ?_) | (refine xSplit ?_ ?_ <;> intro hb <;> (try exact False.elim hb)) | (refine xCond ?_ ?_ <;> intro hb <;> (try exact False.elim hb)))
      all_goals (refine ⟨[.agg [.str (bs s), .int .i64 3], .str (bs [])], (by simp [ares, ares1, f61, ev, AH.cellsAt, AH.cell, set_same, set_ne', *]), rfl, (by repeat' (first | assumption | exact Up.refl _ | refine Up.new ?_ ?_))⟩)
    · have d1 : ¬ (s.length : Int) < (n : Int) := by omega
      have d2 : (n : Int) ≤ (s.length : Int) := by omega
      have d3 : n ≤ s.length := by omega
      rw [tk_ok c]
      have d4 : List.take (s.length - n) (List.drop n s) = List.drop n s := List.take_of_length_le (by simp)
      refine Sp_of (fn := f61) rfl (show W T b61 [.agg [.str (bs s), .int .i64 0], .int .i64 n, .tup [], .tup [], .tup [], .tup [], .tup [], .tup [], .tup [], .tup [], .tup [], .tup [], .tup [], .tup [], .tup [], .tup [], .tup [], .tup [], .tup [], .tup [], .tup [], .tup [], .tup [], .tup [], .tup [], .tup [], .tup [], .tup [], .tup [], .tup []] _ _ from ?_)
      unfold b61
      repeat' (first | (refine wNil ?_) | (refine xPure ?_) | (refine xMk ?_; intro id hid; (try simp only [set_none_iff] at hid); have hz := hid; (repeat (replace hz := hz.2)); (try have := Up.none hu0 hz); refine mkDo ?_) | (refine xChk ?_) | (refine xChkF ?_) | (refine xSkip ?_) | (refine cSeq ?_) | (refine cNorm ?_) | (refine cRet ?_) | (refine cExit ?_) | (refine W_reg rfl ?_) | (refine W_block ?_) | (refine W_ret ?_) | (refine W_skip ?_) | (refine W_exit ?_) | (refine bNorm ?_) | (refine bRet ?_) | (refine bExit ?_) | (refine bExitN rfl ?_) | (refine xMask ?_) | (refine xT ?_) | (refine xF ?_) | (refine xRet ?_) | (refine xNorm ?_) | (refine xSplit ?_ ?_ <;> intro hb <;> (try exact False.elim hb)) | (refine xCond ?_ ?_ <;> intro hb <;> (try exact False.elim hb)))
      all_goals (refine ⟨[.agg [.str (bs (s.drop n)), .int .i64 0], .str (bs (s.take n))], (by simp [ares, ares1, f61, ev, AH.cellsAt, AH.cell, set_same, set_ne', *]), rfl, (by repeat' (first | assumption | exact Up.refl _ | refine Up.new ?_ ?_))⟩)
  · have c' : (e == 0) = false := by simpa using c0
    have c'' : (e != 0) = true := by simpa using c0
    rw [tk_err c0]
    refine Sp_of (fn := f61) rfl (show W T b61 [.agg [.str (bs s), .int .i64 e], .int .i64 n, .tup [], .tup [], .tup [], .tup [], .tup [], .tup [], .tup [], .tup [], .tup [], .tup [], .tup [], .tup [], .tup [], .tup [], .tup [], .tup [], .tup [], .tup [], .tup [], .tup [], .tup [], .tup [], .tup [], .tup [], .tup [], .tup [], .tup [], .tup []] _ _ from ?_)
    unfold b61
    repeat' (first | (refine wNil ?_) | (refine xPure ?_) | (refine xMk ?_; intro id hid; (try simp only [set_none_iff] at hid); have hz := hid; (repeat (replace hz := hz.2)); (try have := Up.none hu0 hz); refine mkDo ?_) | (refine xChk ?_) | (refine xChkF ?_) | (refine xSkip ?_) | (refine cSeq ?_) | (refine cNorm ?_) | (refine cRet ?_) | (refine cExit ?_) | (refine W_reg rfl ?_) | (refine W_block ?_) | (refine W_ret ?_) | (refine W_skip ?_) | (refine W_exit ?_) | (refine bNorm ?_) | (refine bRet ?_) | (refine bExit ?_) | (refine bExitN rfl ?_) | (refine xMask ?_) | (refine xT ?_) | (refine xF ?_) | (refine xRet ?_) | (refine xNorm ?_) | (refine xSplit ?_ ?_ <;> intro hb <;> (try exact False.elim hb)) | (refine xCond ?_ ?_ <;> intro hb <;> (try exact False.elim hb)))
    all_goals (refine ⟨[.agg [.str (bs s), .int .i64 e], .str (bs [])], (by simp [ares, ares1, f61, ev, AH.cellsAt, AH.cell, set_same, set_ne', *]), rfl, (by repeat' (first | assumption | exact Up.refl _ | refine Up.new ?_ ?_))⟩)
end Go.Proofs.YtgekngfnhhdamaaI
set_option linter.unusedVariables false
set_option linter.unusedSimpArgs false
set_option maxRecDepth 100000
set_option maxHeartbeats 4000000
namespace Go.Proofs.YtgekngfnhhdamaaI
open Go Go.Proofs.YtgekngfnhhdamaaM
attribute [local go_sem] aop ev fg_slc fg_slk fg_ptr fg_bool fg_int fg_str fg_iface fg_func fg_agg fg_tup fg_nils fg_nilp fg_nilI fg_nilF fg_und aboundsK alen_nils alen_slc alen_slk aslice_nils aslice_slc aslice_slk awanted abin aun aint aeqn aeqc aeqs apart abounds abnd amaxi amaxiGo cells_agg cells_slc cells_slk cells_ptr cells_bool cells_int cells_str cells_iface cells_func cells_tup cells_nils cells_nilp cells_nilI cells_nilF cells_und sc_slc sc_slk sc_ptr sc_bool sc_int sc_str sc_iface sc_func sc_nils sc_nilp sc_nilI sc_nilF gd_zero gd_succ List.all_cons List.all_nil Bool.and_self Bool.and_true Bool.true_and List.length_cons List.length_nil Option.map_some Option.some.injEq cell_same cell_ne cell_ne' cellsAt_same cellsAt_ne cellsAt_ne' put_same put_of set_same set_ne set_ne' List.getElem?_cons_zero List.getElem?_cons_succ if_true if_false and_self and_true true_and ne_eq not_true_eq_false not_false_eq_true decide_true decide_false Bool.false_eq_true Bool.true_eq_false beq_self_eq_true bne_self_eq_false beq_true beq_false Bool.not_true Bool.not_false List.map_cons List.map_nil putL List.set_cons_zero List.set_cons_succ afill Nat.zero_le Nat.le_refl Nat.zero_add Nat.add_zero List.drop_zero List.drop_succ_cons List.take_zero List.take_succ_cons Bool.not_eq_true Bool.not_eq_false decide_eq_true_eq decide_eq_false_iff_not Int.toNat_zero Nat.sub_zero Int.toNat_natCast Bool.bne_true Bool.bne_false AH.cell AH.cellsAt AH.put Nat.mul_one Nat.one_mul Int.natCast_nonneg List.length_set aslice bs_append bs_size bs_toList bs_extract bs_get List.cons_append List.nil_append List.append_nil AV.scalar Int.le_refl
def b18g : ICode :=
 (.seq (.reg [(0, false)] r18_19)
 (.seq (.seq (.reg [(0, false)] r18_20)
 (.seq (.block 1 (.loop (.seq (.mask [2, 5, 6, 7, 8, 9, 10]) (.seq (.seq (.reg [(0, false), (1, false), (2, false)] r18_21)
 (.cond (.t 50) .skip
 (.exit 1)))
 (.seq (.seq (.block 2 (.reg [(0, false), (1, false), (2, false), (3, false), (4, false), (5, false), (6, false), (7, false)] r18_22)) (.mask [2, 5, 6, 7, 8, 9, 10]))
 (.reg [(0, false), (1, false), (2, false)] r18_23)))))) (.mask [2, 5, 7, 8, 9])))
 (.seq (.seq (.reg [(0, false), (1, false), (2, false), (3, false), (4, false), (5, false)] r18_24)
 (.cond (.t 65) (.seq (.reg [(0, false), (1, false), (2, false), (3, false)] r18_25)
 .ret)
 .skip))
 (.seq (.reg [(0, false), (1, false), (2, false), (3, false)] r18_26)
 .ret))))
theorem enc_eq {b : UInt8} {t : List UInt8} (hb : (b.toNat = 252 ∧ t.length = 2) ∨ (b.toNat = 253 ∧ t.length = 4) ∨ (b.toNat = 254 ∧ t.length = 8)) (c : (hd (val t)).1 = b.toNat) : encU (val t) = b :: t := by
  unfold encU
  rw [c, hd_two c hb, be_val]; simp
theorem enc_ne {b : UInt8} {t : List UInt8} (c : ¬ (hd (val t)).1 = b.toNat) : (encU (val t) == b :: t) = false := by
  rw [beq_eq_false_iff_ne]
  intro h
  unfold encU at h
  have := (List.cons.inj h).1
  apply c; rw [← this, hd_toNat]
theorem ref_tail (h00 h : AH) (r q : List Nat) (b : UInt8) (t s2 : List UInt8) (c1 c2 : AV) (hb : (b.toNat = 252 ∧ t.length = 2) ∨ (b.toNat = 253 ∧ t.length = 4) ∨ (b.toNat = 254 ∧ t.length = 8))
    (hr : h r = some ⟨true, [c1, c2]⟩) (hq : h q = some ⟨true, [.str (bs s2), .int .i64 0]⟩) (hrq : r ≠ q) (hu : Up h00 h) (nr : h00 r = none) (a0 a1 a3 a4 a9 a10 a11 a12 a13 a14 a15 a16 a17 a18 a19 a20 a21 a22 a23 a24 a25 a26 a27 a28 a29 a30 a31 a32 a33 a34 a35 a36 a37 a38 a39 a40 a41 a42 a43 a44 a45 a46 a47 a48 a49 a50 a51 a52 a53 a54 a55 a56 a57 a58 a59 a60 a61 a62 a63 a64 a65 a66 a67 a68 a69 : AV) :
    W T b18g [a0, a1, .ptr r 0, a3, a4, .str (bs [b]), .int .i64 t.length, .ptr q 0, .str (bs t), a9, a10, a11, a12, a13, a14, a15, a16, a17, a18, a19, a20, a21, a22, a23, a24, a25, a26, a27, a28, a29, a30, a31, a32, a33, a34, a35, a36, a37, a38, a39, a40, a41, a42, a43, a44, a45, a46, a47, a48, a49, a50, a51, a52, a53, a54, a55, a56, a57, a58, a59, a60, a61, a62, a63, a64, a65, a66, a67, a68, a69] h (Rets f18 (fun v h' => v = .tup [.agg [.str (bs s2), .int .i64 (if (hd (val t)).1 = b.toNat then 0 else 4)], .int .u64 ((if (hd (val t)).1 = b.toNat then val t else 0 : Nat) : Int)] ∧ Up h00 h')) := by
  have hle : t.length ≤ 8 := by omega
  have f4 : fl 0 4 = 4 := rfl
  have hbig := big_no (n := 1 + t.length) (by omega)
  have hvt : val t ≤ 18446744073709551615 := by
    have h1 := val_lt t.length t rfl
    have h2 : 256 ^ t.length ≤ 256 ^ 8 := Nat.pow_le_pow_right (by decide) hle
    have h3 : (256 : Nat) ^ 8 = 18446744073709551616 := by decide
    omega
  have he : ((hd (val t)).1 = b.toNat ∧ encU (val t) = b :: t) ∨ (¬ (hd (val t)).1 = b.toNat ∧ (encU (val t) == b :: t) = false) := by
    by_cases c : (hd (val t)).1 = b.toNat
    · exact .inl ⟨c, enc_eq hb c⟩
    · exact .inr ⟨c, enc_ne c⟩
  clear hb
  unfold b18g
  repeat' (first | (refine wNil ?_) | (refine xPure ?_) | (refine xMk ?_; intro id hid; (try simp only [set_none_iff] at hid); refine mkDo ?_) | (refine xChk ?_) | (refine xChkF ?_) | (refine xSkip ?_) | (refine cSeq ?_) | (refine cNorm ?_) | (refine cRet ?_) | (refine cExit ?_) | (refine W_reg rfl ?_) | (refine W_block ?_) | (refine W_ret ?_) | (refine W_skip ?_) | (refine W_exit ?_) | (refine bNorm ?_) | (refine bRet ?_) | (refine bExit ?_) | (refine bExitN rfl ?_) | (refine xMask ?_) | (refine xT ?_) | (refine xF ?_) | (refine xRet ?_) | (refine xNorm ?_) | (refine xSplit ?_ ?_ <;> intro hb <;> (try exact False.elim hb)) | (refine xCond ?_ ?_ <;> intro hb <;> (try exact False.elim hb)))
  refine W_loop (fun m tm h' => ∃ k, k + m = t.length ∧ h' = h ∧ keep [2, 5, 6, 7, 8, 9, 10] 0 tm = [.und, .und, .ptr r 0, .und, .und, .str (bs [b]), .int .i64 t.length, .ptr q 0, .str (bs t), .int .u64 (val (t.take k) : Int), .int .i64 (k : Nat), .und, .und, .und, .und, .und, .und, .und, .und, .und, .und, .und, .und, .und, .und, .und, .und, .und, .und, .und, .und, .und, .und, .und, .und, .und, .und, .und, .und, .und, .und, .und, .und, .und, .und, .und, .und, .und, .und, .und, .und, .und, .und, .und, .und, .und, .und, .und, .und, .und, .und, .und, .und, .und, .und, .und, .und, .und, .und, .und]) t.length ⟨0, by omega, rfl, rfl⟩ ?_
  rintro m tm h' ⟨k, hk, rfl, htm⟩
  refine cSeq (cMask (cNorm ?_))
  rw [htm]; clear htm
  by_cases hkn : k < t.length
  · have d1 : (k : Int) < (t.length : Int) := by omega
    obtain ⟨x, hx⟩ : ∃ x, t[k]? = some x := ⟨_, List.getElem?_eq_getElem hkn⟩
    have d4 : IntKind.i64.wrap ((k : Int) + 1) = ((k + 1 : Nat) : Int) := by rw [wrap64 (by omega) (by omega)]; rfl
    have v1 := val_lt k (t.take k) (by rw [List.length_take]; omega)
    have v2 : 256 ^ k ≤ 256 ^ 7 := Nat.pow_le_pow_right (by decide) (by omega)
    have v3 := val_take hx
    have v4 := x.toNat_lt
    obtain ⟨v, hv⟩ : ∃ v, val (t.take k) = v := ⟨_, rfl⟩
    rw [hv] at v1 v3 ⊢
    have v5 : v < 72057594037927936 := by have : (256 : Nat) ^ 7 = 72057594037927936 := by decide
                                          omega
    have e1 : IntKind.u64.wrap (256 * (v : Int)) = ((v * 256 : Nat) : Int) := by rw [wrapU64 (by omega) (by omega)]; omega
    have e3 : IntKind.u64.wrap (x.toNat : Int) = (x.toNat : Int) := wrapU64 (by omega) (by omega)
    have e2 : IntKind.u64.wrap (((v * 256 : Nat) : Int) + (x.toNat : Int)) = ((v * 256 + x.toNat : Nat) : Int) := by rw [wrapU64 (by omega) (by omega)]; omega
    clear v1 v2 hv he hvt
    repeat' (first | (refine wNil ?_) | (refine xPure ?_) | (refine xMk ?_; intro id hid; (try simp only [set_none_iff] at hid); refine mkDo ?_) | (refine xChk ?_) | (refine xChkF ?_) | (refine xSkip ?_) | (refine cSeq ?_) | (refine cNorm ?_) | (refine cRet ?_) | (refine cExit ?_) | (refine W_reg rfl ?_) | (refine W_block ?_) | (refine W_ret ?_) | (refine W_skip ?_) | (refine W_exit ?_) | (refine bNorm ?_) | (refine bRet ?_) | (refine bExit ?_) | (refine bExitN rfl ?_) | (refine xMask ?_) | (refine xT ?_) | (refine xF ?_) | (refine xRet ?_) | (refine xNorm ?_) | (refine xSplit ?_ ?_ <;> intro hb <;> (try exact False.elim hb)) | (refine xCond ?_ ?_ <;> intro hb <;> (try exact False.elim hb)))
    all_goals exact ⟨m - 1, by omega, k + 1, by omega, rfl, by rw [v3]; simp only [keep, List.contains_cons, List.contains_nil, Nat.reduceBEq, Bool.or_true, Bool.true_or, Bool.or_false, Bool.false_or, if_true, if_false, Bool.false_eq_true, beq_self_eq_true, Nat.zero_add, Nat.reduceAdd, eq_self]⟩
  · have d1 : ¬ (k : Int) < (t.length : Int) := by omega
    rw [List.take_of_length_le (by omega)]
    obtain ⟨v, hv⟩ : ∃ v, val t = v := ⟨_, rfl⟩
    rw [hv] at he hvt ⊢
    rcases he with ⟨c, he⟩ | ⟨c, he⟩
    · rw [if_pos c, if_pos c]
      repeat' (first | (refine wNil ?_) | (refine xPure ?_) | (refine xMk ?_; intro id hid; (try simp only [set_none_iff] at hid); refine mkDo ?_) | (refine xChk ?_) | (refine xChkF ?_) | (refine xSkip ?_) | (refine xCall rfl rfl (sp57 v _ hvt) ?_; rintro r' h2 ⟨rfl, hU⟩; have hq2 := hU _ _ hq; have hr2 := hU _ _ hr; have hu2 := hu.trans hU; refine nTm ?_) | (refine cSeq ?_) | (refine cNorm ?_) | (refine cRet ?_) | (refine cExit ?_) | (refine W_reg rfl ?_) | (refine W_block ?_) | (refine W_ret ?_) | (refine W_skip ?_) | (refine W_exit ?_) | (refine bNorm ?_) | (refine bRet ?_) | (refine bExit ?_) | (refine bExitN rfl ?_) | (refine xMask ?_) | (refine xT ?_) | (refine xF ?_) | (refine xRet ?_) | (refine xNorm ?_) | (refine xSplit ?_ ?_ <;> intro hb <;> (try exact False.elim hb)) | (refine xCond ?_ ?_ <;> intro hb <;> (try exact False.elim hb)))
      all_goals (refine ⟨[.agg [.str (bs s2), .int .i64 0], .int .u64 v], (by simp [ares, ares1, f18, ev, AH.cellsAt, AH.cell, set_same, set_ne', *]), rfl, (by repeat' (first | assumption | exact Up.refl _ | refine Up.new ?_ ?_))⟩)
    · rw [if_neg c, if_neg c]
      repeat' (first | (refine wNil ?_) | (refine xPure ?_) | (refine xMk ?_; intro id hid; (try simp only [set_none_iff] at hid); refine mkDo ?_) | (refine xChk ?_) | (refine xChkF ?_) | (refine xSkip ?_) | (refine xCall rfl rfl (sp57 v _ hvt) ?_; rintro r' h2 ⟨rfl, hU⟩; have hq2 := hU _ _ hq; have hr2 := hU _ _ hr; have hu2 := hu.trans hU; refine nTm ?_) | (refine xCall rfl rfl (sp62 s2 0 4 _) ?_; rintro r' h3 ⟨rfl, hU3⟩; have hr3 := hU3 _ _ hr2; have hu3 := hu2.trans hU3; refine nTm ?_) | (refine cSeq ?_) | (refine cNorm ?_) | (refine cRet ?_) | (refine cExit ?_) | (refine W_reg rfl ?_) | (refine W_block ?_) | (refine W_ret ?_) | (refine W_skip ?_) | (refine W_exit ?_) | (refine bNorm ?_) | (refine bRet ?_) | (refine bExit ?_) | (refine bExitN rfl ?_) | (refine xMask ?_) | (refine xT ?_) | (refine xF ?_) | (refine xRet ?_) | (refine xNorm ?_) | (refine xSplit ?_ ?_ <;> intro hb <;> (try exact False.elim hb)) | (refine xCond ?_ ?_ <;> intro hb <;> (try exact False.elim hb)))
      all_goals (refine ⟨[.agg [.str (bs s2), .int .i64 4], .int .u64 0], (by simp [ares, ares1, f18, ev, AH.cellsAt, AH.cell, set_same, set_ne', *]), rfl, (by repeat' (first | assumption | exact Up.refl _ | refine Up.new ?_ ?_))⟩)
theorem tU_long {b : UInt8} {s1 : List UInt8} {n : Nat} (hb : (b.toNat = 252 ∧ n = 2) ∨ (b.toNat = 253 ∧ n = 4) ∨ (b.toNat = 254 ∧ n = 8)) : tU (b :: s1) 0 = (if s1.length < n then (s1, 3, 0) else (s1.drop n, if (hd (val (s1.take n))).1 = b.toNat then 0 else 4, if (hd (val (s1.take n))).1 = b.toNat then val (s1.take n) else 0)) := by
  have e : tU (b :: s1) 0 = ut b.toNat s1 0 n := by
    unfold tU
    rw [if_pos rfl]
    simp only
    rw [if_neg (by omega), if_neg (by omega)]
    rcases hb with ⟨h, rfl⟩ | ⟨h, rfl⟩ | ⟨h, rfl⟩
    · rw [if_pos h]
    · rw [if_neg (by omega), if_pos h]
    · rw [if_neg (by omega), if_neg (by omega)]
  rw [e]
  unfold ut
  by_cases c : s1.length < n
  · rw [tk_end c, if_pos c]
    have e1 : val [] = 0 := rfl
    have h0 : (hd 0).1 = 0 := rfl
    simp only [e1, h0, if_neg (by omega : ¬ 0 = b.toNat)]
    rfl
  · rw [tk_ok c, if_neg c]
    by_cases c1 : (hd (val (s1.take n))).1 = b.toNat
    · simp only [if_pos c1, if_true]
    · simp only [if_neg c1]; rfl
/-- the document's TakeU -/
theorem sp18 (s : List UInt8) (e : Int) (h : AH) : Sp T 18 [.agg [.str (bs s), .int .i64 e]] h (fun r h' => r = .tup [.agg [.str (bs (tU s e).1), .int .i64 (tU s e).2.1], .int .u64 (tU s e).2.2] ∧ Up h h') := by
  have hu0 := Up.refl h
  have f4 : fl 0 4 = 4 := rfl
  by_cases c0 : e = 0
  · subst c0
    cases s with
    | nil =>
      have eU : tU [] 0 = ([], 3, 0) := rfl
      rw [eU]
      have k1 : ∀ h, Sp T 61 [.agg [.str (bs []), .int .i64 0], .int .i64 1] h (fun r h' => r = .tup [.agg [.str (bs (tk [] 0 1).1), .int .i64 (tk [] 0 1).2.1], .str (bs (tk [] 0 1).2.2)] ∧ Up h h') := fun h => sp61 _ _ 1 h
      rw [tk_end (by simp)] at k1
      refine Sp_of (fn := f18) rfl (show W T b18 [.agg [.str (bs []), .int .i64 0], .tup [], .tup [], .tup [], .tup [], .tup [], .tup [], .tup [], .tup [], .tup [], .tup [], .tup [], .tup [], .tup [], .tup [], .tup [], .tup [], .tup [], .tup [], .tup [], .tup [], .tup [], .tup [], .tup [], .tup [], .tup [], .tup [], .tup [], .tup [], .tup [], .tup [], .tup [], .tup [], .tup [], .tup [], .tup [], .tup [], .tup [], .tup [], .tup [], .tup [], .tup [], .tup [], .tup [], .tup [], .tup [], .tup [], .tup [], .tup [], .tup [], .tup [], .tup [], .tup [], .tup [], .tup [], .tup [], .tup [], .tup [], .tup [], .tup [], .tup [], .tup [], .tup [], .tup [], .tup [], .tup [], .tup [], .tup [], .tup [], .tup []] _ _ from ?_)
      unfold b18
      repeat' (first | (refine wNil ?_) | (refine xPure ?_) | (refine xMk ?_; intro id hid; (try simp only [set_none_iff] at hid); have hz := hid; (repeat (replace hz := hz.2)); (try have := nei g2 hz); (try have := nei g5 hz); (try have := Up.none hu0 hz); (try have := Up.none hu2 hz); (try have := Up.none hu5 hz); refine mkDo ?_) | (refine xChk ?_) | (refine xChkF ?_) | (refine xSkip ?_) | (refine xCall rfl rfl (k1 _) ?_; rintro r h2 ⟨rfl, hU2⟩; have hu2 : Up h h2 := Up.trans (by repeat' (first | assumption | exact Up.refl _ | refine Up.new ?_ ?_)) hU2; have g2 := hU2 _ _ set_same; obtain ⟨r2, rfl⟩ : ∃ x, x = id := ⟨_, rfl⟩; refine nTm ?_) | (refine cSeq ?_) | (refine cNorm ?_) | (refine cRet ?_) | (refine cExit ?_) | (refine W_reg rfl ?_) | (refine W_block ?_) | (refine W_ret ?_) | (refine W_skip ?_) | (refine W_exit ?_) | (refine bNorm ?_) | (refine bRet ?_) | (refine bExit ?_) | (refine bExitN rfl ?_) | (refine xMask ?_) | (refine xT ?_) | (refine xF ?_) | (refine xRet ?_) | (refine xNorm ?_) | (refine xSplit ?_ ?_ <;> intro hb <;> (try exact False.elim hb)) | (refine xCond ?_ ?_ <;> intro hb <;> (try exact False.elim hb)))
      all_goals (refine ⟨[.agg [.str (bs []), .int .i64 3], .int .u64 0], (by simp [ares, ares1, f18, ev, AH.cellsAt, AH.cell, set_same, set_ne', *]), rfl, (by repeat' (first | assumption | exact Up.refl _ | refine Up.new ?_ ?_))⟩)
    | cons b s1 =>
      have hbl := b.toNat_lt
      have k1 : ∀ h, Sp T 61 [.agg [.str (bs (b :: s1)), .int .i64 0], .int .i64 1] h (fun r h' => r = .tup [.agg [.str (bs (tk (b :: s1) 0 1).1), .int .i64 (tk (b :: s1) 0 1).2.1], .str (bs (tk (b :: s1) 0 1).2.2)] ∧ Up h h') := fun h => sp61 _ _ 1 h
      rw [tk1] at k1
      have cw : IntKind.u64.wrap (b.toNat : Int) = (b.toNat : Int) := wrapU64 (by omega) (by omega)
      rcases (show b.toNat < 252 ∨ b.toNat = 252 ∨ b.toNat = 253 ∨ b.toNat = 254 ∨ b.toNat = 255 from by omega) with c | c | c | c | c
      · have eU : tU (b :: s1) 0 = (s1, 0, b.toNat) := by unfold tU; rw [if_pos rfl]; simp only [if_pos c]
        rw [eU]
        have k2 : ∀ h, Sp T 61 [.agg [.str (bs s1), .int .i64 0], .int .i64 0] h (fun r h' => r = .tup [.agg [.str (bs (tk s1 0 0).1), .int .i64 (tk s1 0 0).2.1], .str (bs (tk s1 0 0).2.2)] ∧ Up h h') := fun h => sp61 _ _ 0 h
        rw [tk_ok (by omega)] at k2
        simp only [List.drop_zero, List.take_zero] at k2
        have c252 : ((b.toNat : Int) == 252) = false := by simp; omega
        have c253 : ((b.toNat : Int) == 253) = false := by simp; omega
        have c254 : ((b.toNat : Int) == 254) = false := by simp; omega
        have c255 : ((b.toNat : Int) == 255) = false := by simp; omega
        refine Sp_of (fn := f18) rfl (show W T b18 [.agg [.str (bs (b :: s1)), .int .i64 0], .tup [], .tup [], .tup [], .tup [], .tup [], .tup [], .tup [], .tup [], .tup [], .tup [], .tup [], .tup [], .tup [], .tup [], .tup [], .tup [], .tup [], .tup [], .tup [], .tup [], .tup [], .tup [], .tup [], .tup [], .tup [], .tup [], .tup [], .tup [], .tup [], .tup [], .tup [], .tup [], .tup [], .tup [], .tup [], .tup [], .tup [], .tup [], .tup [], .tup [], .tup [], .tup [], .tup [], .tup [], .tup [], .tup [], .tup [], .tup [], .tup [], .tup [], .tup [], .tup [], .tup [], .tup [], .tup [], .tup [], .tup [], .tup [], .tup [], .tup [], .tup [], .tup [], .tup [], .tup [], .tup [], .tup [], .tup [], .tup [], .tup []] _ _ from ?_)
        unfold b18
        repeat' (first | (refine wNil ?_) | (refine xPure ?_) | (refine xMk ?_; intro id hid; (try simp only [set_none_iff] at hid); have hz := hid; (repeat (replace hz := hz.2)); (try have := nei g2 hz); (try have := nei g5 hz); (try have := Up.none hu0 hz); (try have := Up.none hu2 hz); (try have := Up.none hu5 hz); refine mkDo ?_) | (refine xChk ?_) | (refine xChkF ?_) | (refine xSkip ?_) | (refine xCall rfl rfl (k1 _) ?_; rintro r h2 ⟨rfl, hU2⟩; have hu2 : Up h h2 := Up.trans (by repeat' (first | assumption | exact Up.refl _ | refine Up.new ?_ ?_)) hU2; have g2 := hU2 _ _ set_same; obtain ⟨r2, rfl⟩ : ∃ x, x = id := ⟨_, rfl⟩; refine nTm ?_) | (refine xCall rfl rfl (k2 _) ?_; rintro r h5 ⟨rfl, hU5⟩; have hu5 : Up h h5 := Up.trans (by repeat' (first | assumption | exact Up.refl _ | refine Up.new ?_ ?_)) hU5; have g4 := hU5 _ _ set_same; have g5 : h5 r2 = some ⟨true, [.str (bs []), .int .i64 0]⟩ := hU5 _ _ (by simp only [go_sem, *]); refine nTm ?_) | (refine cSeq ?_) | (refine cNorm ?_) | (refine cRet ?_) | (refine cExit ?_) | (refine W_reg rfl ?_) | (refine W_block ?_) | (refine W_ret ?_) | (refine W_skip ?_) | (refine W_exit ?_) | (refine bNorm ?_) | (refine bRet ?_) | (refine bExit ?_) | (refine bExitN rfl ?_) | (refine xMask ?_) | (refine xT ?_) | (refine xF ?_) | (refine xRet ?_) | (refine xNorm ?_) | (refine xSplit ?_ ?_ <;> intro hb <;> (try exact False.elim hb)) | (refine xCond ?_ ?_ <;> intro hb <;> (try exact False.elim hb)))
        all_goals (refine ⟨[.agg [.str (bs s1), .int .i64 0], .int .u64 b.toNat], (by simp [ares, ares1, f18, ev, AH.cellsAt, AH.cell, set_same, set_ne', *]), rfl, (by repeat' (first | assumption | exact Up.refl _ | refine Up.new ?_ ?_))⟩)
      · rw [tU_long (n := 2) (.inl ⟨c, rfl⟩)]
        have c252 : ((b.toNat : Int) == 252) = true := by simp; omega
        have c253 : ((b.toNat : Int) == 253) = false := by simp; omega
        have c254 : ((b.toNat : Int) == 254) = false := by simp; omega
        have c255 : ((b.toNat : Int) == 255) = false := by simp; omega
        by_cases cl : s1.length < 2
        · rw [if_pos cl]
          have k2 : ∀ h, Sp T 61 [.agg [.str (bs s1), .int .i64 0], .int .i64 2] h (fun r h' => r = .tup [.agg [.str (bs (tk s1 0 2).1), .int .i64 (tk s1 0 2).2.1], .str (bs (tk s1 0 2).2.2)] ∧ Up h h') := fun h => sp61 _ _ 2 h
          rw [tk_end cl] at k2
          refine Sp_of (fn := f18) rfl (show W T b18 [.agg [.str (bs (b :: s1)), .int .i64 0], .tup [], .tup [], .tup [], .tup [], .tup [], .tup [], .tup [], .tup [], .tup [], .tup [], .tup [], .tup [], .tup [], .tup [], .tup [], .tup [], .tup [], .tup [], .tup [], .tup [], .tup [], .tup [], .tup [], .tup [], .tup [], .tup [], .tup [], .tup [], .tup [], .tup [], .tup [], .tup [], .tup [], .tup [], .tup [], .tup [], .tup [], .tup [], .tup [], .tup [], .tup [], .tup [], .tup [], .tup [], .tup [], .tup [], .tup [], .tup [], .tup [], .tup [], .tup [], .tup [], .tup [], .tup [], .tup [], .tup [], .tup [], .tup [], .tup [], .tup [], .tup [], .tup [], .tup [], .tup [], .tup [], .tup [], .tup [], .tup [], .tup []] _ _ from ?_)
          unfold b18
          repeat' (first | (refine wNil ?_) | (refine xPure ?_) | (refine xMk ?_; intro id hid; (try simp only [set_none_iff] at hid); have hz := hid; (repeat (replace hz := hz.2)); (try have := nei g2 hz); (try have := nei g5 hz); (try have := Up.none hu0 hz); (try have := Up.none hu2 hz); (try have := Up.none hu5 hz); refine mkDo ?_) | (refine xChk ?_) | (refine xChkF ?_) | (refine xSkip ?_) | (refine xCall rfl rfl (k1 _) ?_; rintro r h2 ⟨rfl, hU2⟩; have hu2 : Up h h2 := Up.trans (by repeat' (first | assumption | exact Up.refl _ | refine Up.new ?_ ?_)) hU2; have g2 := hU2 _ _ set_same; obtain ⟨r2, rfl⟩ : ∃ x, x = id := ⟨_, rfl⟩; refine nTm ?_) | (refine xCall rfl rfl (k2 _) ?_; rintro r h5 ⟨rfl, hU5⟩; have hu5 : Up h h5 := Up.trans (by repeat' (first | assumption | exact Up.refl _ | refine Up.new ?_ ?_)) hU5; have g4 := hU5 _ _ set_same; have g5 : h5 r2 = some ⟨true, [.str (bs []), .int .i64 0]⟩ := hU5 _ _ (by simp only [go_sem, *]); refine nTm ?_) | (refine cSeq ?_) | (refine cNorm ?_) | (refine cRet ?_) | (refine cExit ?_) | (refine W_reg rfl ?_) | (refine W_block ?_) | (refine W_ret ?_) | (refine W_skip ?_) | (refine W_exit ?_) | (refine bNorm ?_) | (refine bRet ?_) | (refine bExit ?_) | (refine bExitN rfl ?_) | (refine xMask ?_) | (refine xT ?_) | (refine xF ?_) | (refine xRet ?_) | (refine xNorm ?_) | (refine xSplit ?_ ?_ <;> intro hb <;> (try exact False.elim hb)) | (refine xCond ?_ ?_ <;> intro hb <;> (try exact False.elim hb)))
          all_goals (refine ⟨[.agg [.str (bs s1), .int .i64 3], .int .u64 0], (by simp [ares, ares1, f18, ev, AH.cellsAt, AH.cell, set_same, set_ne', *]), rfl, (by repeat' (first | assumption | exact Up.refl _ | refine Up.new ?_ ?_))⟩)
        · rw [if_neg cl]
          have k2 : ∀ h, Sp T 61 [.agg [.str (bs s1), .int .i64 0], .int .i64 2] h (fun r h' => r = .tup [.agg [.str (bs (tk s1 0 2).1), .int .i64 (tk s1 0 2).2.1], .str (bs (tk s1 0 2).2.2)] ∧ Up h h') := fun h => sp61 _ _ 2 h
          rw [tk_ok cl] at k2
          have hlen : (s1.take 2).length = 2 := by rw [List.length_take]; omega
          have ht := fun h00 h r q c1 c2 hr hq hrq hu nr => ref_tail h00 h r q b (s1.take 2) (s1.drop 2) c1 c2 (by rw [hlen]; exact .inl ⟨c, rfl⟩) hr hq hrq hu nr
          rw [hlen] at ht
          clear hlen
          refine Sp_of (fn := f18) rfl (show W T b18 [.agg [.str (bs (b :: s1)), .int .i64 0], .tup [], .tup [], .tup [], .tup [], .tup [], .tup [], .tup [], .tup [], .tup [], .tup [], .tup [], .tup [], .tup [], .tup [], .tup [], .tup [], .tup [], .tup [], .tup [], .tup [], .tup [], .tup [], .tup [], .tup [], .tup [], .tup [], .tup [], .tup [], .tup [], .tup [], .tup [], .tup [], .tup [], .tup [], .tup [], .tup [], .tup [], .tup [], .tup [], .tup [], .tup [], .tup [], .tup [], .tup [], .tup [], .tup [], .tup [], .tup [], .tup [], .tup [], .tup [], .tup [], .tup [], .tup [], .tup [], .tup [], .tup [], .tup [], .tup [], .tup [], .tup [], .tup [], .tup [], .tup [], .tup [], .tup [], .tup [], .tup [], .tup []] _ _ from ?_)
          unfold b18
          repeat' (first | (exact ht h _ r2 id _ _ (by simp only [go_sem, *]; exact rfl) set_same (by first | assumption | exact nei g5 hid) (by repeat' (first | assumption | exact Up.refl _ | refine Up.new ?_ ?_)) (by assumption) _ _ _ _ _ _ _ _ _ _ _ _ _ _ _ _ _ _ _ _ _ _ _ _ _ _ _ _ _ _ _ _ _ _ _ _ _ _ _ _ _ _ _ _ _ _ _ _ _ _ _ _ _ _ _ _ _ _ _ _ _ _ _ _ _) | (refine wNil ?_) | (refine xPure ?_) | (refine xMk ?_; intro id hid; (try simp only [set_none_iff] at hid); have hz := hid; (repeat (replace hz := hz.2)); (try have := nei g2 hz); (try have := nei g5 hz); (try have := Up.none hu0 hz); (try have := Up.none hu2 hz); (try have := Up.none hu5 hz); refine mkDo ?_) | (refine xChk ?_) | (refine xChkF ?_) | (refine xSkip ?_) | (refine xCall rfl rfl (k1 _) ?_; rintro r h2 ⟨rfl, hU2⟩; have hu2 : Up h h2 := Up.trans (by repeat' (first | assumption | exact Up.refl _ | refine Up.new ?_ ?_)) hU2; have g2 := hU2 _ _ set_same; obtain ⟨r2, rfl⟩ : ∃ x, x = id := ⟨_, rfl⟩; refine nTm ?_) | (refine xCall rfl rfl (k2 _) ?_; rintro r h5 ⟨rfl, hU5⟩; have hu5 : Up h h5 := Up.trans (by repeat' (first | assumption | exact Up.refl _ | refine Up.new ?_ ?_)) hU5; have g4 := hU5 _ _ set_same; have g5 : h5 r2 = some ⟨true, [.str (bs []), .int .i64 0]⟩ := hU5 _ _ (by simp only [go_sem, *]); refine nTm ?_) | (refine cSeq ?_) | (refine cNorm ?_) | (refine cRet ?_) | (refine cExit ?_) | (refine W_reg rfl ?_) | (refine W_block ?_) | (refine W_ret ?_) | (refine W_skip ?_) | (refine W_exit ?_) | (refine bNorm ?_) | (refine bRet ?_) | (refine bExit ?_) | (refine bExitN rfl ?_) | (refine xMask ?_) | (refine xT ?_) | (refine xF ?_) | (refine xRet ?_) | (refine xNorm ?_) | (refine xSplit ?_ ?_ <;> intro hb <;> (try exact False.elim hb)) | (refine xCond ?_ ?_ <;> intro hb <;> (try exact False.elim hb)))
      · rw [tU_long (n := 4) (.inr (.inl ⟨c, rfl⟩))]
        have c252 : ((b.toNat : Int) == 252) = false := by simp; omega
        have c253 : ((b.toNat : Int) == 253) = true := by simp; omega
        have c254 : ((b.toNat : Int) == 254) = false := by simp; omega
        have c255 : ((b.toNat : Int) == 255) = false := by simp; omega
        by_cases cl : s1.length < 4
        · rw [if_pos cl]
          have k2 : ∀ h, Sp T 61 [.agg [.str (bs s1), .int .i64 0], .int .i64 4] h (fun r h' => r = .tup [.agg [.str (bs (tk s1 0 4).1), .int .i64 (tk s1 0 4).2.1], .str (bs (tk s1 0 4).2.2)] ∧ Up h h') := fun h => sp61 _ _ 4 h
          rw [tk_end cl] at k2
          refine Sp_of (fn := f18) rfl (show W T b18 [.agg [.str (bs (b :: s1)), .int .i64 0], .tup [], .tup [], .tup [], .tup [], .tup [], .tup [], .tup [], .tup [], .tup [], .tup [], .tup [], .tup [], .tup [], .tup [], .tup [], .tup [], .tup [], .tup [], .tup [], .tup [], .tup [], .tup [], .tup [], .tup [], .tup [], .tup [], .tup [], .tup [], .tup [], .tup [], .tup [], .tup [], .tup [], .tup [], .tup [], .tup [], .tup [], .tup [], .tup [], .tup [], .tup [], .tup [], .tup [], .tup [], .tup [], .tup [], .tup [], .tup [], .tup [], .tup [], .tup [], .tup [], .tup [], .tup [], .tup [], .tup [], .tup [], .tup [], .tup [], .tup [], .tup [], .tup [], .tup [], .tup [], .tup [], .tup [], .tup [], .tup [], .tup []] _ _ from ?_)
          unfold b18
          repeat' (first | (refine wNil ?_) | (refine xPure ?_) | (refine xMk ?_; intro id hid; (try simp only [set_none_iff] at hid); have hz := hid; (repeat (replace hz := hz.2)); (try have := nei g2 hz); (try have := nei g5 hz); (try have := Up.none hu0 hz); (try have := Up.none hu2 hz); (try have := Up.none hu5 hz); refine mkDo ?_) | (refine xChk ?_) | (refine xChkF ?_) | (refine xSkip ?_) | (refine xCall rfl rfl (k1 _) ?_; rintro r h2 ⟨rfl, hU2⟩; have hu2 : Up h h2 := Up.trans (by repeat' (first | assumption | exact Up.refl _ | refine Up.new ?_ ?_)) hU2; have g2 := hU2 _ _ set_same; obtain ⟨r2, rfl⟩ : ∃ x, x = id := ⟨_, rfl⟩; refine nTm ?_) | (refine xCall rfl rfl (k2 _) ?_; rintro r h5 ⟨rfl, hU5⟩; have hu5 : Up h h5 := Up.trans (by repeat' (first | assumption | exact Up.refl _ | refine Up.new ?_ ?_)) hU5; have g4 := hU5 _ _ set_same; have g5 : h5 r2 = some ⟨true, [.str (bs []), .int .i64 0]⟩ := hU5 _ _ (by simp only [go_sem, *]); refine nTm ?_) | (refine cSeq ?_) | (refine cNorm ?_) | (refine cRet ?_) | (refine cExit ?_) | (refine W_reg rfl ?_) | (refine W_block ?_) | (refine W_ret ?_) | (refine W_skip ?_) | (refine W_exit ?_) | (refine bNorm ?_) | (refine bRet ?_) | (refine bExit ?_) | (refine bExitN rfl ?_) | (refine xMask ?_) | (refine xT ?_) | (refine xF ?_) | (refine xRet ?_) | (refine xNorm ?_) | (refine xSplit ?_ ?_ <;> intro hb <;> (try exact False.elim hb)) | (refine xCond ?_ ?_ <;> intro hb <;> (try exact False.elim hb)))
          all_goals (refine ⟨[.agg [.str (bs s1), .int .i64 3], .int .u64 0], (by simp [ares, ares1, f18, ev, AH.cellsAt, AH.cell, set_same, set_ne', *]), rfl, (by repeat' (first | assumption | exact Up.refl _ | refine Up.new ?_ ?_))⟩)
        · rw [if_neg cl]
          have k2 : ∀ h, Sp T 61 [.agg [.str (bs s1), .int .i64 0], .int .i64 4] h (fun r h' => r = .tup [.agg [.str (bs (tk s1 0 4).1), .int .i64 (tk s1 0 4).2.1], .str (bs (tk s1 0 4).2.2)] ∧ Up h h') := fun h => sp61 _ _ 4 h
          rw [tk_ok cl] at k2
          have hlen : (s1.take 4).length = 4 := by rw [List.length_take]; omega
          have ht := fun h00 h r q c1 c2 hr hq hrq hu nr => ref_tail h00 h r q b (s1.take 4) (s1.drop 4) c1 c2 (by rw [hlen]; exact .inr (.inl ⟨c, rfl⟩)) hr hq hrq hu nr
          rw [hlen] at ht
          clear hlen
          refine Sp_of (fn := f18) rfl (show W T b18 [.agg [.str (bs (b :: s1)), .int .i64 0], .tup [], .tup [], .tup [], .tup [], .tup [], .tup [], .tup [], .tup [], .tup [], .tup [], .tup [], .tup [], .tup [], .tup [], .tup [], .tup [], .tup [], .tup [], .tup [], .tup [], .tup [], .tup [], .tup [], .tup [], .tup [], .tup [], .tup [], .tup [], .tup [], .tup [], .tup [], .tup [], .tup [], .tup [], .tup [], .tup [], .tup [], .tup [], .tup [], .tup [], .tup [], .tup [], .tup [], .tup [], .tup [], .tup [], .tup [], .tup [], .tup [], .tup [], .tup [], .tup [], .tup [], .tup [], .tup [], .tup [], .tup [], .tup [], .tup [], .tup [], .tup [], .tup [], .tup [], .tup [], .tup [], .tup [], .tup [], .tup [], .tup []] _ _ from ?_)
          unfold b18
          repeat' (first | (exact ht h _ r2 id _ _ (by simp only [go_sem, *]; exact rfl) set_same (by first | assumption | exact nei g5 hid) (by repeat' (first | assumption | exact Up.refl _ | refine Up.new ?_ ?_)) (by assumption) _ _ _ _ _ _ _ _ _ _ _ _ _ _ _ _ _ _ _ _ _ _ _ _ _ _ _ _ _ _ _ _ _ _ _ _ _ _ _ _ _ _ _ _ _ _ _ _ _ _ _ _ _ _ _ _ _ _ _ _ _ _ _ _ _) | (refine wNil ?_) | (refine xPure ?_) | (refine xMk ?_; intro id hid; (try simp only [set_none_iff] at hid); have hz := hid; (repeat (replace hz := hz.2)); (try have := nei g2 hz); (try have := nei g5 hz); (try have := Up.none hu0 hz); (try have := Up.none hu2 hz); (try have := Up.none hu5 hz); refine mkDo ?_) | (refine xChk ?_) | (refine xChkF ?_) | (refine xSkip ?_) | (refine xCall rfl rfl (k1 _) ?_; rintro r h2 ⟨rfl, hU2⟩; have hu2 : Up h h2 := Up.trans (by repeat' (first | assumption | exact Up.refl _ | refine Up.new ?_ ?_)) hU2; have g2 := hU2 _ _ set_same; obtain ⟨r2, rfl⟩ : ∃ x, x = id := ⟨_, rfl⟩; refine nTm ?_) | (refine xCall rfl rfl (k2 _) ?_; rintro r h5 ⟨rfl, hU5⟩; have hu5 : Up h h5 := Up.trans (by repeat' (first | assumption | exact Up.refl _ | refine Up.new ?_ ?_)) hU5; have g4 := hU5 _ _ set_same; have g5 : h5 r2 = some ⟨true, [.str (bs []), .int .i64 0]⟩ := hU5 _ _ (by simp only [go_sem, *]); refine nTm ?_) | (refine cSeq ?_) | (refine cNorm ?_) | (refine cRet ?_) | (refine cExit ?_) | (refine W_reg rfl ?_) | (refine W_block ?_) | (refine W_ret ?_) | (refine W_skip ?_) | (refine W_exit ?_) | (refine bNorm ?_) | (refine bRet ?_) | (refine bExit ?_) | (refine bExitN rfl ?_) | (refine xMask ?_) | (refine xT ?_) | (refine xF ?_) | (refine xRet ?_) | (refine xNorm ?_) | (refine xSplit ?_ ?_ <;> intro hb <;> (try exact False.elim hb)) | (refine xCond ?_ ?_ <;> intro hb <;> (try exact False.elim hb)))
      · rw [tU_long (n := 8) (.inr (.inr ⟨c, rfl⟩))]
        have c252 : ((b.toNat : Int) == 252) = false := by simp; omega
        have c253 : ((b.toNat : Int) == 253) = false := by simp; omega
        have c254 : ((b.toNat : Int) == 254) = true := by simp; omega
        have c255 : ((b.toNat : Int) == 255) = false := by simp; omega
        by_cases cl : s1.length < 8
        · rw [if_pos cl]
          have k2 : ∀ h, Sp T 61 [.agg [.str (bs s1), .int .i64 0], .int .i64 8] h (fun r h' => r = .tup [.agg [.str (bs (tk s1 0 8).1), .int .i64 (tk s1 0 8).2.1], .str (bs (tk s1 0 8).2.2)] ∧ Up h h') := fun h => sp61 _ _ 8 h
          rw [tk_end cl] at k2
          refine Sp_of (fn := f18) rfl (show W T b18 [.agg [.str (bs (b :: s1)), .int .i64 0], .tup [], .tup [], .tup [], .tup [], .tup [], .tup [], .tup [], .tup [], .tup [], .tup [], .tup [], .tup [], .tup [], .tup [], .tup [], .tup [], .tup [], .tup [], .tup [], .tup [], .tup [], .tup [], .tup [], .tup [], .tup [], .tup [], .tup [], .tup [], .tup [], .tup [], .tup [], .tup [], .tup [], .tup [], .tup [], .tup [], .tup [], .tup [], .tup [], .tup [], .tup [], .tup [], .tup [], .tup [], .tup [], .tup [], .tup [], .tup [], .tup [], .tup [], .tup [], .tup [], .tup [], .tup [], .tup [], .tup [], .tup [], .tup [], .tup [], .tup [], .tup [], .tup [], .tup [], .tup [], .tup [], .tup [], .tup [], .tup [], .tup []] _ _ from ?_)
          unfold b18
          repeat' (first | (refine wNil ?_) | (refine xPure ?_) | (refine xMk ?_; intro id hid; (try simp only [set_none_iff] at hid); have hz := hid; (repeat (replace hz := hz.2)); (try have := nei g2 hz); (try have := nei g5 hz); (try have := Up.none hu0 hz); (try have := Up.none hu2 hz); (try have := Up.none hu5 hz); refine mkDo ?_) | (refine xChk ?_) | (refine xChkF ?_) | (refine xSkip ?_) | (refine xCall rfl rfl (k1 _) ?_; rintro r h2 ⟨rfl, hU2⟩; have hu2 : Up h h2 := Up.trans (by repeat' (first | assumption | exact Up.refl _ | refine Up.new ?_ ?_)) hU2; have g2 := hU2 _ _ set_same; obtain ⟨r2, rfl⟩ : ∃ x, x = id := ⟨_, rfl⟩; refine nTm ?_) | (refine xCall rfl rfl (k2 _) ?_; rintro r h5 ⟨rfl, hU5⟩; have hu5 : Up h h5 := Up.trans (by repeat' (first | assumption | exact Up.refl _ | refine Up.new ?_ ?_)) hU5; have g4 := hU5 _ _ set_same; have g5 : h5 r2 = some ⟨true, [.str (bs []), .int .i64 0]⟩ := hU5 _ _ (by simp only [go_sem, *]); refine nTm ?_) | (refine cSeq ?_) | (refine cNorm ?_) | (refine cRet ?_) | (refine cExit ?_) | (refine W_reg rfl ?_) | (refine W_block ?_) | (refine W_ret ?_) | (refine W_skip ?_) | (refine W_exit ?_) | (refine bNorm ?_) | (refine bRet ?_) | (refine bExit ?_) | (refine bExitN rfl ?_) | (refine xMask ?_) | (refine xT ?_) | (refine xF ?_) | (refine xRet ?_) | (refine xNorm ?_) | (refine xSplit ?_ ?_ <;> intro hb <;> (try exact False.elim hb)) | (refine xCond ?_ ?_ <;> intro hb <;> (try exact False.elim hb)))
          all_goals (refine ⟨[.agg [.str (bs s1), .int .i64 3], .int .u64 0], (by simp [ares, ares1, f18, ev, AH.cellsAt, AH.cell, set_same, set_ne', *]), rfl, (by repeat' (first | assumption | exact Up.refl _ | refine Up.new ?_ ?_))⟩)
        · rw [if_neg cl]
          have k2 : ∀ h, Sp T 61 [.agg [.str (bs s1), .int .i64 0], .int .i64 8] h (fun r h' => r = .tup [.agg [.str (bs (tk s1 0 8).1), .int .i64 (tk s1 0 8).2.1], .str (bs (tk s1 0 8).2.2)] ∧ Up h h') := fun h => sp61 _ _ 8 h
          rw [tk_ok cl] at k2
          have hlen : (s1.take 8).length = 8 := by rw [List.length_take]; omega
          have ht := fun h00 h r q c1 c2 hr hq hrq hu nr => ref_tail h00 h r q b (s1.take 8) (s1.drop 8) c1 c2 (by rw [hlen]; exact .inr (.inr ⟨c, rfl⟩)) hr hq hrq hu nr
          rw [hlen] at ht
          clear hlen
          refine Sp_of (fn := f18) rfl (show W T b18 [.agg [.str (bs (b :: s1)), .int .i64 0], .tup [], .tup [], .tup [], .tup [], .tup [], .tup [], .tup [], .tup [], .tup [], .tup [], .tup [], .tup [], .tup [], .tup [], .tup [], .tup [], .tup [], .tup [], .tup [], .tup [], .tup [], .tup [], .tup [], .tup [], .tup [], .tup [], .tup [], .tup [], .tup [], .tup [], .tup [], .tup [], .tup [], .tup [], .tup [], .tup [], .tup [], .tup [], .tup [], .tup [], .tup [], .tup [], .tup [], .tup [], .tup [], .tup [], .tup [], .tup [], .tup [], .tup [], .tup [], .tup [], .tup [], .tup [], .tup [], .tup [], .tup [], .tup [], .tup [], .tup [], .tup [], .tup [], .tup [], .tup [], .tup [], .tup [], .tup [], .tup [], .tup []] _ _ from ?_)
          unfold b18
          repeat' (first | (exact ht h _ r2 id _ _ (by simp only [go_sem, *]; exact rfl) set_same (by first | assumption | exact nei g5 hid) (by repeat' (first | assumption | exact Up.refl _ | refine Up.new ?_ ?_)) (by assumption) _ _ _ _ _ _ _ _ _ _ _ _ _ _ _ _ _ _ _ _ _ _ _ _ _ _ _ _ _ _ _ _ _ _ _ _ _ _ _ _ _ _ _ _ _ _ _ _ _ _ _ _ _ _ _ _ _ _ _ _ _ _ _ _ _) | (refine wNil ?_) | (refine xPure ?_) | (refine xMk ?_; intro id hid; (try simp only [set_none_iff] at hid); have hz := hid; (repeat (replace hz := hz.2)); (try have := nei g2 hz); (try have := nei g5 hz); (try have := Up.none hu0 hz); (try have := Up.none hu2 hz); (try have := Up.none hu5 hz); refine mkDo ?_) | (refine xChk ?_) | (refine xChkF ?_) | (refine xSkip ?_) | (refine xCall rfl rfl (k1 _) ?_; rintro r h2 ⟨rfl, hU2⟩; have hu2 : Up h h2 := Up.trans (by repeat' (first | assumption | exact Up.refl _ | refine Up.new ?_ ?_)) hU2; have g2 := hU2 _ _ set_same; obtain ⟨r2, rfl⟩ : ∃ x, x = id := ⟨_, rfl⟩; refine nTm ?_) | (refine xCall rfl rfl (k2 _) ?_; rintro r h5 ⟨rfl, hU5⟩; have hu5 : Up h h5 := Up.trans (by repeat' (first | assumption | exact Up.refl _ | refine Up.new ?_ ?_)) hU5; have g4 := hU5 _ _ set_same; have g5 : h5 r2 = some ⟨true, [.str (bs []), .int .i64 0]⟩ := hU5 _ _ (by simp only [go_sem, *]); refine nTm ?_) | (refine cSeq ?_) | (refine cNorm ?_) | (refine cRet ?_) | (refine cExit ?_) | (refine W_reg rfl ?_) | (refine W_block ?_) | (refine W_ret ?_) | (refine W_skip ?_) | (refine W_exit ?_) | (refine bNorm ?_) | (refine bRet ?_) | (refine bExit ?_) | (refine bExitN rfl ?_) | (refine xMask ?_) | (refine xT ?_) | (refine xF ?_) | (refine xRet ?_) | (refine xNorm ?_) | (refine xSplit ?_ ?_ <;> intro hb <;> (try exact False.elim hb)) | (refine xCond ?_ ?_ <;> intro hb <;> (try exact False.elim hb)))
      · have eU : tU (b :: s1) 0 = (s1, 4, 0) := by
          unfold tU
          rw [if_pos rfl]
          simp only
          rw [if_neg (by omega), if_pos c]
          unfold ut
          rw [tk_err (by decide)]
          have e1 : val [] = 0 := rfl
          have h0 : (hd 0).1 = 0 := rfl
          simp only [e1, h0, if_neg (by omega : ¬ 0 = b.toNat)]
          rfl
        rw [eU]
        have c252 : ((b.toNat : Int) == 252) = false := by simp; omega
        have c253 : ((b.toNat : Int) == 253) = false := by simp; omega
        have c254 : ((b.toNat : Int) == 254) = false := by simp; omega
        have c255 : ((b.toNat : Int) == 255) = true := by simp; omega
        refine Sp_of (fn := f18) rfl (show W T b18 [.agg [.str (bs (b :: s1)), .int .i64 0], .tup [], .tup [], .tup [], .tup [], .tup [], .tup [], .tup [], .tup [], .tup [], .tup [], .tup [], .tup [], .tup [], .tup [], .tup [], .tup [], .tup [], .tup [], .tup [], .tup [], .tup [], .tup [], .tup [], .tup [], .tup [], .tup [], .tup [], .tup [], .tup [], .tup [], .tup [], .tup [], .tup [], .tup [], .tup [], .tup [], .tup [], .tup [], .tup [], .tup [], .tup [], .tup [], .tup [], .tup [], .tup [], .tup [], .tup [], .tup [], .tup [], .tup [], .tup [], .tup [], .tup [], .tup [], .tup [], .tup [], .tup [], .tup [], .tup [], .tup [], .tup [], .tup [], .tup [], .tup [], .tup [], .tup [], .tup [], .tup [], .tup []] _ _ from ?_)
        unfold b18
        repeat' (first | (refine wNil ?_) | (refine xPure ?_) | (refine xMk ?_; intro id hid; (try simp only [set_none_iff] at hid); have hz := hid; (repeat (replace hz := hz.2)); (try have := nei g2 hz); (try have := nei g5 hz); (try have := Up.none hu0 hz); (try have := Up.none hu2 hz); (try have := Up.none hu5 hz); refine mkDo ?_) | (refine xChk ?_) | (refine xChkF ?_) | (refine xSkip ?_) | (refine xCall rfl rfl (k1 _) ?_; rintro r h2 ⟨rfl, hU2⟩; have hu2 : Up h h2 := Up.trans (by repeat' (first | assumption | exact Up.refl _ | refine Up.new ?_ ?_)) hU2; have g2 := hU2 _ _ set_same; obtain ⟨r2, rfl⟩ : ∃ x, x = id := ⟨_, rfl⟩; refine nTm ?_) | (refine xCall rfl rfl (sp62 s1 0 4 _) ?_; rintro r h5 ⟨rfl, hU5⟩; have hu5 : Up h h5 := Up.trans (by repeat' (first | assumption | exact Up.refl _ | refine Up.new ?_ ?_)) hU5; have g5 : h5 r2 = some ⟨true, [.str (bs []), .int .i64 0]⟩ := hU5 _ _ (by simp only [go_sem, *]); refine nTm ?_) | (refine cSeq ?_) | (refine cNorm ?_) | (refine cRet ?_) | (refine cExit ?_) | (refine W_reg rfl ?_) | (refine W_block ?_) | (refine W_ret ?_) | (refine W_skip ?_) | (refine W_exit ?_) | (refine bNorm ?_) | (refine bRet ?_) | (refine bExit ?_) | (refine bExitN rfl ?_) | (refine xMask ?_) | (refine xT ?_) | (refine xF ?_) | (refine xRet ?_) | (refine xNorm ?_) | (refine xSplit ?_ ?_ <;> intro hb <;> (try exact False.elim hb)) | (refine xCond ?_ ?_ <;> intro hb <;> (try exact False.elim hb)))
        all_goals (refine ⟨[.agg [.str (bs s1), .int .i64 4], .int .u64 0], (by simp [ares, ares1, f18, ev, AH.cellsAt, AH.cell, set_same, set_ne', *]), rfl, (by repeat' (first | assumption | exact Up.refl _ | refine Up.new ?_ ?_))⟩)
  · have eU : tU s e = (s, e, 0) := by unfold tU; rw [if_neg c0]
    rw [eU]
    have c'' : (e != 0) = true := by simpa using c0
    have k1 : ∀ h, Sp T 61 [.agg [.str (bs s), .int .i64 e], .int .i64 1] h (fun r h' => r = .tup [.agg [.str (bs (tk s e 1).1), .int .i64 (tk s e 1).2.1], .str (bs (tk s e 1).2.2)] ∧ Up h h') := fun h => sp61 _ _ 1 h
    rw [tk_err c0] at k1
    refine Sp_of (fn := f18) rfl (show W T b18 [.agg [.str (bs s), .int .i64 e], .tup [], .tup [], .tup [], .tup [], .tup [], .tup [], .tup [], .tup [], .tup [], .tup [], .tup [], .tup [], .tup [], .tup [], .tup [], .tup [], .tup [], .tup [], .tup [], .tup [], .tup [], .tup [], .tup [], .tup [], .tup [], .tup [], .tup [], .tup [], .tup [], .tup [], .tup [], .tup [], .tup [], .tup [], .tup [], .tup [], .tup [], .tup [], .tup [], .tup [], .tup [], .tup [], .tup [], .tup [], .tup [], .tup [], .tup [], .tup [], .tup [], .tup [], .tup [], .tup [], .tup [], .tup [], .tup [], .tup [], .tup [], .tup [], .tup [], .tup [], .tup [], .tup [], .tup [], .tup [], .tup [], .tup [], .tup [], .tup [], .tup []] _ _ from ?_)
    unfold b18
    repeat' (first | (refine wNil ?_) | (refine xPure ?_) | (refine xMk ?_; intro id hid; (try simp only [set_none_iff] at hid); have hz := hid; (repeat (replace hz := hz.2)); (try have := nei g2 hz); (try have := nei g5 hz); (try have := Up.none hu0 hz); (try have := Up.none hu2 hz); (try have := Up.none hu5 hz); refine mkDo ?_) | (refine xChk ?_) | (refine xChkF ?_) | (refine xSkip ?_) | (refine xCall rfl rfl (k1 _) ?_; rintro r h2 ⟨rfl, hU2⟩; have hu2 : Up h h2 := Up.trans (by repeat' (first | assumption | exact Up.refl _ | refine Up.new ?_ ?_)) hU2; have g2 := hU2 _ _ set_same; obtain ⟨r2, rfl⟩ : ∃ x, x = id := ⟨_, rfl⟩; refine nTm ?_) | (refine cSeq ?_) | (refine cNorm ?_) | (refine cRet ?_) | (refine cExit ?_) | (refine W_reg rfl ?_) | (refine W_block ?_) | (refine W_ret ?_) | (refine W_skip ?_) | (refine W_exit ?_) | (refine bNorm ?_) | (refine bRet ?_) | (refine bExit ?_) | (refine bExitN rfl ?_) | (refine xMask ?_) | (refine xT ?_) | (refine xF ?_) | (refine xRet ?_) | (refine xNorm ?_) | (refine xSplit ?_ ?_ <;> intro hb <;> (try exact False.elim hb)) | (refine xCond ?_ ?_ <;> intro hb <;> (try exact False.elim hb)))
    all_goals (refine ⟨[.agg [.str (bs s), .int .i64 e], .int .u64 0], (by simp [ares, ares1, f18, ev, AH.cellsAt, AH.cell, set_same, set_ne', *]), rfl, (by repeat' (first | assumption | exact Up.refl _ | refine Up.new ?_ ?_))⟩)
end Go.Proofs.YtgekngfnhhdamaaI
set_option linter.unusedVariables false
set_option linter.unusedSimpArgs false
set_option maxRecDepth 100000
set_option maxHeartbeats 4000000
namespace Go.Proofs.YtgekngfnhhdamaaI
open Go Go.Proofs.YtgekngfnhhdamaaM
attribute [local go_sem] aop ev fg_slc fg_slk fg_ptr fg_bool fg_int fg_str fg_iface fg_func fg_agg fg_tup fg_nils fg_nilp fg_nilI fg_nilF fg_und aboundsK alen_nils alen_slc alen_slk aslice_nils aslice_slc aslice_slk awanted abin aun aint aeqn aeqc aeqs apart abounds abnd amaxi amaxiGo cells_agg cells_slc cells_slk cells_ptr cells_bool cells_int cells_str cells_iface cells_func cells_tup cells_nils cells_nilp cells_nilI cells_nilF cells_und sc_slc sc_slk sc_ptr sc_bool sc_int sc_str sc_iface sc_func sc_nils sc_nilp sc_nilI sc_nilF gd_zero gd_succ List.all_cons List.all_nil Bool.and_self Bool.and_true Bool.true_and List.length_cons List.length_nil Option.map_some Option.some.injEq cell_same cell_ne cell_ne' cellsAt_same cellsAt_ne cellsAt_ne' put_same put_of set_same set_ne set_ne' List.getElem?_cons_zero List.getElem?_cons_succ if_true if_false and_self and_true true_and ne_eq not_true_eq_false not_false_eq_true decide_true decide_false Bool.false_eq_true Bool.true_eq_false beq_self_eq_true bne_self_eq_false beq_true beq_false Bool.not_true Bool.not_false List.map_cons List.map_nil putL List.set_cons_zero List.set_cons_succ afill Nat.zero_le Nat.le_refl Nat.zero_add Nat.add_zero List.drop_zero List.drop_succ_cons List.take_zero List.take_succ_cons Bool.not_eq_true Bool.not_eq_false decide_eq_true_eq decide_eq_false_iff_not Int.toNat_zero Nat.sub_zero Int.toNat_natCast Bool.bne_true Bool.bne_false AH.cell AH.cellsAt AH.put Nat.mul_one Nat.one_mul Int.natCast_nonneg List.length_set aslice bs_append bs_size bs_toList bs_extract bs_get List.cons_append List.nil_append List.append_nil AV.scalar Int.le_refl
theorem ut_err {b n : Nat} {s : List UInt8} {e : Int} (h : (ut b s e n).2.1 ≠ 0) : (ut b s e n).2.2 = 0 := by
  unfold ut at h ⊢
  simp only at h ⊢
  exact if_neg h
theorem tU_err {s : List UInt8} {e : Int} (h : (tU s e).2.1 ≠ 0) : (tU s e).2.2 = 0 := by
  unfold tU at h ⊢
  by_cases c : e = 0
  · rw [if_pos c] at h ⊢
    cases s with
    | nil => rfl
    | cons b s1 =>
      by_cases c1 : b.toNat < 252
      · simp only [if_pos c1] at h
        exact absurd rfl h
      · simp only [if_neg c1] at h ⊢
        exact ut_err h
  · rw [if_neg c]
/-- the document's TakeN -/
theorem sp20 (s : List UInt8) (e most : Int) (h : AH) (hm : most ≤ 9223372036854775807) : Sp T 20 [.agg [.str (bs s), .int .i64 e], .int .i64 most] h (fun r h' => r = .tup [.agg [.str (bs (tN s e most).1), .int .i64 (tN s e most).2.1], .int .i64 (tN s e most).2.2] ∧ Up h h') := by
  have hu0 := Up.refl h
  have k1 : ∀ h, Sp T 18 [.agg [.str (bs s), .int .i64 e]] h (fun r h' => r = .tup [.agg [.str (bs (tU s e).1), .int .i64 (tU s e).2.1], .int .u64 (tU s e).2.2] ∧ Up h h') := fun h => sp18 s e h
  have hE := tU_err (s := s) (e := e)
  unfold tN
  obtain ⟨⟨R, e2, v⟩, hq⟩ : ∃ q, tU s e = q := ⟨_, rfl⟩
  simp only [hq] at k1 hE ⊢
  clear hq
  have w0 : IntKind.u64.wrap 0 = 0 := by decide
  by_cases cm : most < 0
  · have mz : most.toNat = 0 := by omega
    rw [mz]

    by_cases c0 : e2 = 0
    · subst c0
      by_cases c : 0 < v
      · have c' : (0 : Int) < (v : Int) := by omega
        rw [if_pos c]
        have f6 : fl 0 6 = 6 := rfl
        refine Sp_of (fn := f20) rfl (show W T b20 [.agg [.str (bs s), .int .i64 e], .int .i64 most, .tup [], .tup [], .tup [], .tup [], .tup [], .tup [], .tup [], .tup [], .tup [], .tup [], .tup [], .tup [], .tup [], .tup [], .tup [], .tup [], .tup [], .tup [], .tup [], .tup [], .tup [], .tup [], .tup [], .tup [], .tup [], .tup [], .tup [], .tup [], .tup [], .tup []] _ _ from ?_)
        unfold b20
        repeat' (first | (refine wNil ?_) | (refine xPure ?_) | (refine xMk ?_; intro id hid; (try simp only [set_none_iff] at hid); have hz := hid; (repeat (replace hz := hz.2)); (try have := nei g2 hz); (try have := nei g5 hz); (try have := Up.none hu0 hz); (try have := Up.none hu2 hz); (try have := Up.none hu5 hz); refine mkDo ?_) | (refine xChk ?_) | (refine xChkF ?_) | (refine xSkip ?_) | (refine xCall rfl rfl (k1 _) ?_; rintro r h2 ⟨rfl, hU2⟩; have hu2 : Up h h2 := Up.trans (by repeat' (first | assumption | exact Up.refl _ | refine Up.new ?_ ?_)) hU2; have g2 := hU2 _ _ set_same; obtain ⟨r2, rfl⟩ : ∃ x, x = id := ⟨_, rfl⟩; refine nTm ?_) | (refine cSeq ?_) | (refine cNorm ?_) | (refine cRet ?_) | (refine cExit ?_) | (refine W_reg rfl ?_) | (refine W_block ?_) | (refine W_ret ?_) | (refine W_skip ?_) | (refine W_exit ?_) | (refine bNorm ?_) | (refine bRet ?_) | (refine bExit ?_) | (refine bExitN rfl ?_) | (refine xMask ?_) | (refine xT ?_) | (refine xF ?_) | (refine xRet ?_) | (refine xNorm ?_) | (refine xSplit ?_ ?_ <;> intro hb <;> (try exact False.elim hb)) | (refine xCond ?_ ?_ <;> intro hb <;> (try exact False.elim hb)))
        all_goals (refine ⟨[.agg [.str (bs R), .int .i64 6], .int .i64 0], (by simp [ares, ares1, f20, ev, AH.cellsAt, AH.cell, set_same, set_ne', *]), rfl, (by repeat' (first | assumption | exact Up.refl _ | refine Up.new ?_ ?_))⟩)
      · have c' : ¬ (0 : Int) < (v : Int) := by omega
        have cv : IntKind.i64.wrap (v : Int) = (v : Int) := wrap64 (by omega) (by omega)
        rw [if_neg c]
        refine Sp_of (fn := f20) rfl (show W T b20 [.agg [.str (bs s), .int .i64 e], .int .i64 most, .tup [], .tup [], .tup [], .tup [], .tup [], .tup [], .tup [], .tup [], .tup [], .tup [], .tup [], .tup [], .tup [], .tup [], .tup [], .tup [], .tup [], .tup [], .tup [], .tup [], .tup [], .tup [], .tup [], .tup [], .tup [], .tup [], .tup [], .tup [], .tup [], .tup []] _ _ from ?_)
        unfold b20
        repeat' (first | (refine wNil ?_) | (refine xPure ?_) | (refine xMk ?_; intro id hid; (try simp only [set_none_iff] at hid); have hz := hid; (repeat (replace hz := hz.2)); (try have := nei g2 hz); (try have := nei g5 hz); (try have := Up.none hu0 hz); (try have := Up.none hu2 hz); (try have := Up.none hu5 hz); refine mkDo ?_) | (refine xChk ?_) | (refine xChkF ?_) | (refine xSkip ?_) | (refine xCall rfl rfl (k1 _) ?_; rintro r h2 ⟨rfl, hU2⟩; have hu2 : Up h h2 := Up.trans (by repeat' (first | assumption | exact Up.refl _ | refine Up.new ?_ ?_)) hU2; have g2 := hU2 _ _ set_same; obtain ⟨r2, rfl⟩ : ∃ x, x = id := ⟨_, rfl⟩; refine nTm ?_) | (refine cSeq ?_) | (refine cNorm ?_) | (refine cRet ?_) | (refine cExit ?_) | (refine W_reg rfl ?_) | (refine W_block ?_) | (refine W_ret ?_) | (refine W_skip ?_) | (refine W_exit ?_) | (refine bNorm ?_) | (refine bRet ?_) | (refine bExit ?_) | (refine bExitN rfl ?_) | (refine xMask ?_) | (refine xT ?_) | (refine xF ?_) | (refine xRet ?_) | (refine xNorm ?_) | (refine xSplit ?_ ?_ <;> intro hb <;> (try exact False.elim hb)) | (refine xCond ?_ ?_ <;> intro hb <;> (try exact False.elim hb)))
        all_goals (refine ⟨[.agg [.str (bs R), .int .i64 0], .int .i64 v], (by simp [ares, ares1, f20, ev, AH.cellsAt, AH.cell, set_same, set_ne', *]), rfl, (by repeat' (first | assumption | exact Up.refl _ | refine Up.new ?_ ?_))⟩)
    · obtain rfl := hE c0
      have c1 : (e2 == 0) = false := by simpa using c0
      have c2 : (e2 != 0) = true := by simpa using c0
      rw [if_neg (by omega : ¬ 0 < 0)]
      refine Sp_of (fn := f20) rfl (show W T b20 [.agg [.str (bs s), .int .i64 e], .int .i64 most, .tup [], .tup [], .tup [], .tup [], .tup [], .tup [], .tup [], .tup [], .tup [], .tup [], .tup [], .tup [], .tup [], .tup [], .tup [], .tup [], .tup [], .tup [], .tup [], .tup [], .tup [], .tup [], .tup [], .tup [], .tup [], .tup [], .tup [], .tup [], .tup [], .tup []] _ _ from ?_)
      unfold b20
      repeat' (first | (refine wNil ?_) | (refine xPure ?_) | (refine xMk ?_; intro id hid; (try simp only [set_none_iff] at hid); have hz := hid; (repeat (replace hz := hz.2)); (try have := nei g2 hz); (try have := nei g5 hz); (try have := Up.none hu0 hz); (try have := Up.none hu2 hz); (try have := Up.none hu5 hz); refine mkDo ?_) | (refine xChk ?_) | (refine xChkF ?_) | (refine xSkip ?_) | (refine xCall rfl rfl (k1 _) ?_; rintro r h2 ⟨rfl, hU2⟩; have hu2 : Up h h2 := Up.trans (by repeat' (first | assumption | exact Up.refl _ | refine Up.new ?_ ?_)) hU2; have g2 := hU2 _ _ set_same; obtain ⟨r2, rfl⟩ : ∃ x, x = id := ⟨_, rfl⟩; refine nTm ?_) | (refine cSeq ?_) | (refine cNorm ?_) | (refine cRet ?_) | (refine cExit ?_) | (refine W_reg rfl ?_) | (refine W_block ?_) | (refine W_ret ?_) | (refine W_skip ?_) | (refine W_exit ?_) | (refine bNorm ?_) | (refine bRet ?_) | (refine bExit ?_) | (refine bExitN rfl ?_) | (refine xMask ?_) | (refine xT ?_) | (refine xF ?_) | (refine xRet ?_) | (refine xNorm ?_) | (refine xSplit ?_ ?_ <;> intro hb <;> (try exact False.elim hb)) | (refine xCond ?_ ?_ <;> intro hb <;> (try exact False.elim hb)))
      all_goals (refine ⟨[.agg [.str (bs R), .int .i64 e2], .int .i64 0], (by simp [ares, ares1, f20, ev, AH.cellsAt, AH.cell, set_same, set_ne', *]), rfl, (by repeat' (first | assumption | exact Up.refl _ | refine Up.new ?_ ?_))⟩)
  · have wm : IntKind.u64.wrap most = most := wrapU64 (by omega) (by omega)

    by_cases c0 : e2 = 0
    · subst c0
      by_cases c : most.toNat < v
      · have c' : most < (v : Int) := by omega
        rw [if_pos c]
        have f6 : fl 0 6 = 6 := rfl
        refine Sp_of (fn := f20) rfl (show W T b20 [.agg [.str (bs s), .int .i64 e], .int .i64 most, .tup [], .tup [], .tup [], .tup [], .tup [], .tup [], .tup [], .tup [], .tup [], .tup [], .tup [], .tup [], .tup [], .tup [], .tup [], .tup [], .tup [], .tup [], .tup [], .tup [], .tup [], .tup [], .tup [], .tup [], .tup [], .tup [], .tup [], .tup [], .tup [], .tup []] _ _ from ?_)
        unfold b20
        repeat' (first | (refine wNil ?_) | (refine xPure ?_) | (refine xMk ?_; intro id hid; (try simp only [set_none_iff] at hid); have hz := hid; (repeat (replace hz := hz.2)); (try have := nei g2 hz); (try have := nei g5 hz); (try have := Up.none hu0 hz); (try have := Up.none hu2 hz); (try have := Up.none hu5 hz); refine mkDo ?_) | (refine xChk ?_) | (refine xChkF ?_) | (refine xSkip ?_) | (refine xCall rfl rfl (k1 _) ?_; rintro r h2 ⟨rfl, hU2⟩; have hu2 : Up h h2 := Up.trans (by repeat' (first | assumption | exact Up.refl _ | refine Up.new ?_ ?_)) hU2; have g2 := hU2 _ _ set_same; obtain ⟨r2, rfl⟩ : ∃ x, x = id := ⟨_, rfl⟩; refine nTm ?_) | (refine cSeq ?_) | (refine cNorm ?_) | (refine cRet ?_) | (refine cExit ?_) | (refine W_reg rfl ?_) | (refine W_block ?_) | (refine W_ret ?_) | (refine W_skip ?_) | (refine W_exit ?_) | (refine bNorm ?_) | (refine bRet ?_) | (refine bExit ?_) | (refine bExitN rfl ?_) | (refine xMask ?_) | (refine xT ?_) | (refine xF ?_) | (refine xRet ?_) | (refine xNorm ?_) | (refine xSplit ?_ ?_ <;> intro hb <;> (try exact False.elim hb)) | (refine xCond ?_ ?_ <;> intro hb <;> (try exact False.elim hb)))
        all_goals (refine ⟨[.agg [.str (bs R), .int .i64 6], .int .i64 0], (by simp [ares, ares1, f20, ev, AH.cellsAt, AH.cell, set_same, set_ne', *]), rfl, (by repeat' (first | assumption | exact Up.refl _ | refine Up.new ?_ ?_))⟩)
      · have c' : ¬ most < (v : Int) := by omega
        have cv : IntKind.i64.wrap (v : Int) = (v : Int) := wrap64 (by omega) (by omega)
        rw [if_neg c]
        refine Sp_of (fn := f20) rfl (show W T b20 [.agg [.str (bs s), .int .i64 e], .int .i64 most, .tup [], .tup [], .tup [], .tup [], .tup [], .tup [], .tup [], .tup [], .tup [], .tup [], .tup [], .tup [], .tup [], .tup [], .tup [], .tup [], .tup [], .tup [], .tup [], .tup [], .tup [], .tup [], .tup [], .tup [], .tup [], .tup [], .tup [], .tup [], .tup [], .tup []] _ _ from ?_)
        unfold b20
        repeat' (first | (refine wNil ?_) | (refine xPure ?_) | (refine xMk ?_; intro id hid; (try simp only [set_none_iff] at hid); have hz := hid; (repeat (replace hz := hz.2)); (try have := nei g2 hz); (try have := nei g5 hz); (try have := Up.none hu0 hz); (try have := Up.none hu2 hz); (try have := Up.none hu5 hz); refine mkDo ?_) | (refine xChk ?_) | (refine xChkF ?_) | (refine xSkip ?_) | (refine xCall rfl rfl (k1 _) ?_; rintro r h2 ⟨rfl, hU2⟩; have hu2 : Up h h2 := Up.trans (by repeat' (first | assumption | exact Up.refl _ | refine Up.new ?_ ?_)) hU2; have g2 := hU2 _ _ set_same; obtain ⟨r2, rfl⟩ : ∃ x, x = id := ⟨_, rfl⟩; refine nTm ?_) | (refine cSeq ?_) | (refine cNorm ?_) | (refine cRet ?_) | (refine cExit ?_) | (refine W_reg rfl ?_) | (refine W_block ?_) | (refine W_ret ?_) | (refine W_skip ?_) | (refine W_exit ?_) | (refine bNorm ?_) | (refine bRet ?_) | (refine bExit ?_) | (refine bExitN rfl ?_) | (refine xMask ?_) | (refine xT ?_) | (refine xF ?_) | (refine xRet ?_) | (refine xNorm ?_) | (refine xSplit ?_ ?_ <;> intro hb <;> (try exact False.elim hb)) | (refine xCond ?_ ?_ <;> intro hb <;> (try exact False.elim hb)))
        all_goals (refine ⟨[.agg [.str (bs R), .int .i64 0], .int .i64 v], (by simp [ares, ares1, f20, ev, AH.cellsAt, AH.cell, set_same, set_ne', *]), rfl, (by repeat' (first | assumption | exact Up.refl _ | refine Up.new ?_ ?_))⟩)
    · obtain rfl := hE c0
      have c1 : (e2 == 0) = false := by simpa using c0
      have c2 : (e2 != 0) = true := by simpa using c0
      rw [if_neg (by omega : ¬ most.toNat < 0)]
      refine Sp_of (fn := f20) rfl (show W T b20 [.agg [.str (bs s), .int .i64 e], .int .i64 most, .tup [], .tup [], .tup [], .tup [], .tup [], .tup [], .tup [], .tup [], .tup [], .tup [], .tup [], .tup [], .tup [], .tup [], .tup [], .tup [], .tup [], .tup [], .tup [], .tup [], .tup [], .tup [], .tup [], .tup [], .tup [], .tup [], .tup [], .tup [], .tup [], .tup []] _ _ from ?_)
      unfold b20
      repeat' (first | (refine wNil ?_) | (refine xPure ?_) | (refine xMk ?_; intro id hid; (try simp only [set_none_iff] at hid); have hz := hid; (repeat (replace hz := hz.2)); (try have := nei g2 hz); (try have := nei g5 hz); (try have := Up.none hu0 hz); (try have := Up.none hu2 hz); (try have := Up.none hu5 hz); refine mkDo ?_) | (refine xChk ?_) | (refine xChkF ?_) | (refine xSkip ?_) | (refine xCall rfl rfl (k1 _) ?_; rintro r h2 ⟨rfl, hU2⟩; have hu2 : Up h h2 := Up.trans (by repeat' (first | assumption | exact Up.refl _ | refine Up.new ?_ ?_)) hU2; have g2 := hU2 _ _ set_same; obtain ⟨r2, rfl⟩ : ∃ x, x = id := ⟨_, rfl⟩; refine nTm ?_) | (refine cSeq ?_) | (refine cNorm ?_) | (refine cRet ?_) | (refine cExit ?_) | (refine W_reg rfl ?_) | (refine W_block ?_) | (refine W_ret ?_) | (refine W_skip ?_) | (refine W_exit ?_) | (refine bNorm ?_) | (refine bRet ?_) | (refine bExit ?_) | (refine bExitN rfl ?_) | (refine xMask ?_) | (refine xT ?_) | (refine xF ?_) | (refine xRet ?_) | (refine xNorm ?_) | (refine xSplit ?_ ?_ <;> intro hb <;> (try exact False.elim hb)) | (refine xCond ?_ ?_ <;> intro hb <;> (try exact False.elim hb)))
      all_goals (refine ⟨[.agg [.str (bs R), .int .i64 e2], .int .i64 0], (by simp [ares, ares1, f20, ev, AH.cellsAt, AH.cell, set_same, set_ne', *]), rfl, (by repeat' (first | assumption | exact Up.refl _ | refine Up.new ?_ ?_))⟩)
/-- the document's TakeB -/
theorem sp22 (s : List UInt8) (e : Int) (h : AH) : Sp T 22 [.agg [.str (bs s), .int .i64 e]] h (fun r h' => r = .tup [.agg [.str (bs (tB s e).1), .int .i64 (tB s e).2.1], .bool (tB s e).2.2] ∧ Up h h') := by
  have hu0 := Up.refl h
  unfold tB
  by_cases c0 : e = 0
  · subst c0
    rw [if_pos rfl]
    cases s with
    | nil =>
      have k1 : ∀ h, Sp T 61 [.agg [.str (bs []), .int .i64 0], .int .i64 1] h (fun r h' => r = .tup [.agg [.str (bs (tk [] 0 1).1), .int .i64 (tk [] 0 1).2.1], .str (bs (tk [] 0 1).2.2)] ∧ Up h h') := fun h => sp61 _ _ 1 h
      rw [tk_end (by simp)] at k1
      refine Sp_of (fn := f22) rfl (show W T b22 [.agg [.str (bs []), .int .i64 0], .tup [], .tup [], .tup [], .tup [], .tup [], .tup [], .tup [], .tup [], .tup [], .tup [], .tup [], .tup [], .tup [], .tup [], .tup [], .tup [], .tup [], .tup [], .tup [], .tup [], .tup [], .tup [], .tup [], .tup [], .tup [], .tup [], .tup [], .tup []] _ _ from ?_)
      unfold b22
      repeat' (first | (refine wNil ?_) | (refine xPure ?_) | (refine xMk ?_; intro id hid; (try simp only [set_none_iff] at hid); have hz := hid; (repeat (replace hz := hz.2)); (try have := nei g2 hz); (try have := nei g5 hz); (try have := Up.none hu0 hz); (try have := Up.none hu2 hz); (try have := Up.none hu5 hz); refine mkDo ?_) | (refine xChk ?_) | (refine xChkF ?_) | (refine xSkip ?_) | (refine xCall rfl rfl (k1 _) ?_; rintro r h2 ⟨rfl, hU2⟩; have hu2 : Up h h2 := Up.trans (by repeat' (first | assumption | exact Up.refl _ | refine Up.new ?_ ?_)) hU2; have g2 := hU2 _ _ set_same; obtain ⟨r2, rfl⟩ : ∃ x, x = id := ⟨_, rfl⟩; refine nTm ?_) | (refine cSeq ?_) | (refine cNorm ?_) | (refine cRet ?_) | (refine cExit ?_) | (refine W_reg rfl ?_) | (refine W_block ?_) | (refine W_ret ?_) | (refine W_skip ?_) | (refine W_exit ?_) | (refine bNorm ?_) | (refine bRet ?_) | (refine bExit ?_) | (refine bExitN rfl ?_) | (refine xMask ?_) | (refine xT ?_) | (refine xF ?_) | (refine xRet ?_) | (refine xNorm ?_) | (refine xSplit ?_ ?_ <;> intro hb <;> (try exact False.elim hb)) | (refine xCond ?_ ?_ <;> intro hb <;> (try exact False.elim hb)))
      all_goals (refine ⟨[.agg [.str (bs []), .int .i64 3], .bool false], (by simp [ares, ares1, f22, ev, AH.cellsAt, AH.cell, set_same, set_ne', *]), rfl, (by repeat' (first | assumption | exact Up.refl _ | refine Up.new ?_ ?_))⟩)
    | cons b s1 =>
      simp only
      have k1 : ∀ h, Sp T 61 [.agg [.str (bs (b :: s1)), .int .i64 0], .int .i64 1] h (fun r h' => r = .tup [.agg [.str (bs (tk (b :: s1) 0 1).1), .int .i64 (tk (b :: s1) 0 1).2.1], .str (bs (tk (b :: s1) 0 1).2.2)] ∧ Up h h') := fun h => sp61 _ _ 1 h
      rw [tk1] at k1
      by_cases c : 1 < b.toNat
      · have c' : (1 : Int) < (b.toNat : Int) := by omega
        have cb : ([b] == [1]) = false := by
          rw [beq_eq_false_iff_ne]
          intro hh
          have := (List.cons.inj hh).1
          rw [this] at c; exact absurd c (by decide)
        rw [if_pos c, cb]
        refine Sp_of (fn := f22) rfl (show W T b22 [.agg [.str (bs (b :: s1)), .int .i64 0], .tup [], .tup [], .tup [], .tup [], .tup [], .tup [], .tup [], .tup [], .tup [], .tup [], .tup [], .tup [], .tup [], .tup [], .tup [], .tup [], .tup [], .tup [], .tup [], .tup [], .tup [], .tup [], .tup [], .tup [], .tup [], .tup [], .tup [], .tup []] _ _ from ?_)
        unfold b22
        repeat' (first | (refine wNil ?_) | (refine xPure ?_) | (refine xMk ?_; intro id hid; (try simp only [set_none_iff] at hid); have hz := hid; (repeat (replace hz := hz.2)); (try have := nei g2 hz); (try have := nei g5 hz); (try have := Up.none hu0 hz); (try have := Up.none hu2 hz); (try have := Up.none hu5 hz); refine mkDo ?_) | (refine xChk ?_) | (refine xChkF ?_) | (refine xSkip ?_) | (refine xCall rfl rfl (k1 _) ?_; rintro r h2 ⟨rfl, hU2⟩; have hu2 : Up h h2 := Up.trans (by repeat' (first | assumption | exact Up.refl _ | refine Up.new ?_ ?_)) hU2; have g2 := hU2 _ _ set_same; obtain ⟨r2, rfl⟩ : ∃ x, x = id := ⟨_, rfl⟩; refine nTm ?_) | (refine cSeq ?_) | (refine cNorm ?_) | (refine cRet ?_) | (refine cExit ?_) | (refine W_reg rfl ?_) | (refine W_block ?_) | (refine W_ret ?_) | (refine W_skip ?_) | (refine W_exit ?_) | (refine bNorm ?_) | (refine bRet ?_) | (refine bExit ?_) | (refine bExitN rfl ?_) | (refine xMask ?_) | (refine xT ?_) | (refine xF ?_) | (refine xRet ?_) | (refine xNorm ?_) | (refine xSplit ?_ ?_ <;> intro hb <;> (try exact False.elim hb)) | (refine xCond ?_ ?_ <;> intro hb <;> (try exact False.elim hb)))
        all_goals (refine ⟨[.agg [.str (bs s1), .int .i64 4], .bool false], (by simp [ares, ares1, f22, ev, AH.cellsAt, AH.cell, set_same, set_ne', *]), rfl, (by repeat' (first | assumption | exact Up.refl _ | refine Up.new ?_ ?_))⟩)
      · rw [if_neg c]
        rcases (show b = 0 ∨ b = 1 from by
          rcases (show b.toNat = 0 ∨ b.toNat = 1 from by omega) with h | h
          · exact .inl (UInt8.toNat_inj.1 h)
          · exact .inr (UInt8.toNat_inj.1 h)) with rfl | rfl
        · have z : (UInt8.toNat 0 : Int) = 0 := rfl
          have zz : (([0] : List UInt8) == [1]) = false := rfl
          rw [zz]
          refine Sp_of (fn := f22) rfl (show W T b22 [.agg [.str (bs (0 :: s1)), .int .i64 0], .tup [], .tup [], .tup [], .tup [], .tup [], .tup [], .tup [], .tup [], .tup [], .tup [], .tup [], .tup [], .tup [], .tup [], .tup [], .tup [], .tup [], .tup [], .tup [], .tup [], .tup [], .tup [], .tup [], .tup [], .tup [], .tup [], .tup [], .tup []] _ _ from ?_)
          unfold b22
          repeat' (first | (refine wNil ?_) | (refine xPure ?_) | (refine xMk ?_; intro id hid; (try simp only [set_none_iff] at hid); have hz := hid; (repeat (replace hz := hz.2)); (try have := nei g2 hz); (try have := nei g5 hz); (try have := Up.none hu0 hz); (try have := Up.none hu2 hz); (try have := Up.none hu5 hz); refine mkDo ?_) | (refine xChk ?_) | (refine xChkF ?_) | (refine xSkip ?_) | (refine xCall rfl rfl (k1 _) ?_; rintro r h2 ⟨rfl, hU2⟩; have hu2 : Up h h2 := Up.trans (by repeat' (first | assumption | exact Up.refl _ | refine Up.new ?_ ?_)) hU2; have g2 := hU2 _ _ set_same; obtain ⟨r2, rfl⟩ : ∃ x, x = id := ⟨_, rfl⟩; refine nTm ?_) | (refine cSeq ?_) | (refine cNorm ?_) | (refine cRet ?_) | (refine cExit ?_) | (refine W_reg rfl ?_) | (refine W_block ?_) | (refine W_ret ?_) | (refine W_skip ?_) | (refine W_exit ?_) | (refine bNorm ?_) | (refine bRet ?_) | (refine bExit ?_) | (refine bExitN rfl ?_) | (refine xMask ?_) | (refine xT ?_) | (refine xF ?_) | (refine xRet ?_) | (refine xNorm ?_) | (refine xSplit ?_ ?_ <;> intro hb <;> (try exact False.elim hb)) | (refine xCond ?_ ?_ <;> intro hb <;> (try exact False.elim hb)))
          all_goals (refine ⟨[.agg [.str (bs s1), .int .i64 0], .bool false], (by simp [ares, ares1, f22, ev, AH.cellsAt, AH.cell, set_same, set_ne', *]), rfl, (by repeat' (first | assumption | exact Up.refl _ | refine Up.new ?_ ?_))⟩)
        · have z : (UInt8.toNat 1 : Int) = 1 := rfl
          have zz : (([1] : List UInt8) == [1]) = true := rfl
          rw [zz]
          refine Sp_of (fn := f22) rfl (show W T b22 [.agg [.str (bs (1 :: s1)), .int .i64 0], .tup [], .tup [], .tup [], .tup [], .tup [], .tup [], .tup [], .tup [], .tup [], .tup [], .tup [], .tup [], .tup [], .tup [], .tup [], .tup [], .tup [], .tup [], .tup [], .tup [], .tup [], .tup [], .tup [], .tup [], .tup [], .tup [], .tup [], .tup []] _ _ from ?_)
          unfold b22
          repeat' (first | (refine wNil ?_) | (refine xPure ?_) | (refine xMk ?_; intro id hid; (try simp only [set_none_iff] at hid); have hz := hid; (repeat (replace hz := hz.2)); (try have := nei g2 hz); (try have := nei g5 hz); (try have := Up.none hu0 hz); (try have := Up.none hu2 hz); (try have := Up.none hu5 hz); refine mkDo ?_) | (refine xChk ?_) | (refine xChkF ?_) | (refine xSkip ?_) | (refine xCall rfl rfl (k1 _) ?_; rintro r h2 ⟨rfl, hU2⟩; have hu2 : Up h h2 := Up.trans (by repeat' (first | assumption | exact Up.refl _ | refine Up.new ?_ ?_)) hU2; have g2 := hU2 _ _ set_same; obtain ⟨r2, rfl⟩ : ∃ x, x = id := ⟨_, rfl⟩; refine nTm ?_) | (refine cSeq ?_) | (refine cNorm ?_) | (refine cRet ?_) | (refine cExit ?_) | (refine W_reg rfl ?_) | (refine W_block ?_) | (refine W_ret ?_) | (refine W_skip ?_) | (refine W_exit ?_) | (refine bNorm ?_) | (refine bRet ?_) | (refine bExit ?_) | (refine bExitN rfl ?_) | (refine xMask ?_) | (refine xT ?_) | (refine xF ?_) | (refine xRet ?_) | (refine xNorm ?_) | (refine xSplit ?_ ?_ <;> intro hb <;> (try exact False.elim hb)) | (refine xCond ?_ ?_ <;> intro hb <;> (try exact False.elim hb)))
          all_goals (refine ⟨[.agg [.str (bs s1), .int .i64 0], .bool true], (by simp [ares, ares1, f22, ev, AH.cellsAt, AH.cell, set_same, set_ne', *]), rfl, (by repeat' (first | assumption | exact Up.refl _ | refine Up.new ?_ ?_))⟩)
  · have c1 : (e == 0) = false := by simpa using c0
    have c2 : (e != 0) = true := by simpa using c0
    rw [if_neg c0]
    have k1 : ∀ h, Sp T 61 [.agg [.str (bs s), .int .i64 e], .int .i64 1] h (fun r h' => r = .tup [.agg [.str (bs (tk s e 1).1), .int .i64 (tk s e 1).2.1], .str (bs (tk s e 1).2.2)] ∧ Up h h') := fun h => sp61 _ _ 1 h
    rw [tk_err c0] at k1
    refine Sp_of (fn := f22) rfl (show W T b22 [.agg [.str (bs s), .int .i64 e], .tup [], .tup [], .tup [], .tup [], .tup [], .tup [], .tup [], .tup [], .tup [], .tup [], .tup [], .tup [], .tup [], .tup [], .tup [], .tup [], .tup [], .tup [], .tup [], .tup [], .tup [], .tup [], .tup [], .tup [], .tup [], .tup [], .tup [], .tup []] _ _ from ?_)
    unfold b22
    repeat' (first | (refine wNil ?_) | (refine xPure ?_) | (refine xMk ?_; intro id hid; (try simp only [set_none_iff] at hid); have hz := hid; (repeat (replace hz := hz.2)); (try have := nei g2 hz); (try have := nei g5 hz); (try have := Up.none hu0 hz); (try have := Up.none hu2 hz); (try have := Up.none hu5 hz); refine mkDo ?_) | (refine xChk ?_) | (refine xChkF ?_) | (refine xSkip ?_) | (refine xCall rfl rfl (k1 _) ?_; rintro r h2 ⟨rfl, hU2⟩; have hu2 : Up h h2 := Up.trans (by repeat' (first | assumption | exact Up.refl _ | refine Up.new ?_ ?_)) hU2; have g2 := hU2 _ _ set_same; obtain ⟨r2, rfl⟩ : ∃ x, x = id := ⟨_, rfl⟩; refine nTm ?_) | (refine cSeq ?_) | (refine cNorm ?_) | (refine cRet ?_) | (refine cExit ?_) | (refine W_reg rfl ?_) | (refine W_block ?_) | (refine W_ret ?_) | (refine W_skip ?_) | (refine W_exit ?_) | (refine bNorm ?_) | (refine bRet ?_) | (refine bExit ?_) | (refine bExitN rfl ?_) | (refine xMask ?_) | (refine xT ?_) | (refine xF ?_) | (refine xRet ?_) | (refine xNorm ?_) | (refine xSplit ?_ ?_ <;> intro hb <;> (try exact False.elim hb)) | (refine xCond ?_ ?_ <;> intro hb <;> (try exact False.elim hb)))
    all_goals (refine ⟨[.agg [.str (bs s), .int .i64 e], .bool false], (by simp [ares, ares1, f22, ev, AH.cellsAt, AH.cell, set_same, set_ne', *]), rfl, (by repeat' (first | assumption | exact Up.refl _ | refine Up.new ?_ ?_))⟩)
/-- the document's TakeS -/
theorem sp24 (s : List UInt8) (e most : Int) (h : AH) (hm : most ≤ 9223372036854775807) : Sp T 24 [.agg [.str (bs s), .int .i64 e], .int .i64 most] h (fun r h' => r = .tup [.agg [.str (bs (tS s e most).1), .int .i64 (tS s e most).2.1], .str (bs (tS s e most).2.2)] ∧ Up h h') := by
  have hu0 := Up.refl h
  have k1 := fun h => sp20 s e most h hm
  unfold tS
  obtain ⟨⟨R, e2, v⟩, hq⟩ : ∃ q, tN s e most = q := ⟨_, rfl⟩
  simp only [hq] at k1 ⊢
  clear hq
  have k2 := fun h => sp61 R e2 v h
  obtain ⟨⟨R2, e3, w⟩, hq⟩ : ∃ q, tk R e2 v = q := ⟨_, rfl⟩
  simp only [hq] at k2 ⊢
  clear hq
  refine Sp_of (fn := f24) rfl (show W T b24 [.agg [.str (bs s), .int .i64 e], .int .i64 most, .tup [], .tup [], .tup [], .tup [], .tup [], .tup [], .tup [], .tup [], .tup [], .tup [], .tup [], .tup [], .tup [], .tup [], .tup [], .tup [], .tup []] _ _ from ?_)
  unfold b24
  repeat' (first | (refine wNil ?_) | (refine xPure ?_) | (refine xMk ?_; intro id hid; (try simp only [set_none_iff] at hid); have hz := hid; (repeat (replace hz := hz.2)); (try have := nei g2 hz); (try have := nei g5 hz); (try have := Up.none hu0 hz); (try have := Up.none hu2 hz); (try have := Up.none hu5 hz); refine mkDo ?_) | (refine xChk ?_) | (refine xChkF ?_) | (refine xSkip ?_) | (refine xCall rfl rfl (k1 _) ?_; rintro r h2 ⟨rfl, hU2⟩; have hu2 : Up h h2 := Up.trans (by repeat' (first | assumption | exact Up.refl _ | refine Up.new ?_ ?_)) hU2; have g2 := hU2 _ _ set_same; obtain ⟨r2, rfl⟩ : ∃ x, x = id := ⟨_, rfl⟩; refine nTm ?_) | (refine xCall rfl rfl (k2 _) ?_; rintro r h5 ⟨rfl, hU5⟩; have hu5 : Up h h5 := Up.trans (by repeat' (first | assumption | exact Up.refl _ | refine Up.new ?_ ?_)) hU5; have g5 : h5 r2 = some ⟨true, [.str (bs []), .int .i64 0]⟩ := hU5 _ _ (by simp only [go_sem, *]); refine nTm ?_) | (refine cSeq ?_) | (refine cNorm ?_) | (refine cRet ?_) | (refine cExit ?_) | (refine W_reg rfl ?_) | (refine W_block ?_) | (refine W_ret ?_) | (refine W_skip ?_) | (refine W_exit ?_) | (refine bNorm ?_) | (refine bRet ?_) | (refine bExit ?_) | (refine bExitN rfl ?_) | (refine xMask ?_) | (refine xT ?_) | (refine xF ?_) | (refine xRet ?_) | (refine xNorm ?_) | (refine xSplit ?_ ?_ <;> intro hb <;> (try exact False.elim hb)) | (refine xCond ?_ ?_ <;> intro hb <;> (try exact False.elim hb)))
  all_goals (refine ⟨[.agg [.str (bs R2), .int .i64 e3], .str (bs w)], (by simp [ares, ares1, f24, ev, AH.cellsAt, AH.cell, set_same, set_ne', *]), rfl, (by repeat' (first | assumption | exact Up.refl _ | refine Up.new ?_ ?_))⟩)
end Go.Proofs.YtgekngfnhhdamaaI
