/- What the statement's proof needs (joined out of several texts); no conditions. -/
import Derived.Test.YtgekngfnhhdamaaZD3
import Derived.Test.YtgekngfnhhdamaaM33
import Derived.Test.YtgekngfnhhdamaaM34
set_option linter.unusedVariables false
set_option linter.unusedSimpArgs false
set_option maxRecDepth 100000
set_option maxHeartbeats 4000000
namespace Go.Proofs.YtgekngfnhhdamaaI
open Go Go.Proofs.YtgekngfnhhdamaaM
attribute [local go_sem] aop ev fg_slc fg_slk fg_ptr fg_bool fg_int fg_str fg_iface fg_func fg_agg fg_tup fg_nils fg_nilp fg_nilI fg_nilF fg_und aboundsK alen_nils alen_slc alen_slk aslice_nils aslice_slc aslice_slk awanted abin aun aint aeqn aeqc aeqs apart abounds abnd amaxi amaxiGo cells_agg cells_slc cells_slk cells_ptr cells_bool cells_int cells_str cells_iface cells_func cells_tup cells_nils cells_nilp cells_nilI cells_nilF cells_und sc_slc sc_slk sc_ptr sc_bool sc_int sc_str sc_iface sc_func sc_nils sc_nilp sc_nilI sc_nilF gd_zero gd_succ List.all_cons List.all_nil Bool.and_self Bool.and_true Bool.true_and List.length_cons List.length_nil Option.map_some Option.some.injEq cell_same cell_ne cell_ne' cellsAt_same cellsAt_ne cellsAt_ne' put_same put_of set_same set_ne set_ne' List.getElem?_cons_zero List.getElem?_cons_succ if_true if_false and_self and_true true_and ne_eq not_true_eq_false not_false_eq_true decide_true decide_false Bool.false_eq_true Bool.true_eq_false beq_self_eq_true bne_self_eq_false beq_true beq_false Bool.not_true Bool.not_false List.map_cons List.map_nil putL List.set_cons_zero List.set_cons_succ afill Nat.zero_le Nat.le_refl Nat.zero_add Nat.add_zero List.drop_zero List.drop_succ_cons List.take_zero List.take_succ_cons Bool.not_eq_true Bool.not_eq_false decide_eq_true_eq decide_eq_false_iff_not Int.toNat_zero Nat.sub_zero Int.toNat_natCast Bool.bne_true Bool.bne_false AH.cell AH.cellsAt AH.put Nat.mul_one Nat.one_mul Int.natCast_nonneg List.length_set bs_append bs_size bs_toList bs_extract bs_get List.cons_append List.nil_append List.append_nil Nat.sub_zero bne_self_eq_false beq_self_eq_true azeros Int.le_refl
theorem T_cl : ∀ f fn, T f = some fn → closedF fn = true := by
  intro f fn h
  unfold T at h
  split at h <;> cases h <;> (first | decide +kernel | rfl)
theorem sp45 (h : AH) : Sp T 45 [] h (fun r h' => r = .bool true ∧ Up h h') := Sp_run (n := 1000) T_cl rfl rfl (by decide +kernel) h
def snd (C : Nat) (n : Int) : Bool := decide ((0 ≤ n ∧ n ≤ 11) ∧ (n = 0 ∨ 0 < C))
end Go.Proofs.YtgekngfnhhdamaaI
set_option linter.unusedVariables false
set_option linter.unusedSimpArgs false
set_option maxRecDepth 100000
set_option maxHeartbeats 4000000
namespace Go.Proofs.YtgekngfnhhdamaaI
open Go Go.Proofs.YtgekngfnhhdamaaM
attribute [local go_sem] aop ev fg_slc fg_slk fg_ptr fg_bool fg_int fg_str fg_iface fg_func fg_agg fg_tup fg_nils fg_nilp fg_nilI fg_nilF fg_und aboundsK alen_nils alen_slc alen_slk aslice_nils aslice_slc aslice_slk awanted abin aun aint aeqn aeqc aeqs apart abounds abnd amaxi amaxiGo cells_agg cells_slc cells_slk cells_ptr cells_bool cells_int cells_str cells_iface cells_func cells_tup cells_nils cells_nilp cells_nilI cells_nilF cells_und sc_slc sc_slk sc_ptr sc_bool sc_int sc_str sc_iface sc_func sc_nils sc_nilp sc_nilI sc_nilF gd_zero gd_succ List.all_cons List.all_nil Bool.and_self Bool.and_true Bool.true_and List.length_cons List.length_nil Option.map_some Option.some.injEq cell_same cell_ne cell_ne' cellsAt_same cellsAt_ne cellsAt_ne' put_same put_of set_same set_ne set_ne' List.getElem?_cons_zero List.getElem?_cons_succ if_true if_false and_self and_true true_and ne_eq not_true_eq_false not_false_eq_true decide_true decide_false Bool.false_eq_true Bool.true_eq_false beq_self_eq_true bne_self_eq_false beq_true beq_false Bool.not_true Bool.not_false List.map_cons List.map_nil putL List.set_cons_zero List.set_cons_succ afill Nat.zero_le Nat.le_refl Nat.zero_add Nat.add_zero List.drop_zero List.drop_succ_cons List.take_zero List.take_succ_cons Bool.not_eq_true Bool.not_eq_false decide_eq_true_eq decide_eq_false_iff_not Int.toNat_zero Nat.sub_zero Int.toNat_natCast Bool.bne_true Bool.bne_false AH.cell AH.cellsAt AH.put Nat.mul_one Nat.one_mul Int.natCast_nonneg List.length_set bs_append bs_size bs_toList bs_extract bs_get List.cons_append List.nil_append List.append_nil Nat.sub_zero bne_self_eq_false beq_self_eq_true azeros Int.le_refl
/-- Cut -/
theorem cut16 (s : List UInt8) (n : Nat) (h : AH) : Sp T 16 [.str (bs s), .int .i64 n] h (fun r h' => r = .str (bs (s.take n)) ∧ h' = h) := by
  by_cases c : n < s.length
  · have c1 : (n : Int) < (s.length : Int) := by omega
    have c2 : (n : Int) ≤ (s.length : Int) := by omega
    have c3 : n ≤ s.length := by omega
    refine Sp_of (fn := f16) rfl (show W T b16 [.str (bs s), .int .i64 n, .tup [], .tup [], .tup [], .tup [], .tup [], .tup [], .tup [], .tup [], .tup [], .tup [], .tup []] _ _ from ?_)
    unfold b16
    repeat' (first | (refine wNil ?_) | (refine xPure ?_) | (refine xMk ?_; intro id hid; (try simp only [set_none_iff] at hid); refine mkDo ?_) | (refine xChk ?_) | (refine xChkF ?_) | (refine xSkip ?_) | (refine cSeq ?_) | (refine cNorm ?_) | (refine cRet ?_) | (refine cExit ?_) | (refine W_reg rfl ?_) | (refine W_block ?_) | (refine W_ret ?_) | (refine W_skip ?_) | (refine W_exit ?_) | (refine bNorm ?_) | (refine bRet ?_) | (refine bExit ?_) | (refine bExitN rfl ?_) | (refine xMask ?_) | (refine xT ?_) | (refine xF ?_) | (refine xRet ?_) | (refine xNorm ?_) | (refine xSplit ?_ ?_ <;> intro hb <;> (try exact False.elim hb)) | (refine xCond ?_ ?_ <;> intro hb <;> (try exact False.elim hb)))
    all_goals exact ⟨rfl, rfl⟩
  · have c1 : ¬ (n : Int) < (s.length : Int) := by omega
    rw [List.take_of_length_le (by omega)]
    refine Sp_of (fn := f16) rfl (show W T b16 [.str (bs s), .int .i64 n, .tup [], .tup [], .tup [], .tup [], .tup [], .tup [], .tup [], .tup [], .tup [], .tup [], .tup []] _ _ from ?_)
    unfold b16
    repeat' (first | (refine wNil ?_) | (refine xPure ?_) | (refine xMk ?_; intro id hid; (try simp only [set_none_iff] at hid); refine mkDo ?_) | (refine xChk ?_) | (refine xChkF ?_) | (refine xSkip ?_) | (refine cSeq ?_) | (refine cNorm ?_) | (refine cRet ?_) | (refine cExit ?_) | (refine W_reg rfl ?_) | (refine W_block ?_) | (refine W_ret ?_) | (refine W_skip ?_) | (refine W_exit ?_) | (refine bNorm ?_) | (refine bRet ?_) | (refine bExit ?_) | (refine bExitN rfl ?_) | (refine xMask ?_) | (refine xT ?_) | (refine xF ?_) | (refine xRet ?_) | (refine xNorm ?_) | (refine xSplit ?_ ?_ <;> intro hb <;> (try exact False.elim hb)) | (refine xCond ?_ ?_ <;> intro hb <;> (try exact False.elim hb)))
    all_goals exact ⟨rfl, rfl⟩
/-- An entry. -/
abbrev En := Int × Nat × Int × List UInt8
def eM (x : En) : List AV := [.int .i64 x.1, .int .u64 (x.2.1 : Int), .int .i64 x.2.2.1, .str (bs x.2.2.2)]
theorem eMz (x : En) : (eM x).length = 4 := rfl
end Go.Proofs.YtgekngfnhhdamaaI
set_option linter.unusedVariables false
set_option linter.unusedSimpArgs false
set_option maxRecDepth 100000
set_option maxHeartbeats 4000000
namespace Go.Proofs.YtgekngfnhhdamaaI
open Go Go.Proofs.YtgekngfnhhdamaaM
attribute [local go_sem] aop ev fg_slc fg_slk fg_ptr fg_bool fg_int fg_str fg_iface fg_func fg_agg fg_tup fg_nils fg_nilp fg_nilI fg_nilF fg_und aboundsK alen_nils alen_slc alen_slk aslice_nils aslice_slc aslice_slk awanted abin aun aint aeqn aeqc aeqs apart abounds abnd amaxi amaxiGo cells_agg cells_slc cells_slk cells_ptr cells_bool cells_int cells_str cells_iface cells_func cells_tup cells_nils cells_nilp cells_nilI cells_nilF cells_und sc_slc sc_slk sc_ptr sc_bool sc_int sc_str sc_iface sc_func sc_nils sc_nilp sc_nilI sc_nilF gd_zero gd_succ List.all_cons List.all_nil Bool.and_self Bool.and_true Bool.true_and List.length_cons List.length_nil Option.map_some Option.some.injEq cell_same cell_ne cell_ne' cellsAt_same cellsAt_ne cellsAt_ne' put_same put_of set_same set_ne set_ne' List.getElem?_cons_zero List.getElem?_cons_succ if_true if_false and_self and_true true_and ne_eq not_true_eq_false not_false_eq_true decide_true decide_false Bool.false_eq_true Bool.true_eq_false beq_self_eq_true bne_self_eq_false beq_true beq_false Bool.not_true Bool.not_false List.map_cons List.map_nil putL List.set_cons_zero List.set_cons_succ afill Nat.zero_le Nat.le_refl Nat.zero_add Nat.add_zero List.drop_zero List.drop_succ_cons List.take_zero List.take_succ_cons Bool.not_eq_true Bool.not_eq_false decide_eq_true_eq decide_eq_false_iff_not Int.toNat_zero Nat.sub_zero Int.toNat_natCast Bool.bne_true Bool.bne_false AH.cell AH.cellsAt AH.put Nat.mul_one Nat.one_mul Int.natCast_nonneg List.length_set aslice azeros bs_append bs_size bs_toList bs_extract bs_get List.cons_append List.nil_append List.append_nil AV.scalar Int.le_refl List.length_append
def gB (s : List UInt8) (e : Int) : List UInt8 × Int × Nat × Nat :=
  let q := tU s e
  let w := tN q.1 q.2.1 11
  let e3 := if q.2.2 = 0 ∧ 0 < w.2.2 then fl w.2.1 4 else w.2.1
  (w.1, e3, if e3 = 0 then (q.2.2, w.2.2) else (0, 0))
theorem Rd.new {h0 h : AH} {p q : List Nat} {s : List UInt8} {e : Int} {b : Option Blk} (hr : Rd h0 p h s e) (hq : h q = none) : Rd (h0.set q b) p (h.set q b) s e := by
  have := hr.new2 (a := b) (b := b) hq
  rw [set_set] at this; exact this
theorem Rd.wr {h0 h : AH} {p q : List Nat} {s : List UInt8} {e : Int} {b : Option Blk} (hr : Rd h0 p h s e) (hq : h0 q = none) (hpq : p ≠ q) : Rd h0 p (h.set q b) s e := ⟨hr.1.set hq, hr.2.1, by rw [set_ne hpq]; exact hr.2.2⟩
/-- Get -/
theorem sp37 (h0 : AH) (p : List Nat) (s : List UInt8) (e : Int) (h : AH) (hr : Rd h0 p h s e) : Sp T 37 [.ptr p 0] h (fun r h' => r = .agg [.int .u64 (gB s e).2.2.1, .int .i64 (gB s e).2.2.2] ∧ Rd h0 p h' (gB s e).1 (gB s e).2.1) := by
  have hp := hr.2.2
  have k19 : ∀ (h0 h : AH), Rd h0 p h s e → Sp T 19 [.ptr p 0] h (fun r h' => r = .int .u64 (tU s e).2.2 ∧ Rd h0 p h' (tU s e).1 (tU s e).2.1) := fun h0 h hr => sp19 h0 p s e h hr
  unfold gB
  obtain ⟨⟨R, e2, C⟩, hq⟩ : ∃ q, tU s e = q := ⟨_, rfl⟩
  simp only [hq] at k19 ⊢
  clear hq
  have k21 : ∀ (h0 h : AH), Rd h0 p h R e2 → Sp T 21 [.ptr p 0, .int .i64 11] h (fun r h' => r = .int .i64 (tN R e2 11).2.2 ∧ Rd h0 p h' (tN R e2 11).1 (tN R e2 11).2.1) := fun h0 h hr => sp21 h0 p R e2 11 h hr (by decide)
  obtain ⟨⟨R2, e3, n⟩, hq⟩ : ∃ q, tN R e2 11 = q := ⟨_, rfl⟩
  simp only [hq] at k21 ⊢
  clear hq
  by_cases c : C = 0 ∧ 0 < n
  · have c1 : ((C : Int) == 0) = true := by simp [c.1]
    have c2 : (0 : Int) < (n : Int) := by omega
    rw [if_pos c]
    have f : ¬ fl e3 4 = 0 := by unfold fl; split <;> omega
    have f' : (fl e3 4 != 0) = true := by simpa using f
    rw [if_neg f]
    refine Sp_of (fn := f37) rfl (show W T b37 [.ptr p 0, .tup [], .tup [], .tup [], .tup [], .tup [], .tup [], .tup [], .tup [], .tup [], .tup [], .tup [], .tup [], .tup [], .tup [], .tup [], .tup [], .tup [], .tup [], .tup [], .tup [], .tup [], .tup [], .tup [], .tup []] _ _ from ?_)
    unfold b37
    repeat' (first | (refine wNil ?_) | (refine xPure ?_) | (refine xMk ?_; intro id hid; (try simp only [set_none_iff] at hid); have hz := hid; (repeat (replace hz := hz.2)); (try have := nei hp hz); (try have := nei hp2 hz); (try have := nei g2 hz); refine mkDo ?_) | (refine xChk ?_) | (refine xChkF ?_) | (refine xSkip ?_) | (refine xCall rfl rfl (k19 _ _ (hr.new hid)) ?_; rintro r h2 ⟨rfl, hr2⟩; have hp2 := hr2.2.2; have g2 := hr2.1 _ _ set_same; obtain ⟨r2, rfl⟩ : ∃ x, x = id := ⟨_, rfl⟩; refine nTm ?_) | (refine xCall rfl rfl (k21 _ _ (hr2.new2 hid)) ?_; rintro r h3 ⟨rfl, hr3⟩; have hp3 := hr3.2.2; have g3 := hr3.1 _ _ set_same; have g4 : h3 r2 = some ⟨true, [.int .u64 0, .int .i64 0]⟩ := hr3.1 _ _ (by simp only [go_sem, *]); have hr4 := hr3.drop (hr2.1.no hid); refine nTm ?_) | (refine xCall rfl rfl (sp32 _ p R2 e3 4 _ (Rd.wr hr4 (hr2.1.no hid) (nei hp2 hid))) ?_; rintro r h5 hr5; have hp5 := hr5.2.2; have g5 := hr5.1 _ _ set_same; refine nTm ?_) | (refine xCall rfl rfl (sp26 _ p R2 _ _ hr5) ?_; rintro r h' ⟨rfl, hx⟩; cases hx; refine nTm ?_) | (refine cSeq ?_) | (refine cNorm ?_) | (refine cRet ?_) | (refine cExit ?_) | (refine W_reg rfl ?_) | (refine W_block ?_) | (refine W_ret ?_) | (refine W_skip ?_) | (refine W_exit ?_) | (refine bNorm ?_) | (refine bRet ?_) | (refine bExit ?_) | (refine bExitN rfl ?_) | (refine xMask ?_) | (refine xT ?_) | (refine xF ?_) | (refine xRet ?_) | (refine xNorm ?_) | (refine xSplit ?_ ?_ <;> intro hb <;> (try exact False.elim hb)) | (refine xCond ?_ ?_ <;> intro hb <;> (try exact False.elim hb)))
    all_goals (refine ⟨[.agg [.int .u64 0, .int .i64 0]], (by simp [ares, ares1, f37, ev, AH.cellsAt, AH.cell, set_same, set_ne', *]), rfl, Rd.wr (hr5.drop (hr.1.no (by assumption))) (hr.1.no (by assumption)) (by first | assumption | exact nei hp (by assumption))⟩)
  · rw [if_neg c]
    have cc : ((C : Int) == 0) = false ∨ (((C : Int) == 0) = true ∧ ¬ (0 : Int) < (n : Int)) := by
      by_cases c0 : C = 0
      · exact .inr ⟨by simp [c0], by omega⟩
      · exact .inl (by simp; omega)
    by_cases z : e3 = 0
    · subst z
      rw [if_pos rfl]
      rcases cc with c1 | ⟨c1, c2⟩
      all_goals
        refine Sp_of (fn := f37) rfl (show W T b37 [.ptr p 0, .tup [], .tup [], .tup [], .tup [], .tup [], .tup [], .tup [], .tup [], .tup [], .tup [], .tup [], .tup [], .tup [], .tup [], .tup [], .tup [], .tup [], .tup [], .tup [], .tup [], .tup [], .tup [], .tup [], .tup []] _ _ from ?_)
        unfold b37
        repeat' (first | (refine wNil ?_) | (refine xPure ?_) | (refine xMk ?_; intro id hid; (try simp only [set_none_iff] at hid); have hz := hid; (repeat (replace hz := hz.2)); (try have := nei hp hz); (try have := nei hp2 hz); (try have := nei g2 hz); refine mkDo ?_) | (refine xChk ?_) | (refine xChkF ?_) | (refine xSkip ?_) | (refine xCall rfl rfl (k19 _ _ (hr.new hid)) ?_; rintro r h2 ⟨rfl, hr2⟩; have hp2 := hr2.2.2; have g2 := hr2.1 _ _ set_same; obtain ⟨r2, rfl⟩ : ∃ x, x = id := ⟨_, rfl⟩; refine nTm ?_) | (refine xCall rfl rfl (k21 _ _ (hr2.new2 hid)) ?_; rintro r h3 ⟨rfl, hr3⟩; have hp3 := hr3.2.2; have g3 := hr3.1 _ _ set_same; have g4 : h3 r2 = some ⟨true, [.int .u64 0, .int .i64 0]⟩ := hr3.1 _ _ (by simp only [go_sem, *]); have hr4 := hr3.drop (hr2.1.no hid); refine nTm ?_) | (refine xCall rfl rfl (sp26 _ p R2 0 _ (Rd.wr hr4 (hr2.1.no hid) (nei hp2 hid))) ?_; rintro r h' ⟨rfl, hx⟩; cases hx; refine nTm ?_) | (refine cSeq ?_) | (refine cNorm ?_) | (refine cRet ?_) | (refine cExit ?_) | (refine W_reg rfl ?_) | (refine W_block ?_) | (refine W_ret ?_) | (refine W_skip ?_) | (refine W_exit ?_) | (refine bNorm ?_) | (refine bRet ?_) | (refine bExit ?_) | (refine bExitN rfl ?_) | (refine xMask ?_) | (refine xT ?_) | (refine xF ?_) | (refine xRet ?_) | (refine xNorm ?_) | (refine xSplit ?_ ?_ <;> intro hb <;> (try exact False.elim hb)) | (refine xCond ?_ ?_ <;> intro hb <;> (try exact False.elim hb)))
      all_goals (refine ⟨[.agg [.int .u64 C, .int .i64 n]], (by simp [ares, ares1, f37, ev, AH.cellsAt, AH.cell, set_same, set_ne', *]), rfl, Rd.wr ((Rd.wr hr4 (hr2.1.no hid) (nei hp2 hid)).drop (hr.1.no (by assumption))) (hr.1.no (by assumption)) (by first | assumption | exact nei hp (by assumption))⟩)
    · have z' : (e3 != 0) = true := by simpa using z
      rw [if_neg z]
      rcases cc with c1 | ⟨c1, c2⟩
      all_goals
        refine Sp_of (fn := f37) rfl (show W T b37 [.ptr p 0, .tup [], .tup [], .tup [], .tup [], .tup [], .tup [], .tup [], .tup [], .tup [], .tup [], .tup [], .tup [], .tup [], .tup [], .tup [], .tup [], .tup [], .tup [], .tup [], .tup [], .tup [], .tup [], .tup [], .tup []] _ _ from ?_)
        unfold b37
        repeat' (first | (refine wNil ?_) | (refine xPure ?_) | (refine xMk ?_; intro id hid; (try simp only [set_none_iff] at hid); have hz := hid; (repeat (replace hz := hz.2)); (try have := nei hp hz); (try have := nei hp2 hz); (try have := nei g2 hz); refine mkDo ?_) | (refine xChk ?_) | (refine xChkF ?_) | (refine xSkip ?_) | (refine xCall rfl rfl (k19 _ _ (hr.new hid)) ?_; rintro r h2 ⟨rfl, hr2⟩; have hp2 := hr2.2.2; have g2 := hr2.1 _ _ set_same; obtain ⟨r2, rfl⟩ : ∃ x, x = id := ⟨_, rfl⟩; refine nTm ?_) | (refine xCall rfl rfl (k21 _ _ (hr2.new2 hid)) ?_; rintro r h3 ⟨rfl, hr3⟩; have hp3 := hr3.2.2; have g3 := hr3.1 _ _ set_same; have g4 : h3 r2 = some ⟨true, [.int .u64 0, .int .i64 0]⟩ := hr3.1 _ _ (by simp only [go_sem, *]); have hr4 := hr3.drop (hr2.1.no hid); refine nTm ?_) | (refine xCall rfl rfl (sp26 _ p R2 e3 _ (Rd.wr hr4 (hr2.1.no hid) (nei hp2 hid))) ?_; rintro r h' ⟨rfl, hx⟩; cases hx; refine nTm ?_) | (refine cSeq ?_) | (refine cNorm ?_) | (refine cRet ?_) | (refine cExit ?_) | (refine W_reg rfl ?_) | (refine W_block ?_) | (refine W_ret ?_) | (refine W_skip ?_) | (refine W_exit ?_) | (refine bNorm ?_) | (refine bRet ?_) | (refine bExit ?_) | (refine bExitN rfl ?_) | (refine xMask ?_) | (refine xT ?_) | (refine xF ?_) | (refine xRet ?_) | (refine xNorm ?_) | (refine xSplit ?_ ?_ <;> intro hb <;> (try exact False.elim hb)) | (refine xCond ?_ ?_ <;> intro hb <;> (try exact False.elim hb)))
      all_goals (refine ⟨[.agg [.int .u64 0, .int .i64 0]], (by simp [ares, ares1, f37, ev, AH.cellsAt, AH.cell, set_same, set_ne', *]), rfl, Rd.wr ((Rd.wr hr4 (hr2.1.no hid) (nei hp2 hid)).drop (hr.1.no (by assumption))) (hr.1.no (by assumption)) (by first | assumption | exact nei hp (by assumption))⟩)
theorem Rd.both {B g : AH} {p q : List Nat} {s : List UInt8} {e : Int} {b : Option Blk} (hr : Rd B p g s e) (hq : q ≠ p) : Rd (B.set q b) p (g.set q b) s e :=
  ⟨hr.1.both, by rw [set_ne (Ne.symm hq)]; exact hr.2.1, by rw [set_ne (Ne.symm hq)]; exact hr.2.2⟩
theorem Rd.more2 {B g : AH} {p q : List Nat} {s : List UInt8} {e : Int} {a b : Option Blk} (hr : Rd B p g s e) (hq : g q = none) : Rd B p ((g.set q a).set q b) s e := by
  rw [set_set]; exact hr.more hq
theorem Rd.weak {B B' g : AH} {p : List Nat} {s : List UInt8} {e : Int} (hr : Rd B' p g s e) (hs : Sub B B') : Rd B p g s e :=
  ⟨fun x b h => hr.1 x b (hs x b h), hs.no hr.2.1, hr.2.2⟩
/-- An entry, read behind a slot. -/
def eG (s : List UInt8) (e last : Int) : List UInt8 × Int × En :=
  let q := tN s e 1099511627776
  let e1 := if (q.2.2 : Int) ≤ last then fl q.2.1 4 else q.2.1
  let b := gB q.1 e1
  let x := tS b.1 b.2.1 400
  (x.1, x.2.1, ((q.2.2 : Int), b.2.2.1, (b.2.2.2 : Int), x.2.2))
/-- entry -/
theorem sp78 (B : AH) (p : List Nat) (s : List UInt8) (e last : Int) (h : AH) (hr : Rd B p h s e) : Sp T 78 [.ptr p 0, .int .i64 last] h (fun r h' => r = .agg (eM (eG s e last).2.2) ∧ Rd B p h' (eG s e last).1 (eG s e last).2.1) := by
  have hp := hr.2.2
  have k21 : ∀ (B h : AH), Rd B p h s e → Sp T 21 [.ptr p 0, .int .i64 1099511627776] h (fun r h' => r = .int .i64 (tN s e 1099511627776).2.2 ∧ Rd B p h' (tN s e 1099511627776).1 (tN s e 1099511627776).2.1) := fun B h hr => sp21 B p s e 1099511627776 h hr (by decide)
  unfold eG
  obtain ⟨⟨R, e1, n⟩, hq⟩ : ∃ q, tN s e 1099511627776 = q := ⟨_, rfl⟩
  simp only [hq] at k21 ⊢
  clear hq
  obtain ⟨e2, hfl⟩ : ∃ z, fl e1 4 = z := ⟨_, rfl⟩
  by_cases c : (n : Int) ≤ last
  · rw [if_pos c, hfl]
    have k37 : ∀ (B h : AH), Rd B p h R e2 → Sp T 37 [.ptr p 0] h (fun r h' => r = .agg [.int .u64 (gB R e2).2.2.1, .int .i64 (gB R e2).2.2.2] ∧ Rd B p h' (gB R e2).1 (gB R e2).2.1) := fun B h hr => sp37 B p R e2 h hr
    obtain ⟨⟨R2, e3, C, m⟩, hq⟩ : ∃ q, gB R e2 = q := ⟨_, rfl⟩
    simp only [hq] at k37 ⊢
    clear hq
    have k25 : ∀ (B h : AH), Rd B p h R2 e3 → Sp T 25 [.ptr p 0, .int .i64 400] h (fun r h' => r = .str (bs (tS R2 e3 400).2.2) ∧ Rd B p h' (tS R2 e3 400).1 (tS R2 e3 400).2.1) := fun B h hr => sp25 B p R2 e3 400 h hr (by decide)
    obtain ⟨⟨R3, e4, w⟩, hq⟩ : ∃ q, tS R2 e3 400 = q := ⟨_, rfl⟩
    simp only [hq] at k25 ⊢
    clear hq
    refine Sp_of (fn := f78) rfl (show W T b78 [.ptr p 0, .int .i64 last, .tup [], .tup [], .tup [], .tup [], .tup [], .tup [], .tup [], .tup [], .tup [], .tup [], .tup [], .tup [], .tup [], .tup [], .tup [], .tup [], .tup [], .tup [], .tup [], .tup []] _ _ from ?_)
    unfold b78
    repeat' (first | (refine wNil ?_) | (refine wPure rfl (by (first | (simp only [go_sem, bs_append, bs_size, bs_toList, bs_extract, bs_get, reduceIte, List.append_nil, Nat.sub_zero, bne_self_eq_false, beq_self_eq_true, azeros, Int.le_refl, *]; (first | done | exact rfl)) | rfl)) rfl (by (first | (simp only [go_sem, bs_append, bs_size, bs_toList, bs_extract, bs_get, reduceIte, List.append_nil, Nat.sub_zero, bne_self_eq_false, beq_self_eq_true, azeros, Int.le_refl, *]; (first | done | exact rfl)) | rfl)) ?_; dsimp only [putT, ev, Int.toNat_zero, Nat.sub_zero, Int.toNat_natCast,  gd_zero, gd_succ, Nat.zero_add, Nat.add_zero, Nat.reduceAdd, Nat.reduceMul, List.set_cons_zero, List.set_cons_succ, keep, List.contains_cons, List.contains_nil]) | (refine wMk rfl (by (first | (simp only [go_sem, bs_append, bs_size, bs_toList, bs_extract, bs_get, reduceIte, List.append_nil, Nat.sub_zero, bne_self_eq_false, beq_self_eq_true, azeros, Int.le_refl, *]; (first | done | exact rfl)) | rfl)) rfl ?_; intro id hid; (try simp only [set_none_iff] at hid); have hz := hid; (repeat (replace hz := hz.2)); (try have := nei hp hz); (try have := nei hp2 hz); (try have := nei g2 hz); (try have := nei g3 hz); (try have := nei g4 hz); refine ⟨_, (by (first | (simp only [go_sem, bs_append, bs_size, bs_toList, bs_extract, bs_get, reduceIte, List.append_nil, Nat.sub_zero, bne_self_eq_false, beq_self_eq_true, azeros, Int.le_refl, *]; (first | done | exact rfl)) | rfl)), ?_⟩; dsimp only [putT, ev, Int.toNat_zero, Nat.sub_zero, Int.toNat_natCast,  gd_zero, gd_succ, Nat.zero_add, Nat.add_zero, Nat.reduceAdd, Nat.reduceMul, List.set_cons_zero, List.set_cons_succ, keep, List.contains_cons, List.contains_nil]) | (refine wChk rfl (by (first | (simp only [go_sem, bs_append, bs_size, bs_toList, bs_extract, bs_get, reduceIte, List.append_nil, Nat.sub_zero, bne_self_eq_false, beq_self_eq_true, azeros, Int.le_refl, *]; (first | done | exact rfl)) | rfl)) rfl (by (first | (simp only [go_sem, bs_append, bs_size, bs_toList, bs_extract, bs_get, reduceIte, List.append_nil, Nat.sub_zero, bne_self_eq_false, beq_self_eq_true, azeros, Int.le_refl, *]; (first | done | exact rfl)) | rfl)) rfl ?_) | (refine wChkF rfl (by (first | (simp only [go_sem, bs_append, bs_size, bs_toList, bs_extract, bs_get, reduceIte, List.append_nil, Nat.sub_zero, bne_self_eq_false, beq_self_eq_true, azeros, Int.le_refl, *]; (first | done | exact rfl)) | rfl)) rfl ?_) | (refine wSkip rfl (by (first | (simp only [go_sem, bs_append, bs_size, bs_toList, bs_extract, bs_get, reduceIte, List.append_nil, Nat.sub_zero, bne_self_eq_false, beq_self_eq_true, azeros, Int.le_refl, *]; (first | done | exact rfl)) | rfl)) ?_; dsimp only [putT, ev, Int.toNat_zero, Nat.sub_zero, Int.toNat_natCast,  gd_zero, gd_succ, Nat.zero_add, Nat.add_zero, Nat.reduceAdd, Nat.reduceMul, List.set_cons_zero, List.set_cons_succ, keep, List.contains_cons, List.contains_nil]) | (refine xCall rfl rfl (k21 _ _ (hr.new hid)) ?_; rintro r h2 ⟨rfl, hr2⟩; have hB2 := hr.1.no hid; have hn2 := nei hp hid; have hp2 := hr2.2.2; have g2 := hr2.1 _ _ set_same; obtain ⟨r2, rfl⟩ : ∃ x, x = id := ⟨_, rfl⟩; refine nTm ?_) | (refine xCall rfl rfl (sp32 _ p R e1 4 _ (hr2.new2 hid)) ?_; rintro r h3 hr3; rw [hfl] at hr3; have hp3 := hr3.2.2; have g3 := hr3.1 _ _ set_same; have g4 : h3 r2 = some ⟨true, [.int .i64 0, .int .u64 0, .int .i64 0, .str ⟨#[]⟩]⟩ := hr3.1 _ _ (by simp only [go_sem, *]); refine nTm ?_) | (refine xCall rfl rfl (k37 _ _ (hr3)) ?_; rintro r h4 ⟨rfl, hr4⟩; have hne := Ne.symm (nei hp2 hid); have hBi := (Rd.drop hr2 hB2).1.no hid; have hp4 := hr4.2.2; have g5 := hr4.1 _ _ set_same; have g6 : h4 r2 = some ⟨true, [.int .i64 0, .int .u64 0, .int .i64 0, .str ⟨#[]⟩]⟩ := hr4.1 _ _ (by simp only [go_sem, *]); refine nTm ?_) | (refine xCall rfl rfl (k25 _ _ (Rd.both hr4 hne)) ?_; rintro r h5 ⟨rfl, hr5⟩; have hp5 := hr5.2.2; have g7 := hr5.1 _ _ set_same; have g8 : h5 r2 = some ⟨true, [.int .i64 0, .int .u64 0, .int .i64 0, .str ⟨#[]⟩]⟩ := hr5.1 _ _ (by simp only [go_sem, *]); refine nTm ?_) | (refine cSeq ?_) | (refine cNorm ?_) | (refine cRet ?_) | (refine cExit ?_) | (refine W_reg rfl ?_) | (refine W_block ?_) | (refine W_ret ?_) | (refine W_skip ?_) | (refine W_exit ?_) | (refine bNorm ?_) | (refine bRet ?_) | (refine bExit ?_) | (refine bExitN rfl ?_) | (refine cMask' (by simp only [keep, List.contains_cons, List.contains_nil, Nat.reduceBEq, Bool.or_true, Bool.true_or, Bool.or_false, Bool.false_or, if_true, if_false, Bool.false_eq_true, beq_self_eq_true, Nat.zero_add, Nat.reduceAdd, eq_self]; exact rfl) ?_) | (refine cT (by (first | (simp only [go_sem, bs_append, bs_size, bs_toList, bs_extract, bs_get, reduceIte, List.append_nil, Nat.sub_zero, bne_self_eq_false, beq_self_eq_true, azeros, Int.le_refl, *]; (first | done | exact rfl)) | rfl)) ?_) | (refine cF (by (first | (simp only [go_sem, bs_append, bs_size, bs_toList, bs_extract, bs_get, reduceIte, List.append_nil, Nat.sub_zero, bne_self_eq_false, beq_self_eq_true, azeros, Int.le_refl, *]; (first | done | exact rfl)) | rfl)) ?_) | (refine rRet (by (first | (simp only [go_sem, bs_append, bs_size, bs_toList, bs_extract, bs_get, reduceIte, List.append_nil, Nat.sub_zero, bne_self_eq_false, beq_self_eq_true, azeros, Int.le_refl, *]; (first | done | exact rfl)) | rfl)) ?_) | (refine rNorm (by (first | (simp only [go_sem, bs_append, bs_size, bs_toList, bs_extract, bs_get, reduceIte, List.append_nil, Nat.sub_zero, bne_self_eq_false, beq_self_eq_true, azeros, Int.le_refl, *]; (first | done | exact rfl)) | rfl)) ?_) | (refine wSplit _ rfl (by (first | (simp only [go_sem, bs_append, bs_size, bs_toList, bs_extract, bs_get, reduceIte, List.append_nil, Nat.sub_zero, bne_self_eq_false, beq_self_eq_true, azeros, Int.le_refl, *]; (first | done | exact rfl)) | rfl)) ?_ ?_ <;> intro hb <;> (try simp only [beq_false, beq_true, Bool.not_true, Bool.not_false, Bool.not_eq_true', Bool.not_eq_false', decide_eq_false_iff_not, decide_eq_true_eq, bne_iff_ne, beq_iff_eq, Bool.true_eq, Bool.false_eq, Bool.not_not, Bool.and_eq_true, Bool.or_eq_true, Bool.bne_true, Bool.bne_false, bne_eq_false_iff_eq, beq_eq_false_iff_ne, ne_eq] at hb)) | (refine W_cond _ (by (first | (simp only [go_sem, bs_append, bs_size, bs_toList, bs_extract, bs_get, reduceIte, List.append_nil, Nat.sub_zero, bne_self_eq_false, beq_self_eq_true, azeros, Int.le_refl, *]; (first | done | exact rfl)) | rfl)) ?_ ?_ <;> intro hb <;> (try simp only [beq_false, beq_true, Bool.not_true, Bool.not_false, Bool.not_eq_true', Bool.not_eq_false', decide_eq_false_iff_not, decide_eq_true_eq, bne_iff_ne, beq_iff_eq, Bool.true_eq, Bool.false_eq, Bool.not_not, Bool.and_eq_true, Bool.or_eq_true, Bool.bne_true, Bool.bne_false, bne_eq_false_iff_eq, beq_eq_false_iff_ne, ne_eq] at hb)))
    all_goals (refine ⟨[.agg [.int .i64 (n : Int), .int .u64 (C : Int), .int .i64 (m : Int), .str (bs w)]], (by simp [ares, ares1, f78, ev, AH.cellsAt, AH.cell, set_same, set_ne', *]), rfl, Rd.weak (Rd.both (Rd.both hr5 hne) (Ne.symm hn2)) (by repeat' (first | exact Sub.rfl' | exact hB2 | exact hBi | refine Sub.set ?_ ?_))⟩)
  · rw [if_neg c]
    have k37 : ∀ (B h : AH), Rd B p h R e1 → Sp T 37 [.ptr p 0] h (fun r h' => r = .agg [.int .u64 (gB R e1).2.2.1, .int .i64 (gB R e1).2.2.2] ∧ Rd B p h' (gB R e1).1 (gB R e1).2.1) := fun B h hr => sp37 B p R e1 h hr
    obtain ⟨⟨R2, e3, C, m⟩, hq⟩ : ∃ q, gB R e1 = q := ⟨_, rfl⟩
    simp only [hq] at k37 ⊢
    clear hq
    have k25 : ∀ (B h : AH), Rd B p h R2 e3 → Sp T 25 [.ptr p 0, .int .i64 400] h (fun r h' => r = .str (bs (tS R2 e3 400).2.2) ∧ Rd B p h' (tS R2 e3 400).1 (tS R2 e3 400).2.1) := fun B h hr => sp25 B p R2 e3 400 h hr (by decide)
    obtain ⟨⟨R3, e4, w⟩, hq⟩ : ∃ q, tS R2 e3 400 = q := ⟨_, rfl⟩
    simp only [hq] at k25 ⊢
    clear hq
    refine Sp_of (fn := f78) rfl (show W T b78 [.ptr p 0, .int .i64 last, .tup [], .tup [], .tup [], .tup [], .tup [], .tup [], .tup [], .tup [], .tup [], .tup [], .tup [], .tup [], .tup [], .tup [], .tup [], .tup [], .tup [], .tup [], .tup [], .tup []] _ _ from ?_)
    unfold b78
    repeat' (first | (refine wNil ?_) | (refine wPure rfl (by (first | (simp only [go_sem, bs_append, bs_size, bs_toList, bs_extract, bs_get, reduceIte, List.append_nil, Nat.sub_zero, bne_self_eq_false, beq_self_eq_true, azeros, Int.le_refl, *]; (first | done | exact rfl)) | rfl)) rfl (by (first | (simp only [go_sem, bs_append, bs_size, bs_toList, bs_extract, bs_get, reduceIte, List.append_nil, Nat.sub_zero, bne_self_eq_false, beq_self_eq_true, azeros, Int.le_refl, *]; (first | done | exact rfl)) | rfl)) ?_; dsimp only [putT, ev, Int.toNat_zero, Nat.sub_zero, Int.toNat_natCast,  gd_zero, gd_succ, Nat.zero_add, Nat.add_zero, Nat.reduceAdd, Nat.reduceMul, List.set_cons_zero, List.set_cons_succ, keep, List.contains_cons, List.contains_nil]) | (refine wMk rfl (by (first | (simp only [go_sem, bs_append, bs_size, bs_toList, bs_extract, bs_get, reduceIte, List.append_nil, Nat.sub_zero, bne_self_eq_false, beq_self_eq_true, azeros, Int.le_refl, *]; (first | done | exact rfl)) | rfl)) rfl ?_; intro id hid; (try simp only [set_none_iff] at hid); have hz := hid; (repeat (replace hz := hz.2)); (try have := nei hp hz); (try have := nei hp2 hz); (try have := nei g2 hz); refine ⟨_, (by (first | (simp only [go_sem, bs_append, bs_size, bs_toList, bs_extract, bs_get, reduceIte, List.append_nil, Nat.sub_zero, bne_self_eq_false, beq_self_eq_true, azeros, Int.le_refl, *]; (first | done | exact rfl)) | rfl)), ?_⟩; dsimp only [putT, ev, Int.toNat_zero, Nat.sub_zero, Int.toNat_natCast,  gd_zero, gd_succ, Nat.zero_add, Nat.add_zero, Nat.reduceAdd, Nat.reduceMul, List.set_cons_zero, List.set_cons_succ, keep, List.contains_cons, List.contains_nil]) | (refine wChk rfl (by (first | (simp only [go_sem, bs_append, bs_size, bs_toList, bs_extract, bs_get, reduceIte, List.append_nil, Nat.sub_zero, bne_self_eq_false, beq_self_eq_true, azeros, Int.le_refl, *]; (first | done | exact rfl)) | rfl)) rfl (by (first | (simp only [go_sem, bs_append, bs_size, bs_toList, bs_extract, bs_get, reduceIte, List.append_nil, Nat.sub_zero, bne_self_eq_false, beq_self_eq_true, azeros, Int.le_refl, *]; (first | done | exact rfl)) | rfl)) rfl ?_) | (refine wChkF rfl (by (first | (simp only [go_sem, bs_append, bs_size, bs_toList, bs_extract, bs_get, reduceIte, List.append_nil, Nat.sub_zero, bne_self_eq_false, beq_self_eq_true, azeros, Int.le_refl, *]; (first | done | exact rfl)) | rfl)) rfl ?_) | (refine wSkip rfl (by (first | (simp only [go_sem, bs_append, bs_size, bs_toList, bs_extract, bs_get, reduceIte, List.append_nil, Nat.sub_zero, bne_self_eq_false, beq_self_eq_true, azeros, Int.le_refl, *]; (first | done | exact rfl)) | rfl)) ?_; dsimp only [putT, ev, Int.toNat_zero, Nat.sub_zero, Int.toNat_natCast,  gd_zero, gd_succ, Nat.zero_add, Nat.add_zero, Nat.reduceAdd, Nat.reduceMul, List.set_cons_zero, List.set_cons_succ, keep, List.contains_cons, List.contains_nil]) | (refine xCall rfl rfl (k21 _ _ (hr.new hid)) ?_; rintro r h2 ⟨rfl, hr2⟩; have hB2 := hr.1.no hid; have hn2 := nei hp hid; have hp2 := hr2.2.2; have g2 := hr2.1 _ _ set_same; obtain ⟨r2, rfl⟩ : ∃ x, x = id := ⟨_, rfl⟩; refine nTm ?_) | (refine xCall rfl rfl (k37 _ _ (hr2.new2 hid)) ?_; rintro r h4 ⟨rfl, hr4⟩; have hne := Ne.symm (nei hp2 hid); have hBi := (Rd.drop hr2 hB2).1.no hid; have hp4 := hr4.2.2; have g5 := hr4.1 _ _ set_same; have g6 : h4 r2 = some ⟨true, [.int .i64 0, .int .u64 0, .int .i64 0, .str ⟨#[]⟩]⟩ := hr4.1 _ _ (by simp only [go_sem, *]); refine nTm ?_) | (refine xCall rfl rfl (k25 _ _ (Rd.both hr4 hne)) ?_; rintro r h5 ⟨rfl, hr5⟩; have hp5 := hr5.2.2; have g7 := hr5.1 _ _ set_same; have g8 : h5 r2 = some ⟨true, [.int .i64 0, .int .u64 0, .int .i64 0, .str ⟨#[]⟩]⟩ := hr5.1 _ _ (by simp only [go_sem, *]); refine nTm ?_) | (refine cSeq ?_) | (refine cNorm ?_) | (refine cRet ?_) | (refine cExit ?_) | (refine W_reg rfl ?_) | (refine W_block ?_) | (refine W_ret ?_) | (refine W_skip ?_) | (refine W_exit ?_) | (refine bNorm ?_) | (refine bRet ?_) | (refine bExit ?_) | (refine bExitN rfl ?_) | (refine cMask' (by simp only [keep, List.contains_cons, List.contains_nil, Nat.reduceBEq, Bool.or_true, Bool.true_or, Bool.or_false, Bool.false_or, if_true, if_false, Bool.false_eq_true, beq_self_eq_true, Nat.zero_add, Nat.reduceAdd, eq_self]; exact rfl) ?_) | (refine cT (by (first | (simp only [go_sem, bs_append, bs_size, bs_toList, bs_extract, bs_get, reduceIte, List.append_nil, Nat.sub_zero, bne_self_eq_false, beq_self_eq_true, azeros, Int.le_refl, *]; (first | done | exact rfl)) | rfl)) ?_) | (refine cF (by (first | (simp only [go_sem, bs_append, bs_size, bs_toList, bs_extract, bs_get, reduceIte, List.append_nil, Nat.sub_zero, bne_self_eq_false, beq_self_eq_true, azeros, Int.le_refl, *]; (first | done | exact rfl)) | rfl)) ?_) | (refine rRet (by (first | (simp only [go_sem, bs_append, bs_size, bs_toList, bs_extract, bs_get, reduceIte, List.append_nil, Nat.sub_zero, bne_self_eq_false, beq_self_eq_true, azeros, Int.le_refl, *]; (first | done | exact rfl)) | rfl)) ?_) | (refine rNorm (by (first | (simp only [go_sem, bs_append, bs_size, bs_toList, bs_extract, bs_get, reduceIte, List.append_nil, Nat.sub_zero, bne_self_eq_false, beq_self_eq_true, azeros, Int.le_refl, *]; (first | done | exact rfl)) | rfl)) ?_) | (refine wSplit _ rfl (by (first | (simp only [go_sem, bs_append, bs_size, bs_toList, bs_extract, bs_get, reduceIte, List.append_nil, Nat.sub_zero, bne_self_eq_false, beq_self_eq_true, azeros, Int.le_refl, *]; (first | done | exact rfl)) | rfl)) ?_ ?_ <;> intro hb <;> (try simp only [beq_false, beq_true, Bool.not_true, Bool.not_false, Bool.not_eq_true', Bool.not_eq_false', decide_eq_false_iff_not, decide_eq_true_eq, bne_iff_ne, beq_iff_eq, Bool.true_eq, Bool.false_eq, Bool.not_not, Bool.and_eq_true, Bool.or_eq_true, Bool.bne_true, Bool.bne_false, bne_eq_false_iff_eq, beq_eq_false_iff_ne, ne_eq] at hb)) | (refine W_cond _ (by (first | (simp only [go_sem, bs_append, bs_size, bs_toList, bs_extract, bs_get, reduceIte, List.append_nil, Nat.sub_zero, bne_self_eq_false, beq_self_eq_true, azeros, Int.le_refl, *]; (first | done | exact rfl)) | rfl)) ?_ ?_ <;> intro hb <;> (try simp only [beq_false, beq_true, Bool.not_true, Bool.not_false, Bool.not_eq_true', Bool.not_eq_false', decide_eq_false_iff_not, decide_eq_true_eq, bne_iff_ne, beq_iff_eq, Bool.true_eq, Bool.false_eq, Bool.not_not, Bool.and_eq_true, Bool.or_eq_true, Bool.bne_true, Bool.bne_false, bne_eq_false_iff_eq, beq_eq_false_iff_ne, ne_eq] at hb)))
    all_goals (refine ⟨[.agg [.int .i64 (n : Int), .int .u64 (C : Int), .int .i64 (m : Int), .str (bs w)]], (by simp [ares, ares1, f78, ev, AH.cellsAt, AH.cell, set_same, set_ne', *]), rfl, Rd.weak (Rd.both (Rd.both hr5 hne) (Ne.symm hn2)) (by repeat' (first | exact Sub.rfl' | exact hB2 | exact hBi | refine Sub.set ?_ ?_))⟩)
end Go.Proofs.YtgekngfnhhdamaaI
set_option linter.unusedVariables false
set_option linter.unusedSimpArgs false
set_option maxRecDepth 100000
set_option maxHeartbeats 4000000
namespace Go.Proofs.YtgekngfnhhdamaaI
open Go Go.Proofs.YtgekngfnhhdamaaM
attribute [local go_sem] aop ev fg_slc fg_slk fg_ptr fg_bool fg_int fg_str fg_iface fg_func fg_agg fg_tup fg_nils fg_nilp fg_nilI fg_nilF fg_und aboundsK alen_nils alen_slc alen_slk aslice_nils aslice_slc aslice_slk awanted abin aun aint aeqn aeqc aeqs apart abounds abnd amaxi amaxiGo cells_agg cells_slc cells_slk cells_ptr cells_bool cells_int cells_str cells_iface cells_func cells_tup cells_nils cells_nilp cells_nilI cells_nilF cells_und sc_slc sc_slk sc_ptr sc_bool sc_int sc_str sc_iface sc_func sc_nils sc_nilp sc_nilI sc_nilF gd_zero gd_succ List.all_cons List.all_nil Bool.and_self Bool.and_true Bool.true_and List.length_cons List.length_nil Option.map_some Option.some.injEq cell_same cell_ne cell_ne' cellsAt_same cellsAt_ne cellsAt_ne' put_same put_of set_same set_ne set_ne' List.getElem?_cons_zero List.getElem?_cons_succ if_true if_false and_self and_true true_and ne_eq not_true_eq_false not_false_eq_true decide_true decide_false Bool.false_eq_true Bool.true_eq_false beq_self_eq_true bne_self_eq_false beq_true beq_false Bool.not_true Bool.not_false List.map_cons List.map_nil putL List.set_cons_zero List.set_cons_succ afill Nat.zero_le Nat.le_refl Nat.zero_add Nat.add_zero List.drop_zero List.drop_succ_cons List.take_zero List.take_succ_cons Bool.not_eq_true Bool.not_eq_false decide_eq_true_eq decide_eq_false_iff_not Int.toNat_zero Nat.sub_zero Int.toNat_natCast Bool.bne_true Bool.bne_false AH.cell AH.cellsAt AH.put Nat.mul_one Nat.one_mul Int.natCast_nonneg List.length_set aslice azeros bs_append bs_size bs_toList bs_extract bs_get List.cons_append List.nil_append List.append_nil AV.scalar Int.le_refl List.length_append
theorem keep2 {H h' : AH} {i j : List Nat} {b c : Blk} (hU : Up ((H.set i (some b)).set j (some c)) h') (hj : j ≠ i) : ∃ i', i' = i ∧ h' i' = some b ∧ h' j = some c :=
  ⟨i, rfl, hU _ _ (by rw [set_ne (Ne.symm hj), set_same]), hU _ _ set_same⟩
/-- the document's Get -/
theorem sp38 (s : List UInt8) (e : Int) (h : AH) : Sp T 38 [.agg [.str (bs s), .int .i64 e]] h (fun r h' => r = .tup [.agg [.str (bs (gB s e).1), .int .i64 (gB s e).2.1], .agg [.int .u64 (gB s e).2.2.1, .int .i64 (gB s e).2.2.2]] ∧ Up h h') := by
  have hu0 := Up.refl h
  have k18 := fun h => sp18 s e h
  have hE := tU_err (s := s) (e := e)
  unfold gB
  obtain ⟨⟨R, e2, C⟩, hq⟩ : ∃ q, tU s e = q := ⟨_, rfl⟩
  simp only [hq] at k18 hE ⊢
  clear hq
  have k20 := fun h => sp20 R e2 11 h (by decide)
  have hN : (tN R e2 11).2.1 ≠ 0 ∨ (tN R e2 11).2.1 = 0 := by omega
  have hN2 : (tN R e2 11).2.1 ≠ 0 → (tN R e2 11).2.2 = 0 := by
    unfold tN
    split
    · intro _; rfl
    · exact tU_err
  obtain ⟨⟨R2, e3, n⟩, hq⟩ : ∃ q, tN R e2 11 = q := ⟨_, rfl⟩
  simp only [hq] at k20 hN hN2 ⊢
  clear hq
  rcases hN with z | rfl
  · obtain rfl := hN2 z
    have z1 : (e3 == 0) = false := by simpa using z
    have z2 : (e3 != 0) = true := by simpa using z
    rw [if_neg (by omega : ¬ (C = 0 ∧ 0 < 0)), if_neg z]
    refine Sp_of (fn := f38) rfl (show W T b38 [.agg [.str (bs s), .int .i64 e], .tup [], .tup [], .tup [], .tup [], .tup [], .tup [], .tup [], .tup [], .tup [], .tup [], .tup [], .tup [], .tup [], .tup [], .tup [], .tup [], .tup [], .tup [], .tup [], .tup [], .tup [], .tup [], .tup [], .tup [], .tup [], .tup [], .tup [], .tup [], .tup [], .tup [], .tup [], .tup [], .tup [], .tup [], .tup [], .tup [], .tup [], .tup []] _ _ from ?_)
    unfold b38
    repeat' (first | (refine wNil ?_) | (refine xPure ?_) | (refine xMk ?_; intro id hid; (try simp only [set_none_iff] at hid); have hz := hid; (repeat (replace hz := hz.2)); (try have := nei g2 hz); (try have := nei g3 hz); (try have := nei g4 hz); (try have := nei g5 hz); (try have := Up.none hu0 hz); (try have := Up.none hu2 hz); (try have := Up.none hu5 hz); refine mkDo ?_) | (refine xChk ?_) | (refine xChkF ?_) | (refine xSkip ?_) | (refine xCall rfl rfl (k18 _) ?_; rintro r h2 ⟨rfl, hU2⟩; have hu2 : Up h h2 := Up.trans (by repeat' (first | assumption | exact Up.refl _ | refine Up.new ?_ ?_)) hU2; obtain ⟨r2, e2, g2, g3⟩ := keep2 hU2 hid.1; subst e2; obtain ⟨r3, rfl⟩ : ∃ x, x = id := ⟨_, rfl⟩; refine nTm ?_) | (refine xCall rfl rfl (k20 _) ?_; rintro r h5 ⟨rfl, hU5⟩; have hu5 : Up h h5 := Up.trans (by repeat' (first | assumption | exact Up.refl _ | refine Up.new ?_ ?_)) hU5; have g4 : h5 r2 = some ⟨true, [.str (bs []), .int .i64 0]⟩ := hU5 _ _ (by simp only [go_sem, *]); have g5 : h5 r3 = some ⟨true, [.int .u64 0, .int .i64 0]⟩ := hU5 _ _ (by simp only [go_sem, *]); refine nTm ?_) | (refine cSeq ?_) | (refine cNorm ?_) | (refine cRet ?_) | (refine cExit ?_) | (refine W_reg rfl ?_) | (refine W_block ?_) | (refine W_ret ?_) | (refine W_skip ?_) | (refine W_exit ?_) | (refine bNorm ?_) | (refine bRet ?_) | (refine bExit ?_) | (refine bExitN rfl ?_) | (refine xMask ?_) | (refine xT ?_) | (refine xF ?_) | (refine xRet ?_) | (refine xNorm ?_) | (refine xSplit ?_ ?_ <;> intro hb <;> (try exact False.elim hb)) | (refine xCond ?_ ?_ <;> intro hb <;> (try exact False.elim hb)))
    all_goals (refine ⟨[.agg [.str (bs R2), .int .i64 e3], .agg [.int .u64 0, .int .i64 0]], (by simp [ares, ares1, f38, ev, AH.cellsAt, AH.cell, set_same, set_ne', *]), rfl, (by repeat' (first | assumption | exact Up.refl _ | refine Up.new ?_ ?_))⟩)
  · by_cases c : C = 0 ∧ 0 < n
    · have c1 : ((C : Int) == 0) = true := by simp [c.1]
      have c2 : (0 : Int) < (n : Int) := by omega
      have f4 : fl 0 4 = 4 := rfl
      rw [if_pos c, f4, if_neg (by decide)]
      refine Sp_of (fn := f38) rfl (show W T b38 [.agg [.str (bs s), .int .i64 e], .tup [], .tup [], .tup [], .tup [], .tup [], .tup [], .tup [], .tup [], .tup [], .tup [], .tup [], .tup [], .tup [], .tup [], .tup [], .tup [], .tup [], .tup [], .tup [], .tup [], .tup [], .tup [], .tup [], .tup [], .tup [], .tup [], .tup [], .tup [], .tup [], .tup [], .tup [], .tup [], .tup [], .tup [], .tup [], .tup [], .tup [], .tup []] _ _ from ?_)
      unfold b38
      repeat' (first | (refine wNil ?_) | (refine xPure ?_) | (refine xMk ?_; intro id hid; (try simp only [set_none_iff] at hid); have hz := hid; (repeat (replace hz := hz.2)); (try have := nei g2 hz); (try have := nei g3 hz); (try have := nei g4 hz); (try have := nei g5 hz); (try have := Up.none hu0 hz); (try have := Up.none hu2 hz); (try have := Up.none hu5 hz); refine mkDo ?_) | (refine xChk ?_) | (refine xChkF ?_) | (refine xSkip ?_) | (refine xCall rfl rfl (k18 _) ?_; rintro r h2 ⟨rfl, hU2⟩; have hu2 : Up h h2 := Up.trans (by repeat' (first | assumption | exact Up.refl _ | refine Up.new ?_ ?_)) hU2; obtain ⟨r2, e2, g2, g3⟩ := keep2 hU2 hid.1; subst e2; obtain ⟨r3, rfl⟩ : ∃ x, x = id := ⟨_, rfl⟩; refine nTm ?_) | (refine xCall rfl rfl (k20 _) ?_; rintro r h5 ⟨rfl, hU5⟩; have hu5 : Up h h5 := Up.trans (by repeat' (first | assumption | exact Up.refl _ | refine Up.new ?_ ?_)) hU5; have g4 : h5 r2 = some ⟨true, [.str (bs []), .int .i64 0]⟩ := hU5 _ _ (by simp only [go_sem, *]); have g5 : h5 r3 = some ⟨true, [.int .u64 0, .int .i64 0]⟩ := hU5 _ _ (by simp only [go_sem, *]); refine nTm ?_) | (refine cSeq ?_) | (refine cNorm ?_) | (refine cRet ?_) | (refine cExit ?_) | (refine W_reg rfl ?_) | (refine W_block ?_) | (refine W_ret ?_) | (refine W_skip ?_) | (refine W_exit ?_) | (refine bNorm ?_) | (refine bRet ?_) | (refine bExit ?_) | (refine bExitN rfl ?_) | (refine xMask ?_) | (refine xT ?_) | (refine xF ?_) | (refine xRet ?_) | (refine xNorm ?_) | (refine xSplit ?_ ?_ <;> intro hb <;> (try exact False.elim hb)) | (refine xCond ?_ ?_ <;> intro hb <;> (try exact False.elim hb)))
      all_goals (refine ⟨[.agg [.str (bs R2), .int .i64 4], .agg [.int .u64 0, .int .i64 0]], (by simp [ares, ares1, f38, ev, AH.cellsAt, AH.cell, set_same, set_ne', *]), rfl, (by repeat' (first | assumption | exact Up.refl _ | refine Up.new ?_ ?_))⟩)
    · rw [if_neg c, if_pos rfl]
      rcases (show ((C : Int) == 0) = false ∨ (((C : Int) == 0) = true ∧ ¬ (0 : Int) < (n : Int)) from by
        by_cases c0 : C = 0
        · exact .inr ⟨by simp [c0], by omega⟩
        · exact .inl (by simp; omega)) with c1 | ⟨c1, c2⟩
      all_goals
        refine Sp_of (fn := f38) rfl (show W T b38 [.agg [.str (bs s), .int .i64 e], .tup [], .tup [], .tup [], .tup [], .tup [], .tup [], .tup [], .tup [], .tup [], .tup [], .tup [], .tup [], .tup [], .tup [], .tup [], .tup [], .tup [], .tup [], .tup [], .tup [], .tup [], .tup [], .tup [], .tup [], .tup [], .tup [], .tup [], .tup [], .tup [], .tup [], .tup [], .tup [], .tup [], .tup [], .tup [], .tup [], .tup [], .tup []] _ _ from ?_)
        unfold b38
        repeat' (first | (refine wNil ?_) | (refine xPure ?_) | (refine xMk ?_; intro id hid; (try simp only [set_none_iff] at hid); have hz := hid; (repeat (replace hz := hz.2)); (try have := nei g2 hz); (try have := nei g3 hz); (try have := nei g4 hz); (try have := nei g5 hz); (try have := Up.none hu0 hz); (try have := Up.none hu2 hz); (try have := Up.none hu5 hz); refine mkDo ?_) | (refine xChk ?_) | (refine xChkF ?_) | (refine xSkip ?_) | (refine xCall rfl rfl (k18 _) ?_; rintro r h2 ⟨rfl, hU2⟩; have hu2 : Up h h2 := Up.trans (by repeat' (first | assumption | exact Up.refl _ | refine Up.new ?_ ?_)) hU2; obtain ⟨r2, e2, g2, g3⟩ := keep2 hU2 hid.1; subst e2; obtain ⟨r3, rfl⟩ : ∃ x, x = id := ⟨_, rfl⟩; refine nTm ?_) | (refine xCall rfl rfl (k20 _) ?_; rintro r h5 ⟨rfl, hU5⟩; have hu5 : Up h h5 := Up.trans (by repeat' (first | assumption | exact Up.refl _ | refine Up.new ?_ ?_)) hU5; have g4 : h5 r2 = some ⟨true, [.str (bs []), .int .i64 0]⟩ := hU5 _ _ (by simp only [go_sem, *]); have g5 : h5 r3 = some ⟨true, [.int .u64 0, .int .i64 0]⟩ := hU5 _ _ (by simp only [go_sem, *]); refine nTm ?_) | (refine cSeq ?_) | (refine cNorm ?_) | (refine cRet ?_) | (refine cExit ?_) | (refine W_reg rfl ?_) | (refine W_block ?_) | (refine W_ret ?_) | (refine W_skip ?_) | (refine W_exit ?_) | (refine bNorm ?_) | (refine bRet ?_) | (refine bExit ?_) | (refine bExitN rfl ?_) | (refine xMask ?_) | (refine xT ?_) | (refine xF ?_) | (refine xRet ?_) | (refine xNorm ?_) | (refine xSplit ?_ ?_ <;> intro hb <;> (try exact False.elim hb)) | (refine xCond ?_ ?_ <;> intro hb <;> (try exact False.elim hb)))
      all_goals (refine ⟨[.agg [.str (bs R2), .int .i64 0], .agg [.int .u64 C, .int .i64 n]], (by simp [ares, ares1, f38, ev, AH.cellsAt, AH.cell, set_same, set_ne', *]), rfl, (by repeat' (first | assumption | exact Up.refl _ | refine Up.new ?_ ?_))⟩)
end Go.Proofs.YtgekngfnhhdamaaI
set_option linter.unusedVariables false
set_option linter.unusedSimpArgs false
set_option maxRecDepth 100000
set_option maxHeartbeats 4000000
namespace Go.Proofs.YtgekngfnhhdamaaI
open Go Go.Proofs.YtgekngfnhhdamaaM
attribute [local go_sem] aop ev fg_slc fg_slk fg_ptr fg_bool fg_int fg_str fg_iface fg_func fg_agg fg_tup fg_nils fg_nilp fg_nilI fg_nilF fg_und aboundsK alen_nils alen_slc alen_slk aslice_nils aslice_slc aslice_slk awanted abin aun aint aeqn aeqc aeqs apart abounds abnd amaxi amaxiGo cells_agg cells_slc cells_slk cells_ptr cells_bool cells_int cells_str cells_iface cells_func cells_tup cells_nils cells_nilp cells_nilI cells_nilF cells_und sc_slc sc_slk sc_ptr sc_bool sc_int sc_str sc_iface sc_func sc_nils sc_nilp sc_nilI sc_nilF gd_zero gd_succ List.all_cons List.all_nil Bool.and_self Bool.and_true Bool.true_and List.length_cons List.length_nil Option.map_some Option.some.injEq cell_same cell_ne cell_ne' cellsAt_same cellsAt_ne cellsAt_ne' put_same put_of set_same set_ne set_ne' List.getElem?_cons_zero List.getElem?_cons_succ if_true if_false and_self and_true true_and ne_eq not_true_eq_false not_false_eq_true decide_true decide_false Bool.false_eq_true Bool.true_eq_false beq_self_eq_true bne_self_eq_false beq_true beq_false Bool.not_true Bool.not_false List.map_cons List.map_nil putL List.set_cons_zero List.set_cons_succ afill Nat.zero_le Nat.le_refl Nat.zero_add Nat.add_zero List.drop_zero List.drop_succ_cons List.take_zero List.take_succ_cons Bool.not_eq_true Bool.not_eq_false decide_eq_true_eq decide_eq_false_iff_not Int.toNat_zero Nat.sub_zero Int.toNat_natCast Bool.bne_true Bool.bne_false AH.cell AH.cellsAt AH.put Nat.mul_one Nat.one_mul Int.natCast_nonneg List.length_set bs_append bs_size bs_toList bs_extract bs_get List.cons_append List.nil_append List.append_nil
def xr (x y : Int) : Int := IntKind.u32.wrap ((BitVec.ofInt IntKind.u32.bits x ^^^ BitVec.ofInt IntKind.u32.bits y).toNat : Int)
def an (x y : Int) : Int := IntKind.u32.wrap ((BitVec.ofInt IntKind.u32.bits x &&& BitVec.ofInt IntKind.u32.bits y).toNat : Int)
theorem xr_eq (x y : Int) : absBits .xor .u32 x y = some (xr x y) := rfl
theorem an_eq (x y : Int) : absBits .and .u32 x y = some (an x y) := rfl
theorem xr_rng (x y : Int) : 0 ≤ xr x y ∧ xr x y < 4294967296 := by
  unfold xr
  have h := (BitVec.ofInt IntKind.u32.bits x ^^^ BitVec.ofInt IntKind.u32.bits y).isLt
  have e : (2 : Nat) ^ IntKind.u32.bits = 4294967296 := by decide
  rw [wrapU32 (by omega) (by omega)]
  omega
/-- A byte's rounds. -/
def half (c : Int) : Int := c.fdiv (2 ^ (min (Int.toNat 1) 32))
def rnd (c : Int) : Int := if an c 1 = 1 then xr (half c) 3988292384 else half c
def rnds : Nat → Int → Int
  | 0, c => c
  | n + 1, c => rnds n (rnd c)
theorem rnds_succ : ∀ (k : Nat) (c : Int), rnds (k + 1) c = rnd (rnds k c)
  | 0, c => rfl
  | k + 1, c => by rw [rnds, rnds_succ k, rnds]
def mo (c : Int) (b : UInt8) : Int := rnds 8 (xr c (IntKind.u32.wrap (b.toNat : Int)))
def smF (l : List UInt8) : Int := xr 4294967295 (l.foldl mo 4294967295)
/-- more -/
theorem sp69 (c : Int) (b : UInt8) (h : AH) : Sp T 69 [.int .u32 c, .int .u8 b.toNat] h (fun v h' => v = .int .u32 (mo c b) ∧ h' = h) := by
  have x0 := xr_eq c (IntKind.u32.wrap (b.toNat : Int))
  refine Sp_of (fn := f69) rfl (show W T b69 [.int .u32 c, .int .u8 b.toNat, .tup [], .tup [], .tup [], .tup [], .tup [], .tup [], .tup [], .tup [], .tup [], .tup [], .tup [], .tup [], .tup [], .tup [], .tup [], .tup [], .tup [], .tup [], .tup [], .tup []] _ _ from ?_)
  unfold b69
  repeat' (first | (refine wNil ?_) | (refine xPure ?_) | (refine xMk ?_; intro id hid; (try simp only [set_none_iff] at hid); refine mkDo ?_) | (refine xChk ?_) | (refine xChkF ?_) | (refine xSkip ?_) | (refine cSeq ?_) | (refine cNorm ?_) | (refine cRet ?_) | (refine cExit ?_) | (refine W_reg rfl ?_) | (refine W_block ?_) | (refine W_ret ?_) | (refine W_skip ?_) | (refine W_exit ?_) | (refine bNorm ?_) | (refine bRet ?_) | (refine bExit ?_) | (refine bExitN rfl ?_) | (refine xMask ?_) | (refine xT ?_) | (refine xF ?_) | (refine xRet ?_) | (refine xNorm ?_) | (refine xSplit ?_ ?_ <;> intro hb <;> (try exact False.elim hb)) | (refine xCond ?_ ?_ <;> intro hb <;> (try exact False.elim hb)))
  refine W_loop (fun m tm h' => ∃ k : Nat, k + m = 8 ∧ h' = h ∧ keep [0, 10] 0 tm = [.int .u32 (rnds k (xr c (IntKind.u32.wrap (b.toNat : Int)))), .und, .und, .und, .und, .und, .und, .und, .und, .und, .int .i64 (k : Int), .und, .und, .und, .und, .und, .und, .und, .und, .und, .und, .und]) 8 ⟨0, rfl, rfl, rfl⟩ ?_
  rintro m tm h' ⟨k, hk, rfl, htm⟩
  refine cSeq (cMask (cNorm ?_))
  rw [htm]; clear htm
  by_cases h8 : k < 8
  · have d1 : (k : Int) < 8 := by omega
    have w1 : IntKind.i64.wrap ((k : Int) + 1) = ((k + 1 : Nat) : Int) := by rw [wrap64 (by omega) (by omega)]; rfl
    have e1 := rnds_succ k (xr c (IntKind.u32.wrap (b.toNat : Int)))
    obtain ⟨z, hz⟩ : ∃ z, rnds k (xr c (IntKind.u32.wrap (b.toNat : Int))) = z := ⟨_, rfl⟩
    rw [hz] at e1 ⊢
    clear hz x0
    have x1 := an_eq z 1
    have x2 : z.fdiv (2 ^ (min (Int.toNat 1) 32)) = half z := rfl
    have x4 : ¬ (1 : Int) < 0 := by decide
    by_cases hc : an z 1 = 1
    · have x3 := xr_eq (half z) 3988292384
      have e2 : rnd z = xr (half z) 3988292384 := if_pos hc
      have hc' : (an z 1 == 1) = true := by simpa using hc
      repeat' (first | (refine wNil ?_) | (refine xPure ?_) | (refine xMk ?_; intro id hid; (try simp only [set_none_iff] at hid); refine mkDo ?_) | (refine xChk ?_) | (refine xChkF ?_) | (refine xSkip ?_) | (refine cSeq ?_) | (refine cNorm ?_) | (refine cRet ?_) | (refine cExit ?_) | (refine W_reg rfl ?_) | (refine W_block ?_) | (refine W_ret ?_) | (refine W_skip ?_) | (refine W_exit ?_) | (refine bNorm ?_) | (refine bRet ?_) | (refine bExit ?_) | (refine bExitN rfl ?_) | (refine xMask ?_) | (refine xT ?_) | (refine xF ?_) | (refine xRet ?_) | (refine xNorm ?_) | (refine xSplit ?_ ?_ <;> intro hb <;> (try exact False.elim hb)) | (refine xCond ?_ ?_ <;> intro hb <;> (try exact False.elim hb)))
      all_goals exact ⟨m - 1, by omega, k + 1, by omega, rfl, by rw [e1, e2]; simp only [keep, List.contains_cons, List.contains_nil, Nat.reduceBEq, Bool.or_true, Bool.true_or, Bool.or_false, Bool.false_or, if_true, if_false, Bool.false_eq_true, beq_self_eq_true, Nat.zero_add, Nat.reduceAdd, eq_self]⟩
    · have e2 : rnd z = half z := if_neg hc
      have hc' : (an z 1 == 1) = false := by simpa using hc
      repeat' (first | (refine wNil ?_) | (refine xPure ?_) | (refine xMk ?_; intro id hid; (try simp only [set_none_iff] at hid); refine mkDo ?_) | (refine xChk ?_) | (refine xChkF ?_) | (refine xSkip ?_) | (refine cSeq ?_) | (refine cNorm ?_) | (refine cRet ?_) | (refine cExit ?_) | (refine W_reg rfl ?_) | (refine W_block ?_) | (refine W_ret ?_) | (refine W_skip ?_) | (refine W_exit ?_) | (refine bNorm ?_) | (refine bRet ?_) | (refine bExit ?_) | (refine bExitN rfl ?_) | (refine xMask ?_) | (refine xT ?_) | (refine xF ?_) | (refine xRet ?_) | (refine xNorm ?_) | (refine xSplit ?_ ?_ <;> intro hb <;> (try exact False.elim hb)) | (refine xCond ?_ ?_ <;> intro hb <;> (try exact False.elim hb)))
      all_goals exact ⟨m - 1, by omega, k + 1, by omega, rfl, by rw [e1, e2]; simp only [keep, List.contains_cons, List.contains_nil, Nat.reduceBEq, Bool.or_true, Bool.true_or, Bool.or_false, Bool.false_or, if_true, if_false, Bool.false_eq_true, beq_self_eq_true, Nat.zero_add, Nat.reduceAdd, eq_self]⟩
  · have d1 : ¬ (k : Int) < 8 := by omega
    obtain rfl : k = 8 := by omega
    repeat' (first | (refine wNil ?_) | (refine xPure ?_) | (refine xMk ?_; intro id hid; (try simp only [set_none_iff] at hid); refine mkDo ?_) | (refine xChk ?_) | (refine xChkF ?_) | (refine xSkip ?_) | (refine cSeq ?_) | (refine cNorm ?_) | (refine cRet ?_) | (refine cExit ?_) | (refine W_reg rfl ?_) | (refine W_block ?_) | (refine W_ret ?_) | (refine W_skip ?_) | (refine W_exit ?_) | (refine bNorm ?_) | (refine bRet ?_) | (refine bExit ?_) | (refine bExitN rfl ?_) | (refine xMask ?_) | (refine xT ?_) | (refine xF ?_) | (refine xRet ?_) | (refine xNorm ?_) | (refine xSplit ?_ ?_ <;> intro hb <;> (try exact False.elim hb)) | (refine xCond ?_ ?_ <;> intro hb <;> (try exact False.elim hb)))
    all_goals exact ⟨rfl, rfl⟩
end Go.Proofs.YtgekngfnhhdamaaI
set_option linter.unusedVariables false
set_option linter.unusedSimpArgs false
set_option maxRecDepth 100000
set_option maxHeartbeats 4000000
namespace Go.Proofs.YtgekngfnhhdamaaI
open Go Go.Proofs.YtgekngfnhhdamaaM
attribute [local go_sem] aop ev fg_slc fg_slk fg_ptr fg_bool fg_int fg_str fg_iface fg_func fg_agg fg_tup fg_nils fg_nilp fg_nilI fg_nilF fg_und aboundsK alen_nils alen_slc alen_slk aslice_nils aslice_slc aslice_slk awanted abin aun aint aeqn aeqc aeqs apart abounds abnd amaxi amaxiGo cells_agg cells_slc cells_slk cells_ptr cells_bool cells_int cells_str cells_iface cells_func cells_tup cells_nils cells_nilp cells_nilI cells_nilF cells_und sc_slc sc_slk sc_ptr sc_bool sc_int sc_str sc_iface sc_func sc_nils sc_nilp sc_nilI sc_nilF gd_zero gd_succ List.all_cons List.all_nil Bool.and_self Bool.and_true Bool.true_and List.length_cons List.length_nil Option.map_some Option.some.injEq cell_same cell_ne cell_ne' cellsAt_same cellsAt_ne cellsAt_ne' put_same put_of set_same set_ne set_ne' List.getElem?_cons_zero List.getElem?_cons_succ if_true if_false and_self and_true true_and ne_eq not_true_eq_false not_false_eq_true decide_true decide_false Bool.false_eq_true Bool.true_eq_false beq_self_eq_true bne_self_eq_false beq_true beq_false Bool.not_true Bool.not_false List.map_cons List.map_nil putL List.set_cons_zero List.set_cons_succ afill Nat.zero_le Nat.le_refl Nat.zero_add Nat.add_zero List.drop_zero List.drop_succ_cons List.take_zero List.take_succ_cons Bool.not_eq_true Bool.not_eq_false decide_eq_true_eq decide_eq_false_iff_not Int.toNat_zero Nat.sub_zero Int.toNat_natCast Bool.bne_true Bool.bne_false AH.cell AH.cellsAt AH.put Nat.mul_one Nat.one_mul Int.natCast_nonneg List.length_set bs_append bs_size bs_toList bs_extract bs_get List.cons_append List.nil_append List.append_nil
/-- Sum of one text -/
theorem sp44 (q : List Nat) (ob : Bool) (l : List UInt8) (h : AH) (hq : h q = some ⟨ob, [.str (bs l)]⟩) (hl : l.length ≤ 1099511627776) : Sp T 44 [.slc q 0 1 1] h (fun v h' => v = .int .u32 (smF l) ∧ h' = h) := by
  refine Sp_of (fn := f44) rfl (show W T b44 [.slc q 0 1 1, .tup [], .tup [], .tup [], .tup [], .tup [], .tup [], .tup [], .tup [], .tup [], .tup [], .tup [], .tup [], .tup [], .tup [], .tup [], .tup [], .tup [], .tup [], .tup [], .tup [], .tup [], .tup [], .tup [], .tup [], .tup [], .tup []] _ _ from ?_)
  unfold b44
  repeat' (first | (refine wNil ?_) | (refine xPure ?_) | (refine xMk ?_; intro id hid; (try simp only [set_none_iff] at hid); refine mkDo ?_) | (refine xChk ?_) | (refine xChkF ?_) | (refine xSkip ?_) | (refine cSeq ?_) | (refine cNorm ?_) | (refine cRet ?_) | (refine cExit ?_) | (refine W_reg rfl ?_) | (refine W_block ?_) | (refine W_ret ?_) | (refine W_skip ?_) | (refine W_exit ?_) | (refine bNorm ?_) | (refine bRet ?_) | (refine bExit ?_) | (refine bExitN rfl ?_) | (refine xMask ?_) | (refine xT ?_) | (refine xF ?_) | (refine xRet ?_) | (refine xNorm ?_) | (refine xSplit ?_ ?_ <;> intro hb <;> (try exact False.elim hb)) | (refine xCond ?_ ?_ <;> intro hb <;> (try exact False.elim hb)))
  refine W_loop (fun m tm h' => h' = h ∧ ((m = 1 ∧ keep [3, 7, 8, 9] 0 tm = [.und, .und, .und, .int .u32 4294967295, .und, .und, .und, .slc q 0 1 1, .int .i64 1, .int .i64 0, .und, .und, .und, .und, .und, .und, .und, .und, .und, .und, .und, .und, .und, .und, .und, .und, .und]) ∨ (m = 0 ∧ keep [3, 7, 8, 9] 0 tm = [.und, .und, .und, .int .u32 (l.foldl mo 4294967295), .und, .und, .und, .slc q 0 1 1, .int .i64 1, .int .i64 1, .und, .und, .und, .und, .und, .und, .und, .und, .und, .und, .und, .und, .und, .und, .und, .und, .und]))) 1 ⟨rfl, .inl ⟨rfl, rfl⟩⟩ ?_
  rintro m tm h' ⟨rfl, hI⟩
  refine cSeq (cMask (cNorm ?_))
  have w0 : IntKind.i64.wrap (0 + 1) = 1 := by decide
  rcases hI with ⟨rfl, htm⟩ | ⟨rfl, htm⟩
  all_goals rw [htm]; clear htm
  · repeat' (first | (refine wNil ?_) | (refine xPure ?_) | (refine xMk ?_; intro id hid; (try simp only [set_none_iff] at hid); refine mkDo ?_) | (refine xChk ?_) | (refine xChkF ?_) | (refine xSkip ?_) | (refine cSeq ?_) | (refine cNorm ?_) | (refine cRet ?_) | (refine cExit ?_) | (refine W_reg rfl ?_) | (refine W_block ?_) | (refine W_ret ?_) | (refine W_skip ?_) | (refine W_exit ?_) | (refine bNorm ?_) | (refine bRet ?_) | (refine bExit ?_) | (refine bExitN rfl ?_) | (refine xMask ?_) | (refine xT ?_) | (refine xF ?_) | (refine xRet ?_) | (refine xNorm ?_) | (refine xSplit ?_ ?_ <;> intro hb <;> (try exact False.elim hb)) | (refine xCond ?_ ?_ <;> intro hb <;> (try exact False.elim hb)))
    refine W_loop (fun m tm h'' => ∃ k : Nat, k + m = l.length ∧ h'' = h' ∧ keep [3, 5, 7, 8, 9, 14, 15] 0 tm = [.und, .und, .und, .int .u32 ((l.take k).foldl mo 4294967295), .und, .str (bs l), .und, .slc q 0 1 1, .int .i64 1, .int .i64 0, .und, .und, .und, .und, .int .i64 (l.length : Int), .int .i64 (k : Int), .und, .und, .und, .und, .und, .und, .und, .und, .und, .und, .und]) l.length ⟨0, by omega, rfl, rfl⟩ ?_
    rintro m tm h'' ⟨k, hk, rfl, htm⟩
    refine cSeq (cMask (cNorm ?_))
    rw [htm]; clear htm
    by_cases hkl : k < l.length
    · have d1 : (k : Int) < (l.length : Int) := by omega
      have w1 : IntKind.i64.wrap ((k : Int) + 1) = ((k + 1 : Nat) : Int) := by rw [wrap64 (by omega) (by omega)]; rfl
      obtain ⟨b, hb⟩ : ∃ b, l[k]? = some b := ⟨_, List.getElem?_eq_getElem hkl⟩
      have e1 : (l.take (k + 1)).foldl mo 4294967295 = mo ((l.take k).foldl mo 4294967295) b := by
        rw [List.take_add_one, hb, List.foldl_append]; rfl
      obtain ⟨z, hz⟩ : ∃ z, (l.take k).foldl mo 4294967295 = z := ⟨_, rfl⟩
      rw [hz] at e1 ⊢
      clear hz
      repeat' (first | (refine wNil ?_) | (refine xPure ?_) | (refine xMk ?_; intro id hid; (try simp only [set_none_iff] at hid); refine mkDo ?_) | (refine xChk ?_) | (refine xChkF ?_) | (refine xSkip ?_) | (refine xCall rfl rfl (sp69 z b _) ?_; rintro v h3 ⟨rfl, hx⟩; cases hx; refine nTm ?_) | (refine cSeq ?_) | (refine cNorm ?_) | (refine cRet ?_) | (refine cExit ?_) | (refine W_reg rfl ?_) | (refine W_block ?_) | (refine W_ret ?_) | (refine W_skip ?_) | (refine W_exit ?_) | (refine bNorm ?_) | (refine bRet ?_) | (refine bExit ?_) | (refine bExitN rfl ?_) | (refine xMask ?_) | (refine xT ?_) | (refine xF ?_) | (refine xRet ?_) | (refine xNorm ?_) | (refine xSplit ?_ ?_ <;> intro hb <;> (try exact False.elim hb)) | (refine xCond ?_ ?_ <;> intro hb <;> (try exact False.elim hb)))
      all_goals exact ⟨m - 1, by omega, k + 1, by omega, rfl, by rw [e1]; simp only [keep, List.contains_cons, List.contains_nil, Nat.reduceBEq, Bool.or_true, Bool.true_or, Bool.or_false, Bool.false_or, if_true, if_false, Bool.false_eq_true, beq_self_eq_true, Nat.zero_add, Nat.reduceAdd, eq_self]⟩
    · have d1 : ¬ (k : Int) < (l.length : Int) := by omega
      rw [List.take_of_length_le (by omega)]
      repeat' (first | (refine wNil ?_) | (refine xPure ?_) | (refine xMk ?_; intro id hid; (try simp only [set_none_iff] at hid); refine mkDo ?_) | (refine xChk ?_) | (refine xChkF ?_) | (refine xSkip ?_) | (refine cSeq ?_) | (refine cNorm ?_) | (refine cRet ?_) | (refine cExit ?_) | (refine W_reg rfl ?_) | (refine W_block ?_) | (refine W_ret ?_) | (refine W_skip ?_) | (refine W_exit ?_) | (refine bNorm ?_) | (refine bRet ?_) | (refine bExit ?_) | (refine bExitN rfl ?_) | (refine xMask ?_) | (refine xT ?_) | (refine xF ?_) | (refine xRet ?_) | (refine xNorm ?_) | (refine xSplit ?_ ?_ <;> intro hb <;> (try exact False.elim hb)) | (refine xCond ?_ ?_ <;> intro hb <;> (try exact False.elim hb)))
      all_goals exact ⟨0, by omega, rfl, .inr ⟨rfl, by simp only [keep, List.contains_cons, List.contains_nil, Nat.reduceBEq, Bool.or_true, Bool.true_or, Bool.or_false, Bool.false_or, if_true, if_false, Bool.false_eq_true, beq_self_eq_true, Nat.zero_add, Nat.reduceAdd, eq_self]⟩⟩
  · have x1 := xr_eq 4294967295 (l.foldl mo 4294967295)
    repeat' (first | (refine wNil ?_) | (refine wPure rfl (by (first | (simp only [go_sem, IntKind.signed, IntKind.max, *]; (first | done | exact rfl)) | rfl)) rfl (by (first | (simp only [go_sem, IntKind.signed, IntKind.max, *]; (first | done | exact rfl)) | rfl)) ?_; dsimp only [putT, ev, Int.toNat_zero, Nat.sub_zero, Int.toNat_natCast,  gd_zero, gd_succ, Nat.zero_add, Nat.add_zero, Nat.reduceAdd, Nat.reduceMul, List.set_cons_zero, List.set_cons_succ, keep, List.contains_cons, List.contains_nil]) | (refine wMk rfl (by (first | (simp only [go_sem, IntKind.signed, IntKind.max, *]; (first | done | exact rfl)) | rfl)) rfl ?_; intro id hid; (try simp only [set_none_iff] at hid); refine ⟨_, (by (first | (simp only [go_sem, IntKind.signed, IntKind.max, *]; (first | done | exact rfl)) | rfl)), ?_⟩; dsimp only [putT, ev, Int.toNat_zero, Nat.sub_zero, Int.toNat_natCast,  gd_zero, gd_succ, Nat.zero_add, Nat.add_zero, Nat.reduceAdd, Nat.reduceMul, List.set_cons_zero, List.set_cons_succ, keep, List.contains_cons, List.contains_nil]) | (refine wChk rfl (by (first | (simp only [go_sem, IntKind.signed, IntKind.max, *]; (first | done | exact rfl)) | rfl)) rfl (by (first | (simp only [go_sem, IntKind.signed, IntKind.max, *]; (first | done | exact rfl)) | rfl)) rfl ?_) | (refine wChkF rfl (by (first | (simp only [go_sem, IntKind.signed, IntKind.max, *]; (first | done | exact rfl)) | rfl)) rfl ?_) | (refine wSkip rfl (by (first | (simp only [go_sem, IntKind.signed, IntKind.max, *]; (first | done | exact rfl)) | rfl)) ?_; dsimp only [putT, ev, Int.toNat_zero, Nat.sub_zero, Int.toNat_natCast,  gd_zero, gd_succ, Nat.zero_add, Nat.add_zero, Nat.reduceAdd, Nat.reduceMul, List.set_cons_zero, List.set_cons_succ, keep, List.contains_cons, List.contains_nil]) | (refine cSeq ?_) | (refine cNorm ?_) | (refine cRet ?_) | (refine cExit ?_) | (refine W_reg rfl ?_) | (refine W_block ?_) | (refine W_ret ?_) | (refine W_skip ?_) | (refine W_exit ?_) | (refine bNorm ?_) | (refine bRet ?_) | (refine bExit ?_) | (refine bExitN rfl ?_) | (refine cMask' (by simp only [keep, List.contains_cons, List.contains_nil, Nat.reduceBEq, Bool.or_true, Bool.true_or, Bool.or_false, Bool.false_or, if_true, if_false, Bool.false_eq_true, beq_self_eq_true, Nat.zero_add, Nat.reduceAdd, eq_self]; exact rfl) ?_) | (refine cT (by (first | (simp only [go_sem, IntKind.signed, IntKind.max, *]; (first | done | exact rfl)) | rfl)) ?_) | (refine cF (by (first | (simp only [go_sem, IntKind.signed, IntKind.max, *]; (first | done | exact rfl)) | rfl)) ?_) | (refine rRet (by (first | (simp only [go_sem, IntKind.signed, IntKind.max, *]; (first | done | exact rfl)) | rfl)) ?_) | (refine rNorm (by (first | (simp only [go_sem, IntKind.signed, IntKind.max, *]; (first | done | exact rfl)) | rfl)) ?_) | (refine wSplit _ rfl (by (first | (simp only [go_sem, IntKind.signed, IntKind.max, *]; (first | done | exact rfl)) | rfl)) ?_ ?_ <;> intro hb <;> (try simp only [beq_false, beq_true, Bool.not_true, Bool.not_false, Bool.not_eq_true', Bool.not_eq_false', decide_eq_false_iff_not, decide_eq_true_eq, bne_iff_ne, beq_iff_eq, Bool.true_eq, Bool.false_eq, Bool.not_not, Bool.and_eq_true, Bool.or_eq_true, Bool.bne_true, Bool.bne_false, bne_eq_false_iff_eq, beq_eq_false_iff_ne, ne_eq] at hb)) | (refine W_cond _ (by (first | (simp only [go_sem, IntKind.signed, IntKind.max, *]; (first | done | exact rfl)) | rfl)) ?_ ?_ <;> intro hb <;> (try simp only [beq_false, beq_true, Bool.not_true, Bool.not_false, Bool.not_eq_true', Bool.not_eq_false', decide_eq_false_iff_not, decide_eq_true_eq, bne_iff_ne, beq_iff_eq, Bool.true_eq, Bool.false_eq, Bool.not_not, Bool.and_eq_true, Bool.or_eq_true, Bool.bne_true, Bool.bne_false, bne_eq_false_iff_eq, beq_eq_false_iff_ne, ne_eq] at hb)))
    all_goals exact ⟨by show AV.int .u32 (IntKind.u32.wrap ((BitVec.ofInt 32 (2 ^ 32 - 1) ^^^ BitVec.ofInt 32 (l.foldl mo 4294967295)).toNat : Int)) = _; rw [show ((2 : Int) ^ 32 - 1) = 4294967295 by decide]; rfl, rfl⟩
end Go.Proofs.YtgekngfnhhdamaaI
set_option linter.unusedVariables false
set_option linter.unusedSimpArgs false
set_option maxRecDepth 100000
set_option maxHeartbeats 4000000
namespace Go.Proofs.YtgekngfnhhdamaaI
open Go Go.Proofs.YtgekngfnhhdamaaM
attribute [local go_sem] aop ev fg_slc fg_slk fg_ptr fg_bool fg_int fg_str fg_iface fg_func fg_agg fg_tup fg_nils fg_nilp fg_nilI fg_nilF fg_und aboundsK alen_nils alen_slc alen_slk aslice_nils aslice_slc aslice_slk awanted abin aun aint aeqn aeqc aeqs apart abounds abnd amaxi amaxiGo cells_agg cells_slc cells_slk cells_ptr cells_bool cells_int cells_str cells_iface cells_func cells_tup cells_nils cells_nilp cells_nilI cells_nilF cells_und sc_slc sc_slk sc_ptr sc_bool sc_int sc_str sc_iface sc_func sc_nils sc_nilp sc_nilI sc_nilF gd_zero gd_succ List.all_cons List.all_nil Bool.and_self Bool.and_true Bool.true_and List.length_cons List.length_nil Option.map_some Option.some.injEq cell_same cell_ne cell_ne' cellsAt_same cellsAt_ne cellsAt_ne' put_same put_of set_same set_ne set_ne' List.getElem?_cons_zero List.getElem?_cons_succ if_true if_false and_self and_true true_and ne_eq not_true_eq_false not_false_eq_true decide_true decide_false Bool.false_eq_true Bool.true_eq_false beq_self_eq_true bne_self_eq_false beq_true beq_false Bool.not_true Bool.not_false List.map_cons List.map_nil putL List.set_cons_zero List.set_cons_succ afill Nat.zero_le Nat.le_refl Nat.zero_add Nat.add_zero List.drop_zero List.drop_succ_cons List.take_zero List.take_succ_cons Bool.not_eq_true Bool.not_eq_false decide_eq_true_eq decide_eq_false_iff_not Int.toNat_zero Nat.sub_zero Int.toNat_natCast Bool.bne_true Bool.bne_false AH.cell AH.cellsAt AH.put Nat.mul_one Nat.one_mul Int.natCast_nonneg List.length_set bs_append bs_size bs_toList bs_extract bs_get List.cons_append List.nil_append List.append_nil
theorem fdiv_pow' (v s i : Nat) (hs : s = 8 * i) (hi : i ≤ 3) : ((v : Int)).fdiv (2 ^ min s 32) = ((v / 256 ^ i : Nat) : Int) := by
  have e : min s 32 = 8 * i := by omega
  rw [e, Int.fdiv_eq_ediv_of_nonneg _ (by exact Int.pow_nonneg (by decide)), Int.pow_mul]
  norm_cast
theorem u8w (w : Nat) : IntKind.u8.wrap (w : Int) = ((UInt8.ofNat w).toNat : Int) := by
  rw [wrapU8]; simp
theorem zer8 : ∀ n, azeros [.int .u8 0] n = List.replicate n (AV.int .u8 0)
  | 0 => rfl
  | n + 1 => by simp [azeros, zer8 n, List.replicate_succ]
theorem set_rep (v j k : Nat) : (List.replicate (j + 1) (AV.int .u8 0) ++ bc (be v k)).set j (.int .u8 ((UInt8.ofNat (v / 256 ^ k)).toNat : Int)) = List.replicate j (AV.int .u8 0) ++ bc (be v (k + 1)) := by
  rw [List.replicate_succ', List.append_assoc, List.set_append_right _ _ (by simp)]
  simp [be, bc]
/-- digits -/
theorem sp67 (v n : Nat) (h : AH) (hn : n ≤ 4) : Sp T 67 [.int .u32 v, .int .i64 n] h (fun r h' => r = .str (bs (be v n)) ∧ Up h h') := by
  have d1 : (0 : Int) ≤ (n : Int) := by omega
  have d2 : (n : Int) ≤ IntKind.i64.max := by have : IntKind.i64.max = 9223372036854775807 := by decide
                                              omega
  have d3 : n ≤ 2 * roomMost := by unfold roomMost; omega
  refine Sp_of (fn := f67) rfl (show W T b67 [.int .u32 v, .int .i64 n, .tup [], .tup [], .tup [], .tup [], .tup [], .tup [], .tup [], .tup [], .tup [], .tup [], .tup [], .tup [], .tup [], .tup [], .tup [], .tup [], .tup [], .tup [], .tup [], .tup [], .tup [], .tup [], .tup [], .tup [], .tup [], .tup []] _ _ from ?_)
  unfold b67
  repeat' (first | (refine wNil ?_) | (refine wPure rfl (by (first | (simp only [go_sem, Int.le_refl, *]; (first | done | exact rfl)) | rfl)) rfl (by (first | (simp only [go_sem, Int.le_refl, *]; (first | done | exact rfl)) | rfl)) ?_; dsimp only [putT, ev, Int.toNat_zero, Nat.sub_zero, Int.toNat_natCast,  gd_zero, gd_succ, Nat.zero_add, Nat.add_zero, Nat.reduceAdd, Nat.reduceMul, List.set_cons_zero, List.set_cons_succ, keep, List.contains_cons, List.contains_nil]) | (refine wMk rfl (by (first | (simp only [go_sem, Int.le_refl, *]; (first | done | exact rfl)) | rfl)) rfl ?_; intro id hid; (try simp only [set_none_iff] at hid); refine ⟨_, (by (first | (simp only [go_sem, Int.le_refl, *]; (first | done | exact rfl)) | rfl)), ?_⟩; dsimp only [putT, ev, Int.toNat_zero, Nat.sub_zero, Int.toNat_natCast,  gd_zero, gd_succ, Nat.zero_add, Nat.add_zero, Nat.reduceAdd, Nat.reduceMul, List.set_cons_zero, List.set_cons_succ, keep, List.contains_cons, List.contains_nil]) | (refine wChk rfl (by (first | (simp only [go_sem, Int.le_refl, *]; (first | done | exact rfl)) | rfl)) rfl (by (first | (simp only [go_sem, Int.le_refl, *]; (first | done | exact rfl)) | rfl)) rfl ?_) | (refine wChkF rfl (by (first | (simp only [go_sem, Int.le_refl, *]; (first | done | exact rfl)) | rfl)) rfl ?_) | (refine wSkip rfl (by (first | (simp only [go_sem, Int.le_refl, *]; (first | done | exact rfl)) | rfl)) ?_; dsimp only [putT, ev, Int.toNat_zero, Nat.sub_zero, Int.toNat_natCast,  gd_zero, gd_succ, Nat.zero_add, Nat.add_zero, Nat.reduceAdd, Nat.reduceMul, List.set_cons_zero, List.set_cons_succ, keep, List.contains_cons, List.contains_nil]) | (refine cSeq ?_) | (refine cNorm ?_) | (refine cRet ?_) | (refine cExit ?_) | (refine W_reg rfl ?_) | (refine W_block ?_) | (refine W_ret ?_) | (refine W_skip ?_) | (refine W_exit ?_) | (refine bNorm ?_) | (refine bRet ?_) | (refine bExit ?_) | (refine bExitN rfl ?_) | (refine cMask' (by simp only [keep, List.contains_cons, List.contains_nil, Nat.reduceBEq, Bool.or_true, Bool.true_or, Bool.or_false, Bool.false_or, if_true, if_false, Bool.false_eq_true, beq_self_eq_true, Nat.zero_add, Nat.reduceAdd, eq_self]; exact rfl) ?_) | (refine cT (by (first | (simp only [go_sem, Int.le_refl, *]; (first | done | exact rfl)) | rfl)) ?_) | (refine cF (by (first | (simp only [go_sem, Int.le_refl, *]; (first | done | exact rfl)) | rfl)) ?_) | (refine rRet (by (first | (simp only [go_sem, Int.le_refl, *]; (first | done | exact rfl)) | rfl)) ?_) | (refine rNorm (by (first | (simp only [go_sem, Int.le_refl, *]; (first | done | exact rfl)) | rfl)) ?_) | (refine wSplit _ rfl (by (first | (simp only [go_sem, Int.le_refl, *]; (first | done | exact rfl)) | rfl)) ?_ ?_ <;> intro hb <;> (try simp only [beq_false, beq_true, Bool.not_true, Bool.not_false, Bool.not_eq_true', Bool.not_eq_false', decide_eq_false_iff_not, decide_eq_true_eq, bne_iff_ne, beq_iff_eq, Bool.true_eq, Bool.false_eq, Bool.not_not, Bool.and_eq_true, Bool.or_eq_true, Bool.bne_true, Bool.bne_false, bne_eq_false_iff_eq, beq_eq_false_iff_ne, ne_eq] at hb)) | (refine W_cond _ (by (first | (simp only [go_sem, Int.le_refl, *]; (first | done | exact rfl)) | rfl)) ?_ ?_ <;> intro hb <;> (try simp only [beq_false, beq_true, Bool.not_true, Bool.not_false, Bool.not_eq_true', Bool.not_eq_false', decide_eq_false_iff_not, decide_eq_true_eq, bne_iff_ne, beq_iff_eq, Bool.true_eq, Bool.false_eq, Bool.not_not, Bool.and_eq_true, Bool.or_eq_true, Bool.bne_true, Bool.bne_false, bne_eq_false_iff_eq, beq_eq_false_iff_ne, ne_eq] at hb)))
  obtain ⟨i0, rfl⟩ : ∃ x, x = id := ⟨_, rfl⟩
  refine W_loop (fun m tm h' => ∃ k : Nat, k + m = n ∧ h' = h.set i0 (some ⟨true, List.replicate (n - k) (.int .u8 0) ++ bc (be v k)⟩) ∧ keep [0, 1, 5, 10, 11] 0 tm = [.int .u32 (v : Int), .int .i64 (n : Int), .und, .und, .und, .slc i0 0 n 1, .und, .und, .und, .und, .int .i64 (n : Int), .int .i64 (k : Int), .und, .und, .und, .und, .und, .und, .und, .und, .und, .und, .und, .und, .und, .und, .und, .und]) n ⟨0, by omega, by rw [zer8]; simp [be, bc], rfl⟩ ?_
  rintro m tm h' ⟨k, hk, rfl, htm⟩
  refine cSeq (cMask (cNorm ?_))
  rw [htm]; clear htm
  by_cases hkn : k < n
  · have c1 : (k : Int) < (n : Int) := by omega
    have w1 : IntKind.i64.wrap ((k : Int) + 1) = ((k + 1 : Nat) : Int) := by rw [wrap64 (by omega) (by omega)]; rfl
    obtain ⟨j, hj⟩ : ∃ j, n - k = j + 1 := ⟨n - k - 1, by omega⟩
    have w2 : IntKind.i64.wrap (((n : Nat) : Int) - 1) = (n : Int) - 1 := wrap64 (by omega) (by omega)
    have w3 : IntKind.i64.wrap ((n : Int) - 1 - (k : Int)) = (j : Int) := by rw [wrap64 (by omega) (by omega)]; omega
    obtain ⟨s, hs⟩ : ∃ s : Nat, s = 8 * k := ⟨_, rfl⟩
    have w4 : IntKind.i64.wrap (8 * (k : Int)) = (s : Int) := by rw [wrap64 (by omega) (by omega)]; omega
    have w5 : ¬ (s : Int) < 0 := by omega
    have w6 := fdiv_pow' v s k hs (by omega)
    have w7 := u8w (v / 256 ^ k)
    have w8 : (0 : Int) ≤ (j : Int) := by omega
    have w9 : (j : Int) < (n : Int) := by omega
    have w10 : j + 1 ≤ (List.replicate (j + 1) (AV.int .u8 0) ++ bc (be v k)).length := by simp
    have w11 := set_rep v j k
    rw [hj]
    have hj' : n - (k + 1) = j := by omega
    obtain ⟨cs, hcs⟩ : ∃ cs, List.replicate (j + 1) (AV.int .u8 0) ++ bc (be v k) = cs := ⟨_, rfl⟩
    rw [hcs] at w10 w11 ⊢
    clear hs hj hcs
    repeat' (first | (refine wNil ?_) | (refine xPure ?_) | (refine xMk ?_; intro id hid; (try simp only [set_none_iff] at hid); refine mkDo ?_) | (refine xChk ?_) | (refine xChkF ?_) | (refine xSkip ?_) | (refine cSeq ?_) | (refine cNorm ?_) | (refine cRet ?_) | (refine cExit ?_) | (refine W_reg rfl ?_) | (refine W_block ?_) | (refine W_ret ?_) | (refine W_skip ?_) | (refine W_exit ?_) | (refine bNorm ?_) | (refine bRet ?_) | (refine bExit ?_) | (refine bExitN rfl ?_) | (refine xMask ?_) | (refine xT ?_) | (refine xF ?_) | (refine xRet ?_) | (refine xNorm ?_) | (refine xSplit ?_ ?_ <;> intro hb <;> (try exact False.elim hb)) | (refine xCond ?_ ?_ <;> intro hb <;> (try exact False.elim hb)))
    all_goals exact ⟨m - 1, by omega, k + 1, by omega, by rw [set_set, hj']; try (first | rw [w11] | rfl), by simp only [keep, List.contains_cons, List.contains_nil, Nat.reduceBEq, Bool.or_true, Bool.true_or, Bool.or_false, Bool.false_or, if_true, if_false, Bool.false_eq_true, beq_self_eq_true, Nat.zero_add, Nat.reduceAdd, eq_self]⟩
  · have c1 : ¬ (k : Int) < (n : Int) := by omega
    obtain rfl : k = n := by omega
    have e1 : k - k = 0 := by omega
    rw [e1, List.replicate_zero, List.nil_append]
    have e2 : (bc (be v k)).take k = bc (be v k) := List.take_of_length_le (by rw [bc_length, be_length]; omega)
    have e3 := abytes_bc (be v k)
    have e4 : (bc (be v k)).length = k := by rw [bc_length, be_length]
    repeat' (first | (refine wNil ?_) | (refine wPure rfl (by (first | (simp only [go_sem, Int.le_refl, *]; (first | done | exact rfl)) | rfl)) rfl (by (first | (simp only [go_sem, Int.le_refl, *]; (first | done | exact rfl)) | rfl)) ?_; dsimp only [putT, ev, Int.toNat_zero, Nat.sub_zero, Int.toNat_natCast,  gd_zero, gd_succ, Nat.zero_add, Nat.add_zero, Nat.reduceAdd, Nat.reduceMul, List.set_cons_zero, List.set_cons_succ, keep, List.contains_cons, List.contains_nil]) | (refine wMk rfl (by (first | (simp only [go_sem, Int.le_refl, *]; (first | done | exact rfl)) | rfl)) rfl ?_; intro id hid; (try simp only [set_none_iff] at hid); refine ⟨_, (by (first | (simp only [go_sem, Int.le_refl, *]; (first | done | exact rfl)) | rfl)), ?_⟩; dsimp only [putT, ev, Int.toNat_zero, Nat.sub_zero, Int.toNat_natCast,  gd_zero, gd_succ, Nat.zero_add, Nat.add_zero, Nat.reduceAdd, Nat.reduceMul, List.set_cons_zero, List.set_cons_succ, keep, List.contains_cons, List.contains_nil]) | (refine wChk rfl (by (first | (simp only [go_sem, Int.le_refl, *]; (first | done | exact rfl)) | rfl)) rfl (by (first | (simp only [go_sem, Int.le_refl, *]; (first | done | exact rfl)) | rfl)) rfl ?_) | (refine wChkF rfl (by (first | (simp only [go_sem, Int.le_refl, *]; (first | done | exact rfl)) | rfl)) rfl ?_) | (refine wSkip rfl (by (first | (simp only [go_sem, Int.le_refl, *]; (first | done | exact rfl)) | rfl)) ?_; dsimp only [putT, ev, Int.toNat_zero, Nat.sub_zero, Int.toNat_natCast,  gd_zero, gd_succ, Nat.zero_add, Nat.add_zero, Nat.reduceAdd, Nat.reduceMul, List.set_cons_zero, List.set_cons_succ, keep, List.contains_cons, List.contains_nil]) | (refine cSeq ?_) | (refine cNorm ?_) | (refine cRet ?_) | (refine cExit ?_) | (refine W_reg rfl ?_) | (refine W_block ?_) | (refine W_ret ?_) | (refine W_skip ?_) | (refine W_exit ?_) | (refine bNorm ?_) | (refine bRet ?_) | (refine bExit ?_) | (refine bExitN rfl ?_) | (refine cMask' (by simp only [keep, List.contains_cons, List.contains_nil, Nat.reduceBEq, Bool.or_true, Bool.true_or, Bool.or_false, Bool.false_or, if_true, if_false, Bool.false_eq_true, beq_self_eq_true, Nat.zero_add, Nat.reduceAdd, eq_self]; exact rfl) ?_) | (refine cT (by (first | (simp only [go_sem, Int.le_refl, *]; (first | done | exact rfl)) | rfl)) ?_) | (refine cF (by (first | (simp only [go_sem, Int.le_refl, *]; (first | done | exact rfl)) | rfl)) ?_) | (refine rRet (by (first | (simp only [go_sem, Int.le_refl, *]; (first | done | exact rfl)) | rfl)) ?_) | (refine rNorm (by (first | (simp only [go_sem, Int.le_refl, *]; (first | done | exact rfl)) | rfl)) ?_) | (refine wSplit _ rfl (by (first | (simp only [go_sem, Int.le_refl, *]; (first | done | exact rfl)) | rfl)) ?_ ?_ <;> intro hb <;> (try simp only [beq_false, beq_true, Bool.not_true, Bool.not_false, Bool.not_eq_true', Bool.not_eq_false', decide_eq_false_iff_not, decide_eq_true_eq, bne_iff_ne, beq_iff_eq, Bool.true_eq, Bool.false_eq, Bool.not_not, Bool.and_eq_true, Bool.or_eq_true, Bool.bne_true, Bool.bne_false, bne_eq_false_iff_eq, beq_eq_false_iff_ne, ne_eq] at hb)) | (refine W_cond _ (by (first | (simp only [go_sem, Int.le_refl, *]; (first | done | exact rfl)) | rfl)) ?_ ?_ <;> intro hb <;> (try simp only [beq_false, beq_true, Bool.not_true, Bool.not_false, Bool.not_eq_true', Bool.not_eq_false', decide_eq_false_iff_not, decide_eq_true_eq, bne_iff_ne, beq_iff_eq, Bool.true_eq, Bool.false_eq, Bool.not_not, Bool.and_eq_true, Bool.or_eq_true, Bool.bne_true, Bool.bne_false, bne_eq_false_iff_eq, beq_eq_false_iff_ne, ne_eq] at hb)))
    all_goals exact ⟨rfl, Up.new (Up.refl h) (by assumption)⟩
end Go.Proofs.YtgekngfnhhdamaaI
set_option linter.unusedVariables false
set_option linter.unusedSimpArgs false
set_option maxRecDepth 100000
set_option maxHeartbeats 4000000
namespace Go.Proofs.YtgekngfnhhdamaaI
open Go Go.Proofs.YtgekngfnhhdamaaM
attribute [local go_sem] aop ev fg_slc fg_slk fg_ptr fg_bool fg_int fg_str fg_iface fg_func fg_agg fg_tup fg_nils fg_nilp fg_nilI fg_nilF fg_und aboundsK alen_nils alen_slc alen_slk aslice_nils aslice_slc aslice_slk awanted abin aun aint aeqn aeqc aeqs apart abounds abnd amaxi amaxiGo cells_agg cells_slc cells_slk cells_ptr cells_bool cells_int cells_str cells_iface cells_func cells_tup cells_nils cells_nilp cells_nilI cells_nilF cells_und sc_slc sc_slk sc_ptr sc_bool sc_int sc_str sc_iface sc_func sc_nils sc_nilp sc_nilI sc_nilF gd_zero gd_succ List.all_cons List.all_nil Bool.and_self Bool.and_true Bool.true_and List.length_cons List.length_nil Option.map_some Option.some.injEq cell_same cell_ne cell_ne' cellsAt_same cellsAt_ne cellsAt_ne' put_same put_of set_same set_ne set_ne' List.getElem?_cons_zero List.getElem?_cons_succ if_true if_false and_self and_true true_and ne_eq not_true_eq_false not_false_eq_true decide_true decide_false Bool.false_eq_true Bool.true_eq_false beq_self_eq_true bne_self_eq_false beq_true beq_false Bool.not_true Bool.not_false List.map_cons List.map_nil putL List.set_cons_zero List.set_cons_succ afill Nat.zero_le Nat.le_refl Nat.zero_add Nat.add_zero List.drop_zero List.drop_succ_cons List.take_zero List.take_succ_cons Bool.not_eq_true Bool.not_eq_false decide_eq_true_eq decide_eq_false_iff_not Int.toNat_zero Nat.sub_zero Int.toNat_natCast Bool.bne_true Bool.bne_false AH.cell AH.cellsAt AH.put Nat.mul_one Nat.one_mul Int.natCast_nonneg List.length_set bs_append bs_size bs_toList bs_extract bs_get List.cons_append List.nil_append List.append_nil be_length Nat.sub_zero
theorem or_u32 (v b : Nat) (hv : v < 16777216) (hb : b < 256) : absBits .or .u32 ((v * 256 : Nat) : Int) (b : Int) = some ((v * 256 + b : Nat) : Int) := by
  show some (IntKind.u32.wrap ((BitVec.ofInt 32 ((v * 256 : Nat) : Int) ||| BitVec.ofInt 32 (b : Int)).toNat : Int)) = _
  have e1 : (BitVec.ofInt 32 ((v * 256 : Nat) : Int)).toNat = v * 256 := by rw [BitVec.ofInt_natCast, BitVec.toNat_ofNat]; omega
  have e2 : (BitVec.ofInt 32 (b : Int)).toNat = b := by rw [BitVec.ofInt_natCast, BitVec.toNat_ofNat]; omega
  rw [BitVec.toNat_or, e1, e2]
  have e3 : v * 256 ||| b = v * 256 + b := by
    have := Nat.shiftLeft_add_eq_or_of_lt (i := 8) (b := b) (by omega) v
    rw [Nat.shiftLeft_eq] at this; exact this.symm
  rw [e3, wrapU32 (by omega) (by omega)]
/-- number -/
theorem sp81 (l : List UInt8) (h : AH) (hl : l.length ≤ 4) : Sp T 81 [.str (bs l)] h (fun v h' => v = .int .u32 (val l : Int) ∧ h' = h) := by
  refine Sp_of (fn := f81) rfl (show W T b81 [.str (bs l), .tup [], .tup [], .tup [], .tup [], .tup [], .tup [], .tup [], .tup [], .tup [], .tup [], .tup [], .tup [], .tup [], .tup [], .tup [], .tup [], .tup [], .tup []] _ _ from ?_)
  unfold b81
  repeat' (first | (refine wNil ?_) | (refine xPure ?_) | (refine xMk ?_; intro id hid; (try simp only [set_none_iff] at hid); refine mkDo ?_) | (refine xChk ?_) | (refine xChkF ?_) | (refine xSkip ?_) | (refine cSeq ?_) | (refine cNorm ?_) | (refine cRet ?_) | (refine cExit ?_) | (refine W_reg rfl ?_) | (refine W_block ?_) | (refine W_ret ?_) | (refine W_skip ?_) | (refine W_exit ?_) | (refine bNorm ?_) | (refine bRet ?_) | (refine bExit ?_) | (refine bExitN rfl ?_) | (refine xMask ?_) | (refine xT ?_) | (refine xF ?_) | (refine xRet ?_) | (refine xNorm ?_) | (refine xSplit ?_ ?_ <;> intro hb <;> (try exact False.elim hb)) | (refine xCond ?_ ?_ <;> intro hb <;> (try exact False.elim hb)))
  refine W_loop (fun m tm h' => ∃ k : Nat, k + m = l.length ∧ h' = h ∧ keep [0, 3, 6, 7] 0 tm = [.str (bs l), .und, .und, .int .u32 (val (l.take k) : Int), .und, .und, .int .i64 (l.length : Int), .int .i64 (k : Int), .und, .und, .und, .und, .und, .und, .und, .und, .und, .und, .und]) l.length ⟨0, by omega, rfl, rfl⟩ ?_
  rintro m tm h' ⟨k, hk, rfl, htm⟩
  refine cSeq (cMask (cNorm ?_))
  rw [htm]; clear htm
  by_cases hkl : k < l.length
  · have d1 : (k : Int) < (l.length : Int) := by omega
    have w1 : IntKind.i64.wrap ((k : Int) + 1) = ((k + 1 : Nat) : Int) := by rw [wrap64 (by omega) (by omega)]; rfl
    obtain ⟨b, hb⟩ : ∃ b, l[k]? = some b := ⟨_, List.getElem?_eq_getElem hkl⟩
    have v1 := val_lt k (l.take k) (by rw [List.length_take]; omega)
    have v2 : 256 ^ k ≤ 256 ^ 3 := Nat.pow_le_pow_right (by decide) (by omega)
    have v3 := val_take hb
    have v4 := b.toNat_lt
    obtain ⟨v, hv⟩ : ∃ v, val (l.take k) = v := ⟨_, rfl⟩
    rw [hv] at v1 v3 ⊢
    have v5 : v < 16777216 := by have : (256 : Nat) ^ 3 = 16777216 := by decide
                                 omega
    have c0 : (v : Int) * 2 ^ (min (Int.toNat 8) 32) = ((v * 256 : Nat) : Int) := by
      have : min (Int.toNat 8) 32 = 8 := by decide
      rw [this]; omega
    have c1 : IntKind.u32.wrap ((v * 256 : Nat) : Int) = ((v * 256 : Nat) : Int) := wrapU32 (by omega) (by omega)
    have c3 : IntKind.u32.wrap (b.toNat : Int) = (b.toNat : Int) := wrapU32 (by omega) (by omega)
    have c2 := or_u32 v b.toNat v5 v4
    have c4 : ¬ (8 : Int) < 0 := by decide
    clear v1 v2 hv
    repeat' (first | (refine wNil ?_) | (refine xPure ?_) | (refine xMk ?_; intro id hid; (try simp only [set_none_iff] at hid); refine mkDo ?_) | (refine xChk ?_) | (refine xChkF ?_) | (refine xSkip ?_) | (refine cSeq ?_) | (refine cNorm ?_) | (refine cRet ?_) | (refine cExit ?_) | (refine W_reg rfl ?_) | (refine W_block ?_) | (refine W_ret ?_) | (refine W_skip ?_) | (refine W_exit ?_) | (refine bNorm ?_) | (refine bRet ?_) | (refine bExit ?_) | (refine bExitN rfl ?_) | (refine xMask ?_) | (refine xT ?_) | (refine xF ?_) | (refine xRet ?_) | (refine xNorm ?_) | (refine xSplit ?_ ?_ <;> intro hb <;> (try exact False.elim hb)) | (refine xCond ?_ ?_ <;> intro hb <;> (try exact False.elim hb)))
    all_goals exact ⟨m - 1, by omega, k + 1, by omega, rfl, by rw [v3]; simp only [keep, List.contains_cons, List.contains_nil, Nat.reduceBEq, Bool.or_true, Bool.true_or, Bool.or_false, Bool.false_or, if_true, if_false, Bool.false_eq_true, beq_self_eq_true, Nat.zero_add, Nat.reduceAdd, eq_self]⟩
  · have d1 : ¬ (k : Int) < (l.length : Int) := by omega
    rw [List.take_of_length_le (by omega)]
    repeat' (first | (refine wNil ?_) | (refine xPure ?_) | (refine xMk ?_; intro id hid; (try simp only [set_none_iff] at hid); refine mkDo ?_) | (refine xChk ?_) | (refine xChkF ?_) | (refine xSkip ?_) | (refine cSeq ?_) | (refine cNorm ?_) | (refine cRet ?_) | (refine cExit ?_) | (refine W_reg rfl ?_) | (refine W_block ?_) | (refine W_ret ?_) | (refine W_skip ?_) | (refine W_exit ?_) | (refine bNorm ?_) | (refine bRet ?_) | (refine bExit ?_) | (refine bExitN rfl ?_) | (refine xMask ?_) | (refine xT ?_) | (refine xF ?_) | (refine xRet ?_) | (refine xNorm ?_) | (refine xSplit ?_ ?_ <;> intro hb <;> (try exact False.elim hb)) | (refine xCond ?_ ?_ <;> intro hb <;> (try exact False.elim hb)))
    all_goals exact ⟨rfl, rfl⟩
/-- A frame, but for its sum; a frame. -/
def fb (k : Nat) (l : List UInt8) : List UInt8 := UInt8.ofNat k :: (be l.length 3 ++ l)
def fr (k : Nat) (l : List UInt8) : List UInt8 := fb k l ++ be (smF (fb k l)).toNat 4
theorem fb_len (k : Nat) (l : List UInt8) : (fb k l).length = l.length + 4 := by simp [fb, be_length]; omega
theorem fr_len (k : Nat) (l : List UInt8) : (fr k l).length = l.length + 8 := by simp [fr, fb_len, be_length]
theorem sm_nat (l : List UInt8) : ((smF l).toNat : Int) = smF l := by have := xr_rng 4294967295 (l.foldl mo 4294967295); unfold smF; omega
/-- Frame -/
theorem sp39 (k : Nat) (l : List UInt8) (h : AH) (hk : 1 ≤ k ∧ k ≤ 255) (hl : l.length ≤ 1048576) : Sp T 39 [.int .u8 k, .str (bs l)] h (fun r h' => r = .str (bs (fr k l)) ∧ Up h h') := by
  have hu0 := Up.refl h
  have a1 : ¬ (1048576 : Int) < (l.length : Int) := by omega
  have a2 : (0 : Int) ≤ (l.length : Int) := by omega
  have a3 : l.take l.length = l := List.take_of_length_le (Nat.le_refl _)
  have a4 : ¬ (1 : Int) > (k : Int) := by omega
  have a5 : (UInt8.ofNat k).toNat = k := by simp; omega
  have a6 : abytes [.int .u8 (k : Int)] = some [UInt8.ofNat k] := by
    show (abytes []).map (UInt8.ofNat ((k : Int)).toNat :: ·) = _
    simp [abytes]
  have a7 : IntKind.u32.wrap (l.length : Int) = (l.length : Int) := wrapU32 (by omega) (by omega)
  have a8 : ¬ IntKind.i64.max < (((1 : Nat) + 3 : Nat) : Int) := by decide
  have a9 : ¬ IntKind.i64.max < (((fb k l).length + 4 : Nat) : Int) := by
    have e : IntKind.i64.max = 9223372036854775807 := by decide
    rw [e, fb_len]; omega
  have a10 : ¬ IntKind.i64.max < ((3 + 1 + l.length : Nat) : Int) := by
    have e : IntKind.i64.max = 9223372036854775807 := by decide
    rw [e]; omega
  have e1 : [UInt8.ofNat k] ++ be l.length 3 ++ l = fb k l := by simp [fb]
  have e2 := sm_nat (fb k l)
  have e4 : UInt8.ofNat k :: (be l.length 3 ++ l) = fb k l := rfl
  have a11 : ¬ IntKind.i64.max < ((l.length + 4 + 4 : Nat) : Int) := by rw [← fb_len k l]; exact a9
  have a12 : fb k l ++ be (smF (fb k l)).toNat 4 = fr k l := rfl
  have e3 := fb_len k l
  refine Sp_of (fn := f39) rfl (show W T b39 [.int .u8 k, .str (bs l), .tup [], .tup [], .tup [], .tup [], .tup [], .tup [], .tup [], .tup [], .tup [], .tup [], .tup [], .tup [], .tup [], .tup [], .tup [], .tup [], .tup [], .tup [], .tup [], .tup [], .tup [], .tup [], .tup [], .tup [], .tup [], .tup []] _ _ from ?_)
  unfold b39
  repeat' (first | (refine wNil ?_) | (refine wPure rfl (by (first | (simp only [go_sem, Int.le_refl, gt_iff_lt, *]; (first | done | exact rfl)) | rfl)) rfl (by (first | (simp only [go_sem, Int.le_refl, gt_iff_lt, *]; (first | done | exact rfl)) | rfl)) ?_; dsimp only [putT, ev, Int.toNat_zero, Nat.sub_zero, Int.toNat_natCast,  gd_zero, gd_succ, Nat.zero_add, Nat.add_zero, Nat.reduceAdd, Nat.reduceMul, List.set_cons_zero, List.set_cons_succ, keep, List.contains_cons, List.contains_nil]) | (refine wMk rfl (by (first | (simp only [go_sem, Int.le_refl, gt_iff_lt, *]; (first | done | exact rfl)) | rfl)) rfl ?_; intro id hid; (try simp only [set_none_iff] at hid); have hz := hid; (repeat (replace hz := hz.2)); (try have := Up.none hu0 hz); refine ⟨_, (by (first | (simp only [go_sem, Int.le_refl, gt_iff_lt, *]; (first | done | exact rfl)) | rfl)), ?_⟩; dsimp only [putT, ev, Int.toNat_zero, Nat.sub_zero, Int.toNat_natCast,  gd_zero, gd_succ, Nat.zero_add, Nat.add_zero, Nat.reduceAdd, Nat.reduceMul, List.set_cons_zero, List.set_cons_succ, keep, List.contains_cons, List.contains_nil]) | (refine wChk rfl (by (first | (simp only [go_sem, Int.le_refl, gt_iff_lt, *]; (first | done | exact rfl)) | rfl)) rfl (by (first | (simp only [go_sem, Int.le_refl, gt_iff_lt, *]; (first | done | exact rfl)) | rfl)) rfl ?_) | (refine wChkF rfl (by (first | (simp only [go_sem, Int.le_refl, gt_iff_lt, *]; (first | done | exact rfl)) | rfl)) rfl ?_) | (refine wSkip rfl (by (first | (simp only [go_sem, Int.le_refl, gt_iff_lt, *]; (first | done | exact rfl)) | rfl)) ?_; dsimp only [putT, ev, Int.toNat_zero, Nat.sub_zero, Int.toNat_natCast,  gd_zero, gd_succ, Nat.zero_add, Nat.add_zero, Nat.reduceAdd, Nat.reduceMul, List.set_cons_zero, List.set_cons_succ, keep, List.contains_cons, List.contains_nil]) | (refine xCall rfl rfl (sp67 l.length 3 _ (by decide)) ?_; rintro v h2 ⟨rfl, hu2⟩; refine nTm ?_) | (refine xCall rfl rfl (sp44 id true (fb k l) _ set_same (by omega)) ?_; rintro v h3 ⟨rfl, hx⟩; cases hx; rw [← e2]; refine nTm ?_) | (refine xCall rfl rfl (sp67 (smF (fb k l)).toNat 4 _ (by decide)) ?_; rintro v h4 ⟨rfl, hu4⟩; refine nTm ?_) | (refine cSeq ?_) | (refine cNorm ?_) | (refine cRet ?_) | (refine cExit ?_) | (refine W_reg rfl ?_) | (refine W_block ?_) | (refine W_ret ?_) | (refine W_skip ?_) | (refine W_exit ?_) | (refine bNorm ?_) | (refine bRet ?_) | (refine bExit ?_) | (refine bExitN rfl ?_) | (refine cMask' (by simp only [keep, List.contains_cons, List.contains_nil, Nat.reduceBEq, Bool.or_true, Bool.true_or, Bool.or_false, Bool.false_or, if_true, if_false, Bool.false_eq_true, beq_self_eq_true, Nat.zero_add, Nat.reduceAdd, eq_self]; exact rfl) ?_) | (refine cT (by (first | (simp only [go_sem, Int.le_refl, gt_iff_lt, *]; (first | done | exact rfl)) | rfl)) ?_) | (refine cF (by (first | (simp only [go_sem, Int.le_refl, gt_iff_lt, *]; (first | done | exact rfl)) | rfl)) ?_) | (refine rRet (by (first | (simp only [go_sem, Int.le_refl, gt_iff_lt, *]; (first | done | exact rfl)) | rfl)) ?_) | (refine rNorm (by (first | (simp only [go_sem, Int.le_refl, gt_iff_lt, *]; (first | done | exact rfl)) | rfl)) ?_) | (refine wSplit _ rfl (by (first | (simp only [go_sem, Int.le_refl, gt_iff_lt, *]; (first | done | exact rfl)) | rfl)) ?_ ?_ <;> intro hb <;> (try simp only [beq_false, beq_true, Bool.not_true, Bool.not_false, Bool.not_eq_true', Bool.not_eq_false', decide_eq_false_iff_not, decide_eq_true_eq, bne_iff_ne, beq_iff_eq, Bool.true_eq, Bool.false_eq, Bool.not_not, Bool.and_eq_true, Bool.or_eq_true, Bool.bne_true, Bool.bne_false, bne_eq_false_iff_eq, beq_eq_false_iff_ne, ne_eq] at hb)) | (refine W_cond _ (by (first | (simp only [go_sem, Int.le_refl, gt_iff_lt, *]; (first | done | exact rfl)) | rfl)) ?_ ?_ <;> intro hb <;> (try simp only [beq_false, beq_true, Bool.not_true, Bool.not_false, Bool.not_eq_true', Bool.not_eq_false', decide_eq_false_iff_not, decide_eq_true_eq, bne_iff_ne, beq_iff_eq, Bool.true_eq, Bool.false_eq, Bool.not_not, Bool.and_eq_true, Bool.or_eq_true, Bool.bne_true, Bool.bne_false, bne_eq_false_iff_eq, beq_eq_false_iff_ne, ne_eq] at hb)))
  rename_i ia ha za
  exact ⟨rfl, fun x b e => hu4 x b (by have e2 := hu2 x b e; rw [set_ne (nei e2 hz), set_ne (nei e2 za)]; exact e2)⟩
end Go.Proofs.YtgekngfnhhdamaaI
set_option linter.unusedVariables false
set_option linter.unusedSimpArgs false
set_option maxRecDepth 100000
set_option maxHeartbeats 4000000
namespace Go.Proofs.YtgekngfnhhdamaaI
open Go Go.Proofs.YtgekngfnhhdamaaM
attribute [local go_sem] aop ev fg_slc fg_slk fg_ptr fg_bool fg_int fg_str fg_iface fg_func fg_agg fg_tup fg_nils fg_nilp fg_nilI fg_nilF fg_und aboundsK alen_nils alen_slc alen_slk aslice_nils aslice_slc aslice_slk awanted abin aun aint aeqn aeqc aeqs apart abounds abnd amaxi amaxiGo cells_agg cells_slc cells_slk cells_ptr cells_bool cells_int cells_str cells_iface cells_func cells_tup cells_nils cells_nilp cells_nilI cells_nilF cells_und sc_slc sc_slk sc_ptr sc_bool sc_int sc_str sc_iface sc_func sc_nils sc_nilp sc_nilI sc_nilF gd_zero gd_succ List.all_cons List.all_nil Bool.and_self Bool.and_true Bool.true_and List.length_cons List.length_nil Option.map_some Option.some.injEq cell_same cell_ne cell_ne' cellsAt_same cellsAt_ne cellsAt_ne' put_same put_of set_same set_ne set_ne' List.getElem?_cons_zero List.getElem?_cons_succ if_true if_false and_self and_true true_and ne_eq not_true_eq_false not_false_eq_true decide_true decide_false Bool.false_eq_true Bool.true_eq_false beq_self_eq_true bne_self_eq_false beq_true beq_false Bool.not_true Bool.not_false List.map_cons List.map_nil putL List.set_cons_zero List.set_cons_succ afill Nat.zero_le Nat.le_refl Nat.zero_add Nat.add_zero List.drop_zero List.drop_succ_cons List.take_zero List.take_succ_cons Bool.not_eq_true Bool.not_eq_false decide_eq_true_eq decide_eq_false_iff_not Int.toNat_zero Nat.sub_zero Int.toNat_natCast Bool.bne_true Bool.bne_false AH.cell AH.cellsAt AH.put Nat.mul_one Nat.one_mul Int.natCast_nonneg List.length_set bs_append bs_size bs_toList bs_extract bs_get List.cons_append List.nil_append List.append_nil be_length Nat.sub_zero bne_self_eq_false beq_self_eq_true
end Go.Proofs.YtgekngfnhhdamaaI
set_option linter.unusedVariables false
set_option linter.unusedSimpArgs false
set_option maxRecDepth 100000
set_option maxHeartbeats 4000000
namespace Go.Proofs.YtgekngfnhhdamaaI
open Go Go.Proofs.YtgekngfnhhdamaaM
attribute [local go_sem] aop ev fg_slc fg_slk fg_ptr fg_bool fg_int fg_str fg_iface fg_func fg_agg fg_tup fg_nils fg_nilp fg_nilI fg_nilF fg_und aboundsK alen_nils alen_slc alen_slk aslice_nils aslice_slc aslice_slk awanted abin aun aint aeqn aeqc aeqs apart abounds abnd amaxi amaxiGo cells_agg cells_slc cells_slk cells_ptr cells_bool cells_int cells_str cells_iface cells_func cells_tup cells_nils cells_nilp cells_nilI cells_nilF cells_und sc_slc sc_slk sc_ptr sc_bool sc_int sc_str sc_iface sc_func sc_nils sc_nilp sc_nilI sc_nilF gd_zero gd_succ List.all_cons List.all_nil Bool.and_self Bool.and_true Bool.true_and List.length_cons List.length_nil Option.map_some Option.some.injEq cell_same cell_ne cell_ne' cellsAt_same cellsAt_ne cellsAt_ne' put_same put_of set_same set_ne set_ne' List.getElem?_cons_zero List.getElem?_cons_succ if_true if_false and_self and_true true_and ne_eq not_true_eq_false not_false_eq_true decide_true decide_false Bool.false_eq_true Bool.true_eq_false beq_self_eq_true bne_self_eq_false beq_true beq_false Bool.not_true Bool.not_false List.map_cons List.map_nil putL List.set_cons_zero List.set_cons_succ afill Nat.zero_le Nat.le_refl Nat.zero_add Nat.add_zero List.drop_zero List.drop_succ_cons List.take_zero List.take_succ_cons Bool.not_eq_true Bool.not_eq_false decide_eq_true_eq decide_eq_false_iff_not Int.toNat_zero Nat.sub_zero Int.toNat_natCast Bool.bne_true Bool.bne_false AH.cell AH.cellsAt AH.put Nat.mul_one Nat.one_mul Int.natCast_nonneg List.length_set bs_append bs_size bs_toList bs_extract bs_get List.cons_append List.nil_append List.append_nil be_length Nat.sub_zero bne_self_eq_false beq_self_eq_true azeros Int.le_refl
/-- A byte's rounds, by the document. -/
def rr : Nat → Nat → Nat → Nat
  | 0, c, _ => c
  | j + 1, c, b => rr j (if c % 2 = b % 2 then c / 2 else (c / 2) ^^^ 3988292384) (b / 2)
/-- A byte's rounds, by the program. -/
def pp : Nat → Nat → Nat
  | 0, c => c
  | j + 1, c => pp j (if c % 2 = 1 then (c / 2) ^^^ 3988292384 else c / 2)
theorem pp_rr : ∀ (j c b : Nat), b < 2 ^ j → pp j (c ^^^ b) = rr j c b
  | 0, c, b, h => by simp at h; subst h; simp [pp, rr]
  | j + 1, c, b, h => by
    have hb : b / 2 < 2 ^ j := by rw [Nat.pow_succ] at h; omega
    unfold pp rr
    rw [← pp_rr j _ _ hb]
    have hx : (c ^^^ b) % 2 = 1 ↔ ¬ (c % 2 = b % 2) := by
      rw [Nat.xor_mod_two_eq_one]; omega
    have hd : (c ^^^ b) / 2 = (c / 2) ^^^ (b / 2) := Nat.xor_div_two
    rw [hd]
    by_cases e : c % 2 = b % 2
    · rw [if_neg (fun x => hx.1 x e), if_pos e]
    · rw [if_pos (hx.2 e), if_neg e]
      congr 1
      rw [Nat.xor_assoc, Nat.xor_assoc, Nat.xor_comm (b / 2)]
theorem rr_lt : ∀ (j c b : Nat), c < 4294967296 → rr j c b < 4294967296
  | 0, _, _, h => h
  | j + 1, c, b, h => by
    unfold rr
    refine rr_lt j _ _ ?_
    split
    · omega
    · exact Nat.xor_lt_two_pow (n := 32) (by omega) (by decide)
/-- The sum's number behind some bytes. -/
def cr (c : Nat) (l : List UInt8) : Nat := l.foldl (fun c b => rr 8 c b.toNat) c
theorem cr_lt : ∀ (l : List UInt8) (c : Nat), c < 4294967296 → cr c l < 4294967296
  | [], _, h => h
  | b :: l, c, h => cr_lt l _ (rr_lt 8 c b.toNat h)
theorem xr_nat (a b : Nat) (ha : a < 4294967296) (hb : b < 4294967296) : xr (a : Int) (b : Int) = ((a ^^^ b : Nat) : Int) := by
  unfold xr
  show IntKind.u32.wrap ((BitVec.ofInt 32 (a : Int) ^^^ BitVec.ofInt 32 (b : Int)).toNat : Int) = _
  have e1 : (BitVec.ofInt 32 (a : Int)).toNat = a := by rw [BitVec.ofInt_natCast, BitVec.toNat_ofNat]; omega
  have e2 : (BitVec.ofInt 32 (b : Int)).toNat = b := by rw [BitVec.ofInt_natCast, BitVec.toNat_ofNat]; omega
  have e3 : a ^^^ b < 4294967296 := Nat.xor_lt_two_pow (n := 32) ha hb
  rw [BitVec.toNat_xor, e1, e2, wrapU32 (by omega) (by omega)]
theorem an_one (a : Nat) (ha : a < 4294967296) : an (a : Int) 1 = ((a % 2 : Nat) : Int) := by
  unfold an
  show IntKind.u32.wrap ((BitVec.ofInt 32 (a : Int) &&& BitVec.ofInt 32 1).toNat : Int) = _
  have e1 : (BitVec.ofInt 32 (a : Int)).toNat = a := by rw [BitVec.ofInt_natCast, BitVec.toNat_ofNat]; omega
  have e2 : (BitVec.ofInt 32 1).toNat = 1 := by decide
  rw [BitVec.toNat_and, e1, e2, Nat.and_one_is_mod, wrapU32 (by omega) (by omega)]
theorem half_nat (a : Nat) : half (a : Int) = ((a / 2 : Nat) : Int) := by
  unfold half
  have : min (Int.toNat 1) 32 = 1 := by decide
  rw [this, Int.fdiv_eq_ediv_of_nonneg _ (by decide)]; omega
theorem rnd_nat (a : Nat) (ha : a < 4294967296) : rnd (a : Int) = (((if a % 2 = 1 then (a / 2) ^^^ 3988292384 else a / 2) : Nat) : Int) := by
  unfold rnd
  rw [an_one a ha, half_nat]
  by_cases e : a % 2 = 1
  · rw [if_pos (by omega), if_pos e]; exact xr_nat (a / 2) 3988292384 (by omega) (by decide)
  · rw [if_neg (by omega), if_neg e]
theorem rnds_nat : ∀ (k a : Nat), a < 4294967296 → rnds k (a : Int) = ((pp k a : Nat) : Int)
  | 0, a, _ => rfl
  | k + 1, a, ha => by
    rw [rnds, rnd_nat a ha, pp]
    refine rnds_nat k _ ?_
    split
    · exact Nat.xor_lt_two_pow (n := 32) (by omega) (by decide)
    · omega
theorem mo_nat (c : Nat) (b : UInt8) (hc : c < 4294967296) : mo (c : Int) b = ((rr 8 c b.toNat : Nat) : Int) := by
  have hb := b.toNat_lt
  unfold mo
  rw [wrapU32 (by omega) (by omega), xr_nat c _ hc (by omega), rnds_nat 8 _ (Nat.xor_lt_two_pow (n := 32) hc (by omega)), pp_rr 8 c _ (by omega)]
theorem fold_nat : ∀ (l : List UInt8) (c : Nat), c < 4294967296 → l.foldl mo (c : Int) = ((cr c l : Nat) : Int)
  | [], c, _ => rfl
  | b :: l, c, hc => by
    rw [List.foldl_cons, mo_nat c b hc]
    exact fold_nat l _ (rr_lt 8 c b.toNat hc)
theorem not32 (c : Nat) (h : c < 4294967296) : xr 4294967295 (c : Int) = ((4294967295 - c : Nat) : Int) := by
  have e0 := xr_nat 4294967295 c (by decide) h
  rw [show ((4294967295 : Nat) : Int) = 4294967295 from rfl] at e0
  rw [e0]
  congr 1
  have e : (BitVec.allOnes 32 ^^^ BitVec.ofNat 32 c) = ~~~ (BitVec.ofNat 32 c) := BitVec.allOnes_xor
  have e2 := congrArg BitVec.toNat e
  rw [BitVec.toNat_xor, BitVec.toNat_not, BitVec.toNat_allOnes, BitVec.toNat_ofNat, Nat.mod_eq_of_lt (by omega)] at e2
  exact e2
theorem smF_cr (l : List UInt8) : smF l = ((4294967295 - cr 4294967295 l : Nat) : Int) := by
  unfold smF
  have := fold_nat l 4294967295 (by decide)
  rw [show ((4294967295 : Nat) : Int) = 4294967295 from rfl] at this
  rw [this, not32 _ (cr_lt l _ (by decide))]
/-- Digits -/
theorem sp86 (v n : Nat) (h : AH) (hv : v < 4294967296) (hn : n ≤ 8) : Sp T 86 [.int .u32 v, .int .i64 n] h (fun r h' => r = .str (bs (be v n)) ∧ Up h h') := by
  refine Sp_of (fn := f86) rfl (show W T b86 [.int .u32 v, .int .i64 n, .tup [], .tup [], .tup [], .tup [], .tup [], .tup [], .tup [], .tup [], .tup [], .tup [], .tup [], .tup [], .tup [], .tup [], .tup [], .tup [], .tup [], .tup [], .tup [], .tup []] _ _ from ?_)
  unfold b86
  repeat' (first | (refine wNil ?_) | (refine xPure ?_) | (refine xMk ?_; intro id hid; (try simp only [set_none_iff] at hid); refine mkDo ?_) | (refine xChk ?_) | (refine xChkF ?_) | (refine xSkip ?_) | (refine cSeq ?_) | (refine cNorm ?_) | (refine cRet ?_) | (refine cExit ?_) | (refine W_reg rfl ?_) | (refine W_block ?_) | (refine W_ret ?_) | (refine W_skip ?_) | (refine W_exit ?_) | (refine bNorm ?_) | (refine bRet ?_) | (refine bExit ?_) | (refine bExitN rfl ?_) | (refine xMask ?_) | (refine xT ?_) | (refine xF ?_) | (refine xRet ?_) | (refine xNorm ?_) | (refine xSplit ?_ ?_ <;> intro hb <;> (try exact False.elim hb)) | (refine xCond ?_ ?_ <;> intro hb <;> (try exact False.elim hb)))
  refine W_loop (fun m tm h' => ∃ k, k + m = n ∧ Up h h' ∧ keep [0, 1, 5, 6] 0 tm = [.int .u32 ((v / 256 ^ k : Nat) : Int), .int .i64 (n : Int), .und, .und, .und, .str (bs (be v k)), .int .i64 (k : Int), .und, .und, .und, .und, .und, .und, .und, .und, .und, .und, .und, .und, .und, .und, .und]) n ⟨0, by omega, Up.refl _, by rw [Nat.pow_zero, Nat.div_one]; rfl⟩ ?_
  rintro m tm h' ⟨k, hk, hU, htm⟩
  refine cSeq (cMask (cNorm ?_))
  rw [htm]; clear htm
  by_cases hm : k < n
  · have d1 : (k : Int) < (n : Int) := by omega
    have hw : v / 256 ^ k < 4294967296 := Nat.lt_of_le_of_lt (Nat.div_le_self _ _) hv
    have e : v / 256 ^ (k + 1) = v / 256 ^ k / 256 := by rw [Nat.pow_succ, Nat.div_div_eq_div_mul]
    have eb : be v (k + 1) = UInt8.ofNat (v / 256 ^ k) :: be v k := rfl
    obtain ⟨w, hw'⟩ : ∃ w, v / 256 ^ k = w := ⟨_, rfl⟩
    rw [hw'] at hw e eb ⊢
    have d2 : (w : Int).tmod 256 = ((w % 256 : Nat) : Int) := by rw [Int.tmod_eq_emod_of_nonneg (by omega)]; omega
    have d3 : IntKind.u8.wrap ((w % 256 : Nat) : Int) = ((UInt8.ofNat w).toNat : Int) := by rw [u8w]; congr 2; apply UInt8.toNat_inj.1; simp
    have d4 : IntKind.u32.wrap ((w : Int).tdiv 256) = ((w / 256 : Nat) : Int) := by rw [Int.tdiv_eq_ediv_of_nonneg (by omega), wrapU32 (by omega) (by omega)]; omega
    have d5 : IntKind.i64.wrap ((k : Int) + 1) = ((k + 1 : Nat) : Int) := by rw [wrap64 (by omega) (by omega)]; rfl
    have d6 : ¬ IntKind.i64.max < ((1 + k : Nat) : Int) := big_no (by omega)
    have d7 : abytes [.int .u8 ((UInt8.ofNat w).toNat : Int)] = some [UInt8.ofNat w] := abytes_bc [UInt8.ofNat w]
    clear hw'
    repeat' (first | (refine wNil ?_) | (refine xPure ?_) | (refine xMk ?_; intro id hid; (try simp only [set_none_iff] at hid); refine mkDo ?_) | (refine xChk ?_) | (refine xChkF ?_) | (refine xSkip ?_) | (refine cSeq ?_) | (refine cNorm ?_) | (refine cRet ?_) | (refine cExit ?_) | (refine W_reg rfl ?_) | (refine W_block ?_) | (refine W_ret ?_) | (refine W_skip ?_) | (refine W_exit ?_) | (refine bNorm ?_) | (refine bRet ?_) | (refine bExit ?_) | (refine bExitN rfl ?_) | (refine xMask ?_) | (refine xT ?_) | (refine xF ?_) | (refine xRet ?_) | (refine xNorm ?_) | (refine xSplit ?_ ?_ <;> intro hb <;> (try exact False.elim hb)) | (refine xCond ?_ ?_ <;> intro hb <;> (try exact False.elim hb)))
    all_goals exact ⟨m - 1, by omega, k + 1, by omega, hU.new (hU.none hid), by simp only [keep, List.contains_cons, List.contains_nil, Nat.reduceBEq, Bool.or_true, Bool.true_or, Bool.or_false, Bool.false_or, if_true, if_false, Bool.false_eq_true, beq_self_eq_true, Nat.zero_add, Nat.reduceAdd, eq_self, e, eb]⟩
  · have d1 : ¬ (k : Int) < (n : Int) := by omega
    repeat' (first | (refine wNil ?_) | (refine xPure ?_) | (refine xMk ?_; intro id hid; (try simp only [set_none_iff] at hid); refine mkDo ?_) | (refine xChk ?_) | (refine xChkF ?_) | (refine xSkip ?_) | (refine cSeq ?_) | (refine cNorm ?_) | (refine cRet ?_) | (refine cExit ?_) | (refine W_reg rfl ?_) | (refine W_block ?_) | (refine W_ret ?_) | (refine W_skip ?_) | (refine W_exit ?_) | (refine bNorm ?_) | (refine bRet ?_) | (refine bExit ?_) | (refine bExitN rfl ?_) | (refine xMask ?_) | (refine xT ?_) | (refine xF ?_) | (refine xRet ?_) | (refine xNorm ?_) | (refine xSplit ?_ ?_ <;> intro hb <;> (try exact False.elim hb)) | (refine xCond ?_ ?_ <;> intro hb <;> (try exact False.elim hb)))
    all_goals (obtain rfl : k = n := by omega)
    all_goals exact ⟨rfl, hU⟩
/-- Sum -/
theorem sp87 (l : List UInt8) (h : AH) (hl : l.length ≤ 1099511627776) : Sp T 87 [.str (bs l)] h (fun v h' => v = .int .u32 (smF l) ∧ h' = h) := by
  refine Sp_of (fn := f87) rfl (show W T b87 [.str (bs l), .tup [], .tup [], .tup [], .tup [], .tup [], .tup [], .tup [], .tup [], .tup [], .tup [], .tup [], .tup [], .tup [], .tup [], .tup [], .tup [], .tup [], .tup [], .tup [], .tup [], .tup [], .tup [], .tup [], .tup [], .tup [], .tup [], .tup [], .tup [], .tup [], .tup [], .tup [], .tup [], .tup [], .tup [], .tup []] _ _ from ?_)
  unfold b87
  repeat' (first | (refine wNil ?_) | (refine xPure ?_) | (refine xMk ?_; intro id hid; (try simp only [set_none_iff] at hid); refine mkDo ?_) | (refine xChk ?_) | (refine xChkF ?_) | (refine xSkip ?_) | (refine cSeq ?_) | (refine cNorm ?_) | (refine cRet ?_) | (refine cExit ?_) | (refine W_reg rfl ?_) | (refine W_block ?_) | (refine W_ret ?_) | (refine W_skip ?_) | (refine W_exit ?_) | (refine bNorm ?_) | (refine bRet ?_) | (refine bExit ?_) | (refine bExitN rfl ?_) | (refine xMask ?_) | (refine xT ?_) | (refine xF ?_) | (refine xRet ?_) | (refine xNorm ?_) | (refine xSplit ?_ ?_ <;> intro hb <;> (try exact False.elim hb)) | (refine xCond ?_ ?_ <;> intro hb <;> (try exact False.elim hb)))
  refine W_loop (fun m tm h' => ∃ k : Nat, k + m = l.length ∧ h' = h ∧ keep [0, 3, 4] 0 tm = [.str (bs l), .und, .und, .int .u32 ((cr 4294967295 (l.take k) : Nat) : Int), .int .i64 (k : Int), .und, .und, .und, .und, .und, .und, .und, .und, .und, .und, .und, .und, .und, .und, .und, .und, .und, .und, .und, .und, .und, .und, .und, .und, .und, .und, .und, .und, .und, .und, .und]) l.length ⟨0, by omega, rfl, rfl⟩ ?_
  rintro m tm h' ⟨k, hk, rfl, htm⟩
  refine cSeq (cMask (cNorm ?_))
  rw [htm]; clear htm
  by_cases hkl : k < l.length
  · have d1 : (k : Int) < (l.length : Int) := by omega
    have d0 : (0 : Int) ≤ (k : Int) := by omega
    have w1 : IntKind.i64.wrap ((k : Int) + 1) = ((k + 1 : Nat) : Int) := by rw [wrap64 (by omega) (by omega)]; rfl
    obtain ⟨b, hb⟩ : ∃ b, l[k]? = some b := ⟨_, List.getElem?_eq_getElem hkl⟩
    have e1 : cr 4294967295 (l.take (k + 1)) = rr 8 (cr 4294967295 (l.take k)) b.toNat := by
      unfold cr
      rw [List.take_add_one, hb, List.foldl_append]; rfl
    have hc := cr_lt (l.take k) 4294967295 (by decide)
    obtain ⟨c0, hc0⟩ : ∃ c0, cr 4294967295 (l.take k) = c0 := ⟨_, rfl⟩
    rw [hc0] at e1 hc ⊢
    have hb8 := b.toNat_lt
    clear hc0
    repeat' (first | (refine wNil ?_) | (refine xPure ?_) | (refine xMk ?_; intro id hid; (try simp only [set_none_iff] at hid); refine mkDo ?_) | (refine xChk ?_) | (refine xChkF ?_) | (refine xSkip ?_) | (refine cSeq ?_) | (refine cNorm ?_) | (refine cRet ?_) | (refine cExit ?_) | (refine W_reg rfl ?_) | (refine W_block ?_) | (refine W_ret ?_) | (refine W_skip ?_) | (refine W_exit ?_) | (refine bNorm ?_) | (refine bRet ?_) | (refine bExit ?_) | (refine bExitN rfl ?_) | (refine xMask ?_) | (refine xT ?_) | (refine xF ?_) | (refine xRet ?_) | (refine xNorm ?_) | (refine xSplit ?_ ?_ <;> intro hb <;> (try exact False.elim hb)) | (refine xCond ?_ ?_ <;> intro hb <;> (try exact False.elim hb)))
    refine W_loop (fun m' tm h'' => ∃ (j c b' : Nat), j + m' = 8 ∧ h'' = h' ∧ c < 4294967296 ∧ b' < 256 ∧ rr 8 c0 b.toNat = rr m' c b' ∧ keep [0, 3, 4, 5, 6] 0 tm = [.str (bs l), .und, .und, .int .u32 (c : Int), .int .i64 (k : Int), .int .u8 (b' : Int), .int .i64 (j : Int), .und, .und, .und, .und, .und, .und, .und, .und, .und, .und, .und, .und, .und, .und, .und, .und, .und, .und, .und, .und, .und, .und, .und, .und, .und, .und, .und, .und, .und]) 8 ⟨0, c0, b.toNat, rfl, rfl, hc, hb8, rfl, rfl⟩ ?_
    clear hb hb8 hc
    rintro m' tm h'' ⟨j, c, b', hj, rfl, hc, hb', hr, htm⟩
    refine cSeq (cMask (cNorm ?_))
    rw [htm]; clear htm
    by_cases hj8 : j < 8
    · have d2 : (j : Int) < 8 := by omega
      have w2 : IntKind.i64.wrap ((j : Int) + 1) = ((j + 1 : Nat) : Int) := by rw [wrap64 (by omega) (by omega)]; rfl
      obtain ⟨m'', rfl⟩ : ∃ z, m' = z + 1 := ⟨m' - 1, by omega⟩
      rw [show rr (m'' + 1) c b' = rr m'' (if c % 2 = b' % 2 then c / 2 else (c / 2) ^^^ 3988292384) (b' / 2) from rfl] at hr
      have f1 : (c : Int).tmod 2 = ((c % 2 : Nat) : Int) := by rw [Int.tmod_eq_emod_of_nonneg (by omega)]; omega
      have f2 : (b' : Int).tmod 2 = ((b' % 2 : Nat) : Int) := by rw [Int.tmod_eq_emod_of_nonneg (by omega)]; omega
      have f3 : IntKind.u32.wrap ((b' % 2 : Nat) : Int) = ((b' % 2 : Nat) : Int) := wrapU32 (by omega) (by omega)
      have f4 : IntKind.u32.wrap ((c : Int).tdiv 2) = ((c / 2 : Nat) : Int) := by rw [Int.tdiv_eq_ediv_of_nonneg (by omega), wrapU32 (by omega) (by omega)]; omega
      have f5 : IntKind.u8.wrap ((b' : Int).tdiv 2) = ((b' / 2 : Nat) : Int) := by rw [Int.tdiv_eq_ediv_of_nonneg (by omega), wrapU8]; omega
      have f6 := xr_eq ((c / 2 : Nat) : Int) 3988292384
      rw [show (3988292384 : Int) = ((3988292384 : Nat) : Int) from rfl, xr_nat (c / 2) 3988292384 (by omega) (by decide), show ((3988292384 : Nat) : Int) = (3988292384 : Int) from rfl] at f6
      have f7 : c / 2 ^^^ 3988292384 < 4294967296 := Nat.xor_lt_two_pow (n := 32) (by omega) (by decide)
      have n2 : ¬ (2 : Int) = 0 := by decide
      have hcx : c / 2 < 4294967296 := by omega
      have hbx : b' / 2 < 256 := by omega
      have hmj : Hid (j + 1 + m'' = 8) := (show j + 1 + m'' = 8 by omega)
      obtain ⟨c2, hc2⟩ : ∃ z, c / 2 = z := ⟨_, rfl⟩
      obtain ⟨b2, hb2⟩ : ∃ z, b' / 2 = z := ⟨_, rfl⟩
      obtain ⟨x2, hx2⟩ : ∃ z, c2 ^^^ 3988292384 = z := ⟨_, rfl⟩
      rw [hc2] at hr f4 f6 f7 hcx
      rw [hb2] at hr f5 hbx
      rw [hx2] at hr f6 f7
      by_cases he : c % 2 = b' % 2
      · have g1 : ((((c % 2 : Nat) : Int)) != ((b' % 2 : Nat) : Int)) = false := by rw [he]; simp
        rw [if_pos he] at hr
        obtain ⟨p, hp⟩ : ∃ z, c % 2 = z := ⟨_, rfl⟩
        obtain ⟨q, hq⟩ : ∃ z, b' % 2 = z := ⟨_, rfl⟩
        rw [hp] at g1 f1
        rw [hq] at g1 f2 f3
        clear he hp hq hc2 hb2 hx2 f6 hj hj8 e1
        repeat' (first | (refine wNil ?_) | (refine xPure ?_) | (refine xMk ?_; intro id hid; (try simp only [set_none_iff] at hid); refine mkDo ?_) | (refine xChk ?_) | (refine xChkF ?_) | (refine xSkip ?_) | (refine cSeq ?_) | (refine cNorm ?_) | (refine cRet ?_) | (refine cExit ?_) | (refine W_reg rfl ?_) | (refine W_block ?_) | (refine W_ret ?_) | (refine W_skip ?_) | (refine W_exit ?_) | (refine bNorm ?_) | (refine bRet ?_) | (refine bExit ?_) | (refine bExitN rfl ?_) | (refine xMask ?_) | (refine xT ?_) | (refine xF ?_) | (refine xRet ?_) | (refine xNorm ?_) | (refine xSplit ?_ ?_ <;> intro hb <;> (try exact False.elim hb)) | (refine xCond ?_ ?_ <;> intro hb <;> (try exact False.elim hb)))
        all_goals exact ⟨m'', by omega, j + 1, c2, b2, hmj, rfl, hcx, hbx, hr, by simp only [keep, List.contains_cons, List.contains_nil, Nat.reduceBEq, Bool.or_true, Bool.true_or, Bool.or_false, Bool.false_or, if_true, if_false, Bool.false_eq_true, beq_self_eq_true, Nat.zero_add, Nat.reduceAdd, eq_self]⟩
      · have g1 : ((((c % 2 : Nat) : Int)) != ((b' % 2 : Nat) : Int)) = true := by rw [bne_iff_ne]; omega
        rw [if_neg he] at hr
        obtain ⟨p, hp⟩ : ∃ z, c % 2 = z := ⟨_, rfl⟩
        obtain ⟨q, hq⟩ : ∃ z, b' % 2 = z := ⟨_, rfl⟩
        rw [hp] at g1 f1
        rw [hq] at g1 f2 f3
        clear he hp hq hc2 hb2 hx2 hj hj8 e1
        repeat' (first | (refine wNil ?_) | (refine xPure ?_) | (refine xMk ?_; intro id hid; (try simp only [set_none_iff] at hid); refine mkDo ?_) | (refine xChk ?_) | (refine xChkF ?_) | (refine xSkip ?_) | (refine cSeq ?_) | (refine cNorm ?_) | (refine cRet ?_) | (refine cExit ?_) | (refine W_reg rfl ?_) | (refine W_block ?_) | (refine W_ret ?_) | (refine W_skip ?_) | (refine W_exit ?_) | (refine bNorm ?_) | (refine bRet ?_) | (refine bExit ?_) | (refine bExitN rfl ?_) | (refine xMask ?_) | (refine xT ?_) | (refine xF ?_) | (refine xRet ?_) | (refine xNorm ?_) | (refine xSplit ?_ ?_ <;> intro hb <;> (try exact False.elim hb)) | (refine xCond ?_ ?_ <;> intro hb <;> (try exact False.elim hb)))
        all_goals exact ⟨m'', by omega, j + 1, x2, b2, hmj, rfl, f7, hbx, hr, by simp only [keep, List.contains_cons, List.contains_nil, Nat.reduceBEq, Bool.or_true, Bool.true_or, Bool.or_false, Bool.false_or, if_true, if_false, Bool.false_eq_true, beq_self_eq_true, Nat.zero_add, Nat.reduceAdd, eq_self]⟩
    · have d2 : ¬ (j : Int) < 8 := by omega
      obtain rfl : m' = 0 := by omega
      have hc2 : c = rr 8 c0 b.toNat := hr.symm
      rw [← e1] at hc2
      subst hc2
      clear hr e1
      repeat' (first | (refine wNil ?_) | (refine xPure ?_) | (refine xMk ?_; intro id hid; (try simp only [set_none_iff] at hid); refine mkDo ?_) | (refine xChk ?_) | (refine xChkF ?_) | (refine xSkip ?_) | (refine cSeq ?_) | (refine cNorm ?_) | (refine cRet ?_) | (refine cExit ?_) | (refine W_reg rfl ?_) | (refine W_block ?_) | (refine W_ret ?_) | (refine W_skip ?_) | (refine W_exit ?_) | (refine bNorm ?_) | (refine bRet ?_) | (refine bExit ?_) | (refine bExitN rfl ?_) | (refine xMask ?_) | (refine xT ?_) | (refine xF ?_) | (refine xRet ?_) | (refine xNorm ?_) | (refine xSplit ?_ ?_ <;> intro hb <;> (try exact False.elim hb)) | (refine xCond ?_ ?_ <;> intro hb <;> (try exact False.elim hb)))
      all_goals exact ⟨m - 1, by omega, k + 1, by omega, rfl, by simp only [keep, List.contains_cons, List.contains_nil, Nat.reduceBEq, Bool.or_true, Bool.true_or, Bool.or_false, Bool.false_or, if_true, if_false, Bool.false_eq_true, beq_self_eq_true, Nat.zero_add, Nat.reduceAdd, eq_self]⟩
  · have d1 : ¬ (k : Int) < (l.length : Int) := by omega
    rw [List.take_of_length_le (by omega)]
    have hc := cr_lt l 4294967295 (by decide)
    have w9 : IntKind.u32.wrap (4294967295 - ((cr 4294967295 l : Nat) : Int)) = smF l := by rw [smF_cr, wrapU32 (by omega) (by omega)]; omega
    repeat' (first | (refine wNil ?_) | (refine xPure ?_) | (refine xMk ?_; intro id hid; (try simp only [set_none_iff] at hid); refine mkDo ?_) | (refine xChk ?_) | (refine xChkF ?_) | (refine xSkip ?_) | (refine cSeq ?_) | (refine cNorm ?_) | (refine cRet ?_) | (refine cExit ?_) | (refine W_reg rfl ?_) | (refine W_block ?_) | (refine W_ret ?_) | (refine W_skip ?_) | (refine W_exit ?_) | (refine bNorm ?_) | (refine bRet ?_) | (refine bExit ?_) | (refine bExitN rfl ?_) | (refine xMask ?_) | (refine xT ?_) | (refine xF ?_) | (refine xRet ?_) | (refine xNorm ?_) | (refine xSplit ?_ ?_ <;> intro hb <;> (try exact False.elim hb)) | (refine xCond ?_ ?_ <;> intro hb <;> (try exact False.elim hb)))
    all_goals exact ⟨rfl, rfl⟩
/-- the document's Frame -/
theorem sp75 (k : Nat) (l : List UInt8) (h : AH) (hk : k ≤ 255) (hl : l.length ≤ 1048576) : Sp T 75 [.int .u8 k, .str (bs l)] h (fun r h' => r = .str (bs (fr k l)) ∧ Up h h') := by
  have hu0 := Up.refl h
  have a5 : (UInt8.ofNat k).toNat = k := by simp; omega
  have a6 : abytes [.int .u8 (k : Int)] = some [UInt8.ofNat k] := by
    show (abytes []).map (UInt8.ofNat ((k : Int)).toNat :: ·) = _
    simp [abytes]
  have a7 : IntKind.u32.wrap (l.length : Int) = (l.length : Int) := wrapU32 (by omega) (by omega)
  have a8 : ¬ IntKind.i64.max < (((1 : Nat) + 3 : Nat) : Int) := by decide
  have a9 : ¬ IntKind.i64.max < (((fb k l).length + 4 : Nat) : Int) := big_no (by rw [fb_len]; omega)
  have a10 : ¬ IntKind.i64.max < ((3 + 1 + l.length : Nat) : Int) := big_no (by omega)
  have e1 : [UInt8.ofNat k] ++ be l.length 3 ++ l = fb k l := by simp [fb]
  have e2 := sm_nat (fb k l)
  have e4 : UInt8.ofNat k :: (be l.length 3 ++ l) = fb k l := rfl
  have a11 : ¬ IntKind.i64.max < ((l.length + 4 + 4 : Nat) : Int) := big_no (by omega)
  have a12 : fb k l ++ be (smF (fb k l)).toNat 4 = fr k l := rfl
  have e3 := fb_len k l
  have e5 : (smF (fb k l)).toNat < 4294967296 := by have := xr_rng 4294967295 ((fb k l).foldl mo 4294967295); unfold smF; omega
  refine Sp_of (fn := f75) rfl (show W T b75 [.int .u8 k, .str (bs l), .tup [], .tup [], .tup [], .tup [], .tup [], .tup [], .tup [], .tup [], .tup [], .tup [], .tup [], .tup [], .tup [], .tup [], .tup [], .tup [], .tup [], .tup [], .tup []] _ _ from ?_)
  unfold b75
  repeat' (first | (refine wNil ?_) | (refine wPure rfl (by (first | (simp only [go_sem, Int.le_refl, gt_iff_lt, *]; (first | done | exact rfl)) | rfl)) rfl (by (first | (simp only [go_sem, Int.le_refl, gt_iff_lt, *]; (first | done | exact rfl)) | rfl)) ?_; dsimp only [putT, ev, Int.toNat_zero, Nat.sub_zero, Int.toNat_natCast,  gd_zero, gd_succ, Nat.zero_add, Nat.add_zero, Nat.reduceAdd, Nat.reduceMul, List.set_cons_zero, List.set_cons_succ, keep, List.contains_cons, List.contains_nil]) | (refine wMk rfl (by (first | (simp only [go_sem, Int.le_refl, gt_iff_lt, *]; (first | done | exact rfl)) | rfl)) rfl ?_; intro id hid; (try simp only [set_none_iff] at hid); have hz := hid; (repeat (replace hz := hz.2)); (try have := Up.none hu0 hz); refine ⟨_, (by (first | (simp only [go_sem, Int.le_refl, gt_iff_lt, *]; (first | done | exact rfl)) | rfl)), ?_⟩; dsimp only [putT, ev, Int.toNat_zero, Nat.sub_zero, Int.toNat_natCast,  gd_zero, gd_succ, Nat.zero_add, Nat.add_zero, Nat.reduceAdd, Nat.reduceMul, List.set_cons_zero, List.set_cons_succ, keep, List.contains_cons, List.contains_nil]) | (refine wChk rfl (by (first | (simp only [go_sem, Int.le_refl, gt_iff_lt, *]; (first | done | exact rfl)) | rfl)) rfl (by (first | (simp only [go_sem, Int.le_refl, gt_iff_lt, *]; (first | done | exact rfl)) | rfl)) rfl ?_) | (refine wChkF rfl (by (first | (simp only [go_sem, Int.le_refl, gt_iff_lt, *]; (first | done | exact rfl)) | rfl)) rfl ?_) | (refine wSkip rfl (by (first | (simp only [go_sem, Int.le_refl, gt_iff_lt, *]; (first | done | exact rfl)) | rfl)) ?_; dsimp only [putT, ev, Int.toNat_zero, Nat.sub_zero, Int.toNat_natCast,  gd_zero, gd_succ, Nat.zero_add, Nat.add_zero, Nat.reduceAdd, Nat.reduceMul, List.set_cons_zero, List.set_cons_succ, keep, List.contains_cons, List.contains_nil]) | (refine xCall rfl rfl (sp86 l.length 3 _ (by omega) (by decide)) ?_; rintro v h2 ⟨rfl, hu2⟩; refine nTm ?_) | (refine xCall rfl rfl (sp87 (fb k l) _ (by omega)) ?_; rintro v h3 ⟨rfl, hx⟩; cases hx; rw [← e2]; refine nTm ?_) | (refine xCall rfl rfl (sp86 (smF (fb k l)).toNat 4 _ e5 (by decide)) ?_; rintro v h4 ⟨rfl, hu4⟩; refine nTm ?_) | (refine cSeq ?_) | (refine cNorm ?_) | (refine cRet ?_) | (refine cExit ?_) | (refine W_reg rfl ?_) | (refine W_block ?_) | (refine W_ret ?_) | (refine W_skip ?_) | (refine W_exit ?_) | (refine bNorm ?_) | (refine bRet ?_) | (refine bExit ?_) | (refine bExitN rfl ?_) | (refine cMask' (by simp only [keep, List.contains_cons, List.contains_nil, Nat.reduceBEq, Bool.or_true, Bool.true_or, Bool.or_false, Bool.false_or, if_true, if_false, Bool.false_eq_true, beq_self_eq_true, Nat.zero_add, Nat.reduceAdd, eq_self]; exact rfl) ?_) | (refine cT (by (first | (simp only [go_sem, Int.le_refl, gt_iff_lt, *]; (first | done | exact rfl)) | rfl)) ?_) | (refine cF (by (first | (simp only [go_sem, Int.le_refl, gt_iff_lt, *]; (first | done | exact rfl)) | rfl)) ?_) | (refine rRet (by (first | (simp only [go_sem, Int.le_refl, gt_iff_lt, *]; (first | done | exact rfl)) | rfl)) ?_) | (refine rNorm (by (first | (simp only [go_sem, Int.le_refl, gt_iff_lt, *]; (first | done | exact rfl)) | rfl)) ?_) | (refine wSplit _ rfl (by (first | (simp only [go_sem, Int.le_refl, gt_iff_lt, *]; (first | done | exact rfl)) | rfl)) ?_ ?_ <;> intro hb <;> (try simp only [beq_false, beq_true, Bool.not_true, Bool.not_false, Bool.not_eq_true', Bool.not_eq_false', decide_eq_false_iff_not, decide_eq_true_eq, bne_iff_ne, beq_iff_eq, Bool.true_eq, Bool.false_eq, Bool.not_not, Bool.and_eq_true, Bool.or_eq_true, Bool.bne_true, Bool.bne_false, bne_eq_false_iff_eq, beq_eq_false_iff_ne, ne_eq] at hb)) | (refine W_cond _ (by (first | (simp only [go_sem, Int.le_refl, gt_iff_lt, *]; (first | done | exact rfl)) | rfl)) ?_ ?_ <;> intro hb <;> (try simp only [beq_false, beq_true, Bool.not_true, Bool.not_false, Bool.not_eq_true', Bool.not_eq_false', decide_eq_false_iff_not, decide_eq_true_eq, bne_iff_ne, beq_iff_eq, Bool.true_eq, Bool.false_eq, Bool.not_not, Bool.and_eq_true, Bool.or_eq_true, Bool.bne_true, Bool.bne_false, bne_eq_false_iff_eq, beq_eq_false_iff_ne, ne_eq] at hb)))
  all_goals exact ⟨rfl, fun x b e => hu4 x b (by have e2 := hu2 x b e; rw [set_ne (nei e2 hid)]; exact e2)⟩
end Go.Proofs.YtgekngfnhhdamaaI
set_option linter.unusedVariables false
set_option linter.unusedSimpArgs false
set_option maxRecDepth 100000
set_option maxHeartbeats 4000000
namespace Go.Proofs.YtgekngfnhhdamaaI
open Go Go.Proofs.YtgekngfnhhdamaaM
attribute [local go_sem] aop ev fg_slc fg_slk fg_ptr fg_bool fg_int fg_str fg_iface fg_func fg_agg fg_tup fg_nils fg_nilp fg_nilI fg_nilF fg_und aboundsK alen_nils alen_slc alen_slk aslice_nils aslice_slc aslice_slk awanted abin aun aint aeqn aeqc aeqs apart abounds abnd amaxi amaxiGo cells_agg cells_slc cells_slk cells_ptr cells_bool cells_int cells_str cells_iface cells_func cells_tup cells_nils cells_nilp cells_nilI cells_nilF cells_und sc_slc sc_slk sc_ptr sc_bool sc_int sc_str sc_iface sc_func sc_nils sc_nilp sc_nilI sc_nilF gd_zero gd_succ List.all_cons List.all_nil Bool.and_self Bool.and_true Bool.true_and List.length_cons List.length_nil Option.map_some Option.some.injEq cell_same cell_ne cell_ne' cellsAt_same cellsAt_ne cellsAt_ne' put_same put_of set_same set_ne set_ne' List.getElem?_cons_zero List.getElem?_cons_succ if_true if_false and_self and_true true_and ne_eq not_true_eq_false not_false_eq_true decide_true decide_false Bool.false_eq_true Bool.true_eq_false beq_self_eq_true bne_self_eq_false beq_true beq_false Bool.not_true Bool.not_false List.map_cons List.map_nil putL List.set_cons_zero List.set_cons_succ afill Nat.zero_le Nat.le_refl Nat.zero_add Nat.add_zero List.drop_zero List.drop_succ_cons List.take_zero List.take_succ_cons Bool.not_eq_true Bool.not_eq_false decide_eq_true_eq decide_eq_false_iff_not Int.toNat_zero Nat.sub_zero Int.toNat_natCast Bool.bne_true Bool.bne_false AH.cell AH.cellsAt AH.put Nat.mul_one Nat.one_mul Int.natCast_nonneg List.length_set bs_append bs_size bs_toList bs_extract bs_get List.cons_append List.nil_append List.append_nil be_length Nat.sub_zero bne_self_eq_false beq_self_eq_true
/-- What is in a frame; how it fails. -/
def opn (s : List UInt8) : Nat × List UInt8 × Int :=
  if s.length < 4 then (0, [], 3) else
  if (s.getD 0 0).toNat = 0 then (0, [], 4) else
  if 1048576 < val ((s.drop 1).take 3) then (0, [], 6) else
  if s.length < val ((s.drop 1).take 3) + 8 then (0, [], 3) else
  if smF (s.take (4 + val ((s.drop 1).take 3))) = (val ((s.drop (4 + val ((s.drop 1).take 3))).take 4) : Int) then ((s.getD 0 0).toNat, (s.drop 4).take (val ((s.drop 1).take 3)), 0) else (0, [], 5)
theorem take3 {s : List UInt8} (h : 4 ≤ s.length) : ((s.drop 1).take 3).length = 3 := by rw [List.length_take, List.length_drop]; omega
/-- A frame is what it opens to. -/
theorem fr_opn {s : List UInt8} {n : Nat} (h4 : 4 ≤ s.length) (hn : val ((s.drop 1).take 3) = n) (hl : n + 8 ≤ s.length) : fr (s.getD 0 0).toNat ((s.drop 4).take n) = s.take (n + 8) ↔ smF (s.take (4 + n)) = (val ((s.drop (4 + n)).take 4) : Int) := by
  have e1 : fb (s.getD 0 0).toNat ((s.drop 4).take n) = s.take (4 + n) := by
    unfold fb
    have hl' : ((s.drop 4).take n).length = n := by rw [List.length_take, List.length_drop]; omega
    have bv := be_val ((s.drop 1).take 3)
    rw [take3 h4, hn] at bv
    rw [hl', bv]
    match s, h4 with
    | a :: b :: c :: d :: s, _ =>
      simp only [List.getD_cons_zero, UInt8.ofNat_toNat, List.drop_succ_cons, List.drop_zero, List.take_succ_cons, List.take_zero]
      rw [show 4 + n = n + 1 + 1 + 1 + 1 by omega]
      rfl
  have e2 : s.take (n + 8) = s.take (4 + n) ++ (s.drop (4 + n)).take 4 := by
    rw [show n + 8 = (4 + n) + 4 by omega, List.take_add]
  have e3 : ((s.drop (4 + n)).take 4).length = 4 := by rw [List.length_take, List.length_drop]; omega
  unfold fr
  rw [e1, e2]
  have hb := sm_nat (s.take (4 + n))
  constructor
  · intro h
    have h5 := List.append_cancel_left h
    rw [← h5, val_be' (by have := xr_rng 4294967295 ((s.take (4 + n)).foldl mo 4294967295); have e : (256 : Nat) ^ 4 = 4294967296 := by decide
                          unfold smF; omega)]
    exact hb.symm
  · intro h
    congr 1
    have bv := be_val ((s.drop (4 + n)).take 4)
    rw [e3] at bv
    rw [show (smF (s.take (4 + n))).toNat = val ((s.drop (4 + n)).take 4) by omega, bv]
/-- number -/
theorem sp88 (l : List UInt8) (h : AH) (hl : l.length ≤ 4) : Sp T 88 [.str (bs l)] h (fun v h' => v = .int .i64 (val l : Int) ∧ h' = h) := by
  refine Sp_of (fn := f88) rfl (show W T b88 [.str (bs l), .tup [], .tup [], .tup [], .tup [], .tup [], .tup [], .tup [], .tup [], .tup [], .tup [], .tup [], .tup [], .tup [], .tup [], .tup [], .tup [], .tup [], .tup []] _ _ from ?_)
  unfold b88
  repeat' (first | (refine wNil ?_) | (refine xPure ?_) | (refine xMk ?_; intro id hid; (try simp only [set_none_iff] at hid); refine mkDo ?_) | (refine xChk ?_) | (refine xChkF ?_) | (refine xSkip ?_) | (refine cSeq ?_) | (refine cNorm ?_) | (refine cRet ?_) | (refine cExit ?_) | (refine W_reg rfl ?_) | (refine W_block ?_) | (refine W_ret ?_) | (refine W_skip ?_) | (refine W_exit ?_) | (refine bNorm ?_) | (refine bRet ?_) | (refine bExit ?_) | (refine bExitN rfl ?_) | (refine xMask ?_) | (refine xT ?_) | (refine xF ?_) | (refine xRet ?_) | (refine xNorm ?_) | (refine xSplit ?_ ?_ <;> intro hb <;> (try exact False.elim hb)) | (refine xCond ?_ ?_ <;> intro hb <;> (try exact False.elim hb)))
  refine W_loop (fun m tm h' => ∃ k : Nat, k + m = l.length ∧ h' = h ∧ keep [0, 3, 4] 0 tm = [.str (bs l), .und, .und, .int .i64 (val (l.take k) : Int), .int .i64 (k : Int), .und, .und, .und, .und, .und, .und, .und, .und, .und, .und, .und, .und, .und, .und]) l.length ⟨0, by omega, rfl, rfl⟩ ?_
  rintro m tm h' ⟨k, hk, rfl, htm⟩
  refine cSeq (cMask (cNorm ?_))
  rw [htm]; clear htm
  by_cases hkl : k < l.length
  · have d1 : (k : Int) < (l.length : Int) := by omega
    have d0 : (0 : Int) ≤ (k : Int) := by omega
    have w1 : IntKind.i64.wrap ((k : Int) + 1) = ((k + 1 : Nat) : Int) := by rw [wrap64 (by omega) (by omega)]; rfl
    obtain ⟨b, hb⟩ : ∃ b, l[k]? = some b := ⟨_, List.getElem?_eq_getElem hkl⟩
    have v1 := val_lt k (l.take k) (by rw [List.length_take]; omega)
    have v2 : 256 ^ k ≤ 256 ^ 3 := Nat.pow_le_pow_right (by decide) (by omega)
    have v3 := val_take hb
    have v4 := b.toNat_lt
    obtain ⟨v, hv⟩ : ∃ v, val (l.take k) = v := ⟨_, rfl⟩
    rw [hv] at v1 v3 ⊢
    have v5 : v < 16777216 := by have : (256 : Nat) ^ 3 = 16777216 := by decide
                                 omega
    have c0 : IntKind.i64.wrap (256 * (v : Int)) = ((v * 256 : Nat) : Int) := by rw [wrap64 (by omega) (by omega)]; omega
    have c1 : IntKind.i64.wrap (b.toNat : Int) = (b.toNat : Int) := wrap64 (by omega) (by omega)
    have c2 : IntKind.i64.wrap (((v * 256 : Nat) : Int) + (b.toNat : Int)) = ((v * 256 + b.toNat : Nat) : Int) := by rw [wrap64 (by omega) (by omega)]; omega
    clear v1 v2 hv
    repeat' (first | (refine wNil ?_) | (refine xPure ?_) | (refine xMk ?_; intro id hid; (try simp only [set_none_iff] at hid); refine mkDo ?_) | (refine xChk ?_) | (refine xChkF ?_) | (refine xSkip ?_) | (refine cSeq ?_) | (refine cNorm ?_) | (refine cRet ?_) | (refine cExit ?_) | (refine W_reg rfl ?_) | (refine W_block ?_) | (refine W_ret ?_) | (refine W_skip ?_) | (refine W_exit ?_) | (refine bNorm ?_) | (refine bRet ?_) | (refine bExit ?_) | (refine bExitN rfl ?_) | (refine xMask ?_) | (refine xT ?_) | (refine xF ?_) | (refine xRet ?_) | (refine xNorm ?_) | (refine xSplit ?_ ?_ <;> intro hb <;> (try exact False.elim hb)) | (refine xCond ?_ ?_ <;> intro hb <;> (try exact False.elim hb)))
    all_goals exact ⟨m - 1, by omega, k + 1, by omega, rfl, by rw [v3]; simp only [keep, List.contains_cons, List.contains_nil, Nat.reduceBEq, Bool.or_true, Bool.true_or, Bool.or_false, Bool.false_or, if_true, if_false, Bool.false_eq_true, beq_self_eq_true, Nat.zero_add, Nat.reduceAdd, eq_self]⟩
  · have d1 : ¬ (k : Int) < (l.length : Int) := by omega
    rw [List.take_of_length_le (by omega)]
    repeat' (first | (refine wNil ?_) | (refine xPure ?_) | (refine xMk ?_; intro id hid; (try simp only [set_none_iff] at hid); refine mkDo ?_) | (refine xChk ?_) | (refine xChkF ?_) | (refine xSkip ?_) | (refine cSeq ?_) | (refine cNorm ?_) | (refine cRet ?_) | (refine cExit ?_) | (refine W_reg rfl ?_) | (refine W_block ?_) | (refine W_ret ?_) | (refine W_skip ?_) | (refine W_exit ?_) | (refine bNorm ?_) | (refine bRet ?_) | (refine bExit ?_) | (refine bExitN rfl ?_) | (refine xMask ?_) | (refine xT ?_) | (refine xF ?_) | (refine xRet ?_) | (refine xNorm ?_) | (refine xSplit ?_ ?_ <;> intro hb <;> (try exact False.elim hb)) | (refine xCond ?_ ?_ <;> intro hb <;> (try exact False.elim hb)))
    all_goals exact ⟨rfl, rfl⟩
/-- Open -/
theorem sp68 (s : List UInt8) (h : AH) (hs : s.length ≤ 1000000) : Sp T 68 [.str (bs s)] h (fun v h' => v = .tup [.int .u8 ((opn s).1 : Int), .str (bs (opn s).2.1), .int .i64 (opn s).2.2] ∧ Up h h') := by
  have hu0 := Up.refl h
  unfold opn
  by_cases c1 : s.length < 4
  · rw [if_pos c1]
    have d1 : (s.length : Int) < 4 := by omega
    refine Sp_of (fn := f68) rfl (show W T b68 [.str (bs s), .tup [], .tup [], .tup [], .tup [], .tup [], .tup [], .tup [], .tup [], .tup [], .tup [], .tup [], .tup [], .tup [], .tup [], .tup [], .tup [], .tup [], .tup [], .tup [], .tup [], .tup [], .tup [], .tup [], .tup [], .tup [], .tup [], .tup [], .tup [], .tup [], .tup [], .tup [], .tup [], .tup [], .tup [], .tup [], .tup [], .tup [], .tup [], .tup [], .tup [], .tup [], .tup [], .tup [], .tup [], .tup [], .tup []] _ _ from ?_)
    unfold b68
    repeat' (first | (refine wNil ?_) | (refine xPure ?_) | (refine xMk ?_; intro id hid; (try simp only [set_none_iff] at hid); have hz := hid; (repeat (replace hz := hz.2)); (try have := Up.none hu0 hz); refine mkDo ?_) | (refine xChk ?_) | (refine xChkF ?_) | (refine xSkip ?_) | (refine cSeq ?_) | (refine cNorm ?_) | (refine cRet ?_) | (refine cExit ?_) | (refine W_reg rfl ?_) | (refine W_block ?_) | (refine W_ret ?_) | (refine W_skip ?_) | (refine W_exit ?_) | (refine bNorm ?_) | (refine bRet ?_) | (refine bExit ?_) | (refine bExitN rfl ?_) | (refine xMask ?_) | (refine xT ?_) | (refine xF ?_) | (refine xRet ?_) | (refine xNorm ?_) | (refine xSplit ?_ ?_ <;> intro hb <;> (try exact False.elim hb)) | (refine xCond ?_ ?_ <;> intro hb <;> (try exact False.elim hb)))
    all_goals exact ⟨rfl, (by repeat' (first | assumption | exact Up.refl _ | refine Up.new ?_ ?_))⟩
  rw [if_neg c1]
  have h4 : 4 ≤ s.length := by omega
  have d1 : ¬ ((s.length : Int) < 4) := by omega
  have d2 : (4 : Int) ≤ (s.length : Int) := by omega
  have t1 : Int.toNat 1 = 1 := rfl
  have t4 : Int.toNat 4 = 4 := rfl
  have t3 : (4 - 1 : Nat) = 3 := rfl
  have p1 : (0 : Int) ≤ 1 := by decide
  have p2 : (1 : Int) ≤ 4 := by decide
  have p3 : (0 : Int) ≤ 4 := by decide
  have l3 := take3 h4
  have hv := val_lt 3 _ l3
  obtain ⟨b0, f0⟩ : ∃ b, s[0]? = some b := ⟨_, List.getElem?_eq_getElem (by omega)⟩
  have g0 : s.getD 0 0 = b0 := by rw [List.getD_eq_getElem?_getD, f0]; rfl
  rw [g0]
  have hb0 := b0.toNat_lt
  obtain ⟨n, hn⟩ : ∃ n, val ((s.drop 1).take 3) = n := ⟨_, rfl⟩
  rw [hn] at hv ⊢
  have hv' : n < 16777216 := by have : (256 : Nat) ^ 3 = 16777216 := by decide
                                omega
  have w1 : IntKind.i64.wrap ((n : Nat) : Int) = (n : Int) := wrap64 (by omega) (by omega)
  have w2 : IntKind.i64.wrap ((n : Int) + 8) = ((n + 8 : Nat) : Int) := by rw [wrap64 (by omega) (by omega)]; rfl
  have w3 : IntKind.i64.wrap (4 + (n : Int)) = ((4 + n : Nat) : Int) := by rw [wrap64 (by omega) (by omega)]; omega
  by_cases c2 : b0.toNat = 0
  · rw [if_pos c2]
    have d3 : ((b0.toNat : Int) == 0) = true := by rw [c2]; rfl
    clear c2
    refine Sp_of (fn := f68) rfl (show W T b68 [.str (bs s), .tup [], .tup [], .tup [], .tup [], .tup [], .tup [], .tup [], .tup [], .tup [], .tup [], .tup [], .tup [], .tup [], .tup [], .tup [], .tup [], .tup [], .tup [], .tup [], .tup [], .tup [], .tup [], .tup [], .tup [], .tup [], .tup [], .tup [], .tup [], .tup [], .tup [], .tup [], .tup [], .tup [], .tup [], .tup [], .tup [], .tup [], .tup [], .tup [], .tup [], .tup [], .tup [], .tup [], .tup [], .tup [], .tup []] _ _ from ?_)
    unfold b68
    repeat' (first | (refine wNil ?_) | (refine xPure ?_) | (refine xMk ?_; intro id hid; (try simp only [set_none_iff] at hid); have hz := hid; (repeat (replace hz := hz.2)); (try have := Up.none hu0 hz); refine mkDo ?_) | (refine xChk ?_) | (refine xChkF ?_) | (refine xSkip ?_) | (refine xCall rfl rfl (sp81 ((s.drop 1).take 3) _ (by rw [l3]; decide)) ?_; rintro v h2 ⟨rfl, hx⟩; cases hx; rw [hn]; refine nTm ?_) | (refine cSeq ?_) | (refine cNorm ?_) | (refine cRet ?_) | (refine cExit ?_) | (refine W_reg rfl ?_) | (refine W_block ?_) | (refine W_ret ?_) | (refine W_skip ?_) | (refine W_exit ?_) | (refine bNorm ?_) | (refine bRet ?_) | (refine bExit ?_) | (refine bExitN rfl ?_) | (refine xMask ?_) | (refine xT ?_) | (refine xF ?_) | (refine xRet ?_) | (refine xNorm ?_) | (refine xSplit ?_ ?_ <;> intro hb <;> (try exact False.elim hb)) | (refine xCond ?_ ?_ <;> intro hb <;> (try exact False.elim hb)))
    all_goals exact ⟨rfl, (by repeat' (first | assumption | exact Up.refl _ | refine Up.new ?_ ?_))⟩
  rw [if_neg c2]
  have d3 : ((b0.toNat : Int) == 0) = false := by simp; omega
  by_cases c5 : 1048576 < n
  · rw [if_pos c5]
    have d4 : (n : Int) > 1048576 := by omega
    refine Sp_of (fn := f68) rfl (show W T b68 [.str (bs s), .tup [], .tup [], .tup [], .tup [], .tup [], .tup [], .tup [], .tup [], .tup [], .tup [], .tup [], .tup [], .tup [], .tup [], .tup [], .tup [], .tup [], .tup [], .tup [], .tup [], .tup [], .tup [], .tup [], .tup [], .tup [], .tup [], .tup [], .tup [], .tup [], .tup [], .tup [], .tup [], .tup [], .tup [], .tup [], .tup [], .tup [], .tup [], .tup [], .tup [], .tup [], .tup [], .tup [], .tup [], .tup [], .tup []] _ _ from ?_)
    unfold b68
    repeat' (first | (refine wNil ?_) | (refine xPure ?_) | (refine xMk ?_; intro id hid; (try simp only [set_none_iff] at hid); have hz := hid; (repeat (replace hz := hz.2)); (try have := Up.none hu0 hz); refine mkDo ?_) | (refine xChk ?_) | (refine xChkF ?_) | (refine xSkip ?_) | (refine xCall rfl rfl (sp81 ((s.drop 1).take 3) _ (by rw [l3]; decide)) ?_; rintro v h2 ⟨rfl, hx⟩; cases hx; rw [hn]; refine nTm ?_) | (refine cSeq ?_) | (refine cNorm ?_) | (refine cRet ?_) | (refine cExit ?_) | (refine W_reg rfl ?_) | (refine W_block ?_) | (refine W_ret ?_) | (refine W_skip ?_) | (refine W_exit ?_) | (refine bNorm ?_) | (refine bRet ?_) | (refine bExit ?_) | (refine bExitN rfl ?_) | (refine xMask ?_) | (refine xT ?_) | (refine xF ?_) | (refine xRet ?_) | (refine xNorm ?_) | (refine xSplit ?_ ?_ <;> intro hb <;> (try exact False.elim hb)) | (refine xCond ?_ ?_ <;> intro hb <;> (try exact False.elim hb)))
    all_goals exact ⟨rfl, (by repeat' (first | assumption | exact Up.refl _ | refine Up.new ?_ ?_))⟩
  rw [if_neg c5]
  have d4 : ¬ (n : Int) > 1048576 := by omega
  by_cases c6 : s.length < n + 8
  · rw [if_pos c6]
    have d5 : ((n + 8 : Nat) : Int) > (s.length : Int) := by omega
    have d5' : (s.length : Int) < ((n + 8 : Nat) : Int) := by omega
    refine Sp_of (fn := f68) rfl (show W T b68 [.str (bs s), .tup [], .tup [], .tup [], .tup [], .tup [], .tup [], .tup [], .tup [], .tup [], .tup [], .tup [], .tup [], .tup [], .tup [], .tup [], .tup [], .tup [], .tup [], .tup [], .tup [], .tup [], .tup [], .tup [], .tup [], .tup [], .tup [], .tup [], .tup [], .tup [], .tup [], .tup [], .tup [], .tup [], .tup [], .tup [], .tup [], .tup [], .tup [], .tup [], .tup [], .tup [], .tup [], .tup [], .tup [], .tup [], .tup []] _ _ from ?_)
    unfold b68
    repeat' (first | (refine wNil ?_) | (refine xPure ?_) | (refine xMk ?_; intro id hid; (try simp only [set_none_iff] at hid); have hz := hid; (repeat (replace hz := hz.2)); (try have := Up.none hu0 hz); refine mkDo ?_) | (refine xChk ?_) | (refine xChkF ?_) | (refine xSkip ?_) | (refine xCall rfl rfl (sp81 ((s.drop 1).take 3) _ (by rw [l3]; decide)) ?_; rintro v h2 ⟨rfl, hx⟩; cases hx; rw [hn]; refine nTm ?_) | (refine cSeq ?_) | (refine cNorm ?_) | (refine cRet ?_) | (refine cExit ?_) | (refine W_reg rfl ?_) | (refine W_block ?_) | (refine W_ret ?_) | (refine W_skip ?_) | (refine W_exit ?_) | (refine bNorm ?_) | (refine bRet ?_) | (refine bExit ?_) | (refine bExitN rfl ?_) | (refine xMask ?_) | (refine xT ?_) | (refine xF ?_) | (refine xRet ?_) | (refine xNorm ?_) | (refine xSplit ?_ ?_ <;> intro hb <;> (try exact False.elim hb)) | (refine xCond ?_ ?_ <;> intro hb <;> (try exact False.elim hb)))
    all_goals exact ⟨rfl, (by repeat' (first | assumption | exact Up.refl _ | refine Up.new ?_ ?_))⟩
  rw [if_neg c6]
  have d5 : ¬ ((n + 8 : Nat) : Int) > (s.length : Int) := by omega
  have d5' : ¬ (s.length : Int) < ((n + 8 : Nat) : Int) := by omega
  have d6 : (0 : Int) ≤ ((4 + n : Nat) : Int) := by omega
  have d7 : ((4 + n : Nat) : Int) ≤ (s.length : Int) := by omega
  have d8 : ((4 + n : Nat) : Int) ≤ ((n + 8 : Nat) : Int) := by omega
  have d9 : ((n + 8 : Nat) : Int) ≤ (s.length : Int) := by omega
  have d10 : (4 : Int) ≤ ((4 + n : Nat) : Int) := by omega
  have d11 : (0 : Int) ≤ ((n + 8 : Nat) : Int) := by omega
  have s1 : n + 8 - (4 + n) = 4 := by omega
  have s2 : 4 + n - 4 = n := by omega

  clear hv c1 hs
  by_cases c7 : smF (s.take (4 + n)) = (val ((s.drop (4 + n)).take 4) : Int)
  · rw [if_pos c7]
    have d12 : (smF (s.take (4 + n)) != (val ((s.drop (4 + n)).take 4) : Int)) = false := by rw [bne_eq_false_iff_eq]; exact c7
    clear c7
    refine Sp_of (fn := f68) rfl (show W T b68 [.str (bs s), .tup [], .tup [], .tup [], .tup [], .tup [], .tup [], .tup [], .tup [], .tup [], .tup [], .tup [], .tup [], .tup [], .tup [], .tup [], .tup [], .tup [], .tup [], .tup [], .tup [], .tup [], .tup [], .tup [], .tup [], .tup [], .tup [], .tup [], .tup [], .tup [], .tup [], .tup [], .tup [], .tup [], .tup [], .tup [], .tup [], .tup [], .tup [], .tup [], .tup [], .tup [], .tup [], .tup [], .tup [], .tup [], .tup []] _ _ from ?_)
    unfold b68
    repeat' (first | (refine wNil ?_) | (refine xPure ?_) | (refine xMk ?_; intro id hid; (try simp only [set_none_iff] at hid); have hz := hid; (repeat (replace hz := hz.2)); (try have := Up.none hu0 hz); refine mkDo ?_) | (refine xChk ?_) | (refine xChkF ?_) | (refine xSkip ?_) | (refine xCall rfl rfl (sp81 ((s.drop 1).take 3) _ (by rw [l3]; decide)) ?_; rintro v h2 ⟨rfl, hx⟩; cases hx; rw [hn]; refine nTm ?_) | (refine xCall rfl rfl (sp44 id true (s.take (4 + n)) _ set_same (by rw [List.length_take]; omega)) ?_; rintro v h3 ⟨rfl, hx⟩; cases hx; refine nTm ?_) | (refine xCall rfl rfl (sp81 ((s.drop (4 + n)).take 4) _ (by rw [List.length_take]; omega)) ?_; rintro v h4 ⟨rfl, hx⟩; cases hx; refine nTm ?_) | (refine cSeq ?_) | (refine cNorm ?_) | (refine cRet ?_) | (refine cExit ?_) | (refine W_reg rfl ?_) | (refine W_block ?_) | (refine W_ret ?_) | (refine W_skip ?_) | (refine W_exit ?_) | (refine bNorm ?_) | (refine bRet ?_) | (refine bExit ?_) | (refine bExitN rfl ?_) | (refine xMask ?_) | (refine xT ?_) | (refine xF ?_) | (refine xRet ?_) | (refine xNorm ?_) | (refine xSplit ?_ ?_ <;> intro hb <;> (try exact False.elim hb)) | (refine xCond ?_ ?_ <;> intro hb <;> (try exact False.elim hb)))
    all_goals exact ⟨rfl, (by repeat' (first | assumption | exact Up.refl _ | refine Up.new ?_ ?_))⟩
  · rw [if_neg c7]
    have d12 : (smF (s.take (4 + n)) != (val ((s.drop (4 + n)).take 4) : Int)) = true := by rw [bne_iff_ne]; exact c7
    clear c7
    refine Sp_of (fn := f68) rfl (show W T b68 [.str (bs s), .tup [], .tup [], .tup [], .tup [], .tup [], .tup [], .tup [], .tup [], .tup [], .tup [], .tup [], .tup [], .tup [], .tup [], .tup [], .tup [], .tup [], .tup [], .tup [], .tup [], .tup [], .tup [], .tup [], .tup [], .tup [], .tup [], .tup [], .tup [], .tup [], .tup [], .tup [], .tup [], .tup [], .tup [], .tup [], .tup [], .tup [], .tup [], .tup [], .tup [], .tup [], .tup [], .tup [], .tup [], .tup [], .tup []] _ _ from ?_)
    unfold b68
    repeat' (first | (refine wNil ?_) | (refine xPure ?_) | (refine xMk ?_; intro id hid; (try simp only [set_none_iff] at hid); have hz := hid; (repeat (replace hz := hz.2)); (try have := Up.none hu0 hz); refine mkDo ?_) | (refine xChk ?_) | (refine xChkF ?_) | (refine xSkip ?_) | (refine xCall rfl rfl (sp81 ((s.drop 1).take 3) _ (by rw [l3]; decide)) ?_; rintro v h2 ⟨rfl, hx⟩; cases hx; rw [hn]; refine nTm ?_) | (refine xCall rfl rfl (sp44 id true (s.take (4 + n)) _ set_same (by rw [List.length_take]; omega)) ?_; rintro v h3 ⟨rfl, hx⟩; cases hx; refine nTm ?_) | (refine xCall rfl rfl (sp81 ((s.drop (4 + n)).take 4) _ (by rw [List.length_take]; omega)) ?_; rintro v h4 ⟨rfl, hx⟩; cases hx; refine nTm ?_) | (refine cSeq ?_) | (refine cNorm ?_) | (refine cRet ?_) | (refine cExit ?_) | (refine W_reg rfl ?_) | (refine W_block ?_) | (refine W_ret ?_) | (refine W_skip ?_) | (refine W_exit ?_) | (refine bNorm ?_) | (refine bRet ?_) | (refine bExit ?_) | (refine bExitN rfl ?_) | (refine xMask ?_) | (refine xT ?_) | (refine xF ?_) | (refine xRet ?_) | (refine xNorm ?_) | (refine xSplit ?_ ?_ <;> intro hb <;> (try exact False.elim hb)) | (refine xCond ?_ ?_ <;> intro hb <;> (try exact False.elim hb)))
    all_goals exact ⟨rfl, (by repeat' (first | assumption | exact Up.refl _ | refine Up.new ?_ ?_))⟩
/-- the document's Open -/
theorem sp79 (s : List UInt8) (h : AH) (hs : s.length ≤ 1000000) : Sp T 79 [.str (bs s)] h (fun v h' => v = .tup [.agg [.int .u8 ((opn s).1 : Int), .str (bs (opn s).2.1)], .int .i64 (opn s).2.2] ∧ Up h h') := by
  have hu0 := Up.refl h
  unfold opn
  by_cases c1 : s.length < 4
  · rw [if_pos c1]
    have d1 : (s.length : Int) < 4 := by omega
    refine Sp_of (fn := f79) rfl (show W T b79 [.str (bs s), .tup [], .tup [], .tup [], .tup [], .tup [], .tup [], .tup [], .tup [], .tup [], .tup [], .tup [], .tup [], .tup [], .tup [], .tup [], .tup [], .tup [], .tup [], .tup [], .tup [], .tup [], .tup [], .tup [], .tup [], .tup [], .tup [], .tup [], .tup [], .tup [], .tup [], .tup [], .tup [], .tup [], .tup [], .tup [], .tup [], .tup [], .tup [], .tup [], .tup [], .tup [], .tup [], .tup [], .tup []] _ _ from ?_)
    unfold b79
    repeat' (first | (refine wNil ?_) | (refine xPure ?_) | (refine xMk ?_; intro id hid; (try simp only [set_none_iff] at hid); have hz := hid; (repeat (replace hz := hz.2)); (try have := Up.none hu0 hz); refine mkDo ?_) | (refine xChk ?_) | (refine xChkF ?_) | (refine xSkip ?_) | (refine cSeq ?_) | (refine cNorm ?_) | (refine cRet ?_) | (refine cExit ?_) | (refine W_reg rfl ?_) | (refine W_block ?_) | (refine W_ret ?_) | (refine W_skip ?_) | (refine W_exit ?_) | (refine bNorm ?_) | (refine bRet ?_) | (refine bExit ?_) | (refine bExitN rfl ?_) | (refine xMask ?_) | (refine xT ?_) | (refine xF ?_) | (refine xRet ?_) | (refine xNorm ?_) | (refine xSplit ?_ ?_ <;> intro hb <;> (try exact False.elim hb)) | (refine xCond ?_ ?_ <;> intro hb <;> (try exact False.elim hb)))
    all_goals (refine ⟨[.agg [.int .u8 0, .str ⟨#[]⟩], .int .i64 3], (by simp [ares, ares1, f79, ev, AH.cellsAt, AH.cell, set_same, set_ne', *]), rfl, (by repeat' (first | assumption | exact Up.refl _ | refine Up.new ?_ ?_))⟩)
  rw [if_neg c1]
  have h4 : 4 ≤ s.length := by omega
  have d1 : ¬ ((s.length : Int) < 4) := by omega
  have d2 : (4 : Int) ≤ (s.length : Int) := by omega
  have t1 : Int.toNat 1 = 1 := rfl
  have t4 : Int.toNat 4 = 4 := rfl
  have t3 : (4 - 1 : Nat) = 3 := rfl
  have p1 : (0 : Int) ≤ 1 := by decide
  have p2 : (1 : Int) ≤ 4 := by decide
  have p3 : (0 : Int) ≤ 4 := by decide
  have l3 := take3 h4
  have hv := val_lt 3 _ l3
  obtain ⟨b0, f0⟩ : ∃ b, s[0]? = some b := ⟨_, List.getElem?_eq_getElem (by omega)⟩
  have g0 : s.getD 0 0 = b0 := by rw [List.getD_eq_getElem?_getD, f0]; rfl
  rw [g0]
  have hb0 := b0.toNat_lt
  obtain ⟨n, hn⟩ : ∃ n, val ((s.drop 1).take 3) = n := ⟨_, rfl⟩
  rw [hn] at hv ⊢
  have hv' : n < 16777216 := by have : (256 : Nat) ^ 3 = 16777216 := by decide
                                omega
  have w1 : IntKind.i64.wrap ((n : Nat) : Int) = (n : Int) := wrap64 (by omega) (by omega)
  have w2 : IntKind.i64.wrap ((n : Int) + 8) = ((n + 8 : Nat) : Int) := by rw [wrap64 (by omega) (by omega)]; rfl
  have w3 : IntKind.i64.wrap (4 + (n : Int)) = ((4 + n : Nat) : Int) := by rw [wrap64 (by omega) (by omega)]; omega
  by_cases c2 : b0.toNat = 0
  · rw [if_pos c2]
    have d3 : ((b0.toNat : Int) == 0) = true := by rw [c2]; rfl
    clear c2
    refine Sp_of (fn := f79) rfl (show W T b79 [.str (bs s), .tup [], .tup [], .tup [], .tup [], .tup [], .tup [], .tup [], .tup [], .tup [], .tup [], .tup [], .tup [], .tup [], .tup [], .tup [], .tup [], .tup [], .tup [], .tup [], .tup [], .tup [], .tup [], .tup [], .tup [], .tup [], .tup [], .tup [], .tup [], .tup [], .tup [], .tup [], .tup [], .tup [], .tup [], .tup [], .tup [], .tup [], .tup [], .tup [], .tup [], .tup [], .tup [], .tup [], .tup []] _ _ from ?_)
    unfold b79
    repeat' (first | (refine wNil ?_) | (refine xPure ?_) | (refine xMk ?_; intro id hid; (try simp only [set_none_iff] at hid); have hz := hid; (repeat (replace hz := hz.2)); (try have := Up.none hu0 hz); refine mkDo ?_) | (refine xChk ?_) | (refine xChkF ?_) | (refine xSkip ?_) | (refine xCall rfl rfl (sp88 ((s.drop 1).take 3) _ (by rw [l3]; decide)) ?_; rintro v h2 ⟨rfl, hx⟩; cases hx; rw [hn]; refine nTm ?_) | (refine cSeq ?_) | (refine cNorm ?_) | (refine cRet ?_) | (refine cExit ?_) | (refine W_reg rfl ?_) | (refine W_block ?_) | (refine W_ret ?_) | (refine W_skip ?_) | (refine W_exit ?_) | (refine bNorm ?_) | (refine bRet ?_) | (refine bExit ?_) | (refine bExitN rfl ?_) | (refine xMask ?_) | (refine xT ?_) | (refine xF ?_) | (refine xRet ?_) | (refine xNorm ?_) | (refine xSplit ?_ ?_ <;> intro hb <;> (try exact False.elim hb)) | (refine xCond ?_ ?_ <;> intro hb <;> (try exact False.elim hb)))
    all_goals (refine ⟨[.agg [.int .u8 0, .str ⟨#[]⟩], .int .i64 4], (by simp [ares, ares1, f79, ev, AH.cellsAt, AH.cell, set_same, set_ne', *]), rfl, (by repeat' (first | assumption | exact Up.refl _ | refine Up.new ?_ ?_))⟩)
  rw [if_neg c2]
  have d3 : ((b0.toNat : Int) == 0) = false := by simp; omega
  by_cases c5 : 1048576 < n
  · rw [if_pos c5]
    have d4 : (n : Int) > 1048576 := by omega
    refine Sp_of (fn := f79) rfl (show W T b79 [.str (bs s), .tup [], .tup [], .tup [], .tup [], .tup [], .tup [], .tup [], .tup [], .tup [], .tup [], .tup [], .tup [], .tup [], .tup [], .tup [], .tup [], .tup [], .tup [], .tup [], .tup [], .tup [], .tup [], .tup [], .tup [], .tup [], .tup [], .tup [], .tup [], .tup [], .tup [], .tup [], .tup [], .tup [], .tup [], .tup [], .tup [], .tup [], .tup [], .tup [], .tup [], .tup [], .tup [], .tup [], .tup []] _ _ from ?_)
    unfold b79
    repeat' (first | (refine wNil ?_) | (refine xPure ?_) | (refine xMk ?_; intro id hid; (try simp only [set_none_iff] at hid); have hz := hid; (repeat (replace hz := hz.2)); (try have := Up.none hu0 hz); refine mkDo ?_) | (refine xChk ?_) | (refine xChkF ?_) | (refine xSkip ?_) | (refine xCall rfl rfl (sp88 ((s.drop 1).take 3) _ (by rw [l3]; decide)) ?_; rintro v h2 ⟨rfl, hx⟩; cases hx; rw [hn]; refine nTm ?_) | (refine cSeq ?_) | (refine cNorm ?_) | (refine cRet ?_) | (refine cExit ?_) | (refine W_reg rfl ?_) | (refine W_block ?_) | (refine W_ret ?_) | (refine W_skip ?_) | (refine W_exit ?_) | (refine bNorm ?_) | (refine bRet ?_) | (refine bExit ?_) | (refine bExitN rfl ?_) | (refine xMask ?_) | (refine xT ?_) | (refine xF ?_) | (refine xRet ?_) | (refine xNorm ?_) | (refine xSplit ?_ ?_ <;> intro hb <;> (try exact False.elim hb)) | (refine xCond ?_ ?_ <;> intro hb <;> (try exact False.elim hb)))
    all_goals (refine ⟨[.agg [.int .u8 0, .str ⟨#[]⟩], .int .i64 6], (by simp [ares, ares1, f79, ev, AH.cellsAt, AH.cell, set_same, set_ne', *]), rfl, (by repeat' (first | assumption | exact Up.refl _ | refine Up.new ?_ ?_))⟩)
  rw [if_neg c5]
  have d4 : ¬ (n : Int) > 1048576 := by omega
  by_cases c6 : s.length < n + 8
  · rw [if_pos c6]
    have d5 : ((n + 8 : Nat) : Int) > (s.length : Int) := by omega
    have d5' : (s.length : Int) < ((n + 8 : Nat) : Int) := by omega
    refine Sp_of (fn := f79) rfl (show W T b79 [.str (bs s), .tup [], .tup [], .tup [], .tup [], .tup [], .tup [], .tup [], .tup [], .tup [], .tup [], .tup [], .tup [], .tup [], .tup [], .tup [], .tup [], .tup [], .tup [], .tup [], .tup [], .tup [], .tup [], .tup [], .tup [], .tup [], .tup [], .tup [], .tup [], .tup [], .tup [], .tup [], .tup [], .tup [], .tup [], .tup [], .tup [], .tup [], .tup [], .tup [], .tup [], .tup [], .tup [], .tup [], .tup []] _ _ from ?_)
    unfold b79
    repeat' (first | (refine wNil ?_) | (refine xPure ?_) | (refine xMk ?_; intro id hid; (try simp only [set_none_iff] at hid); have hz := hid; (repeat (replace hz := hz.2)); (try have := Up.none hu0 hz); refine mkDo ?_) | (refine xChk ?_) | (refine xChkF ?_) | (refine xSkip ?_) | (refine xCall rfl rfl (sp88 ((s.drop 1).take 3) _ (by rw [l3]; decide)) ?_; rintro v h2 ⟨rfl, hx⟩; cases hx; rw [hn]; refine nTm ?_) | (refine cSeq ?_) | (refine cNorm ?_) | (refine cRet ?_) | (refine cExit ?_) | (refine W_reg rfl ?_) | (refine W_block ?_) | (refine W_ret ?_) | (refine W_skip ?_) | (refine W_exit ?_) | (refine bNorm ?_) | (refine bRet ?_) | (refine bExit ?_) | (refine bExitN rfl ?_) | (refine xMask ?_) | (refine xT ?_) | (refine xF ?_) | (refine xRet ?_) | (refine xNorm ?_) | (refine xSplit ?_ ?_ <;> intro hb <;> (try exact False.elim hb)) | (refine xCond ?_ ?_ <;> intro hb <;> (try exact False.elim hb)))
    all_goals (refine ⟨[.agg [.int .u8 0, .str ⟨#[]⟩], .int .i64 3], (by simp [ares, ares1, f79, ev, AH.cellsAt, AH.cell, set_same, set_ne', *]), rfl, (by repeat' (first | assumption | exact Up.refl _ | refine Up.new ?_ ?_))⟩)
  rw [if_neg c6]
  have d5 : ¬ ((n + 8 : Nat) : Int) > (s.length : Int) := by omega
  have d5' : ¬ (s.length : Int) < ((n + 8 : Nat) : Int) := by omega
  have d6 : (0 : Int) ≤ ((4 + n : Nat) : Int) := by omega
  have d7 : ((4 + n : Nat) : Int) ≤ (s.length : Int) := by omega
  have d8 : ((4 + n : Nat) : Int) ≤ ((n + 8 : Nat) : Int) := by omega
  have d9 : ((n + 8 : Nat) : Int) ≤ (s.length : Int) := by omega
  have d10 : (4 : Int) ≤ ((4 + n : Nat) : Int) := by omega
  have d11 : (0 : Int) ≤ ((n + 8 : Nat) : Int) := by omega
  have s1 : n + 8 - (4 + n) = 4 := by omega
  have s2 : 4 + n - 4 = n := by omega

  have hfo := fr_opn h4 hn (by omega)
  rw [g0] at hfo
  have e75 : (bs (fr b0.toNat ((s.drop 4).take n))).toList = fr b0.toNat ((s.drop 4).take n) := bs_toList _
  by_cases c7 : smF (s.take (4 + n)) = (val ((s.drop (4 + n)).take 4) : Int)
  · rw [if_pos c7]
    have e8 := hfo.2 c7
    clear hv c1 hs c7 hfo
    refine Sp_of (fn := f79) rfl (show W T b79 [.str (bs s), .tup [], .tup [], .tup [], .tup [], .tup [], .tup [], .tup [], .tup [], .tup [], .tup [], .tup [], .tup [], .tup [], .tup [], .tup [], .tup [], .tup [], .tup [], .tup [], .tup [], .tup [], .tup [], .tup [], .tup [], .tup [], .tup [], .tup [], .tup [], .tup [], .tup [], .tup [], .tup [], .tup [], .tup [], .tup [], .tup [], .tup [], .tup [], .tup [], .tup [], .tup [], .tup [], .tup [], .tup []] _ _ from ?_)
    unfold b79
    repeat' (first | (refine wNil ?_) | (refine xPure ?_) | (refine xMk ?_; intro id hid; (try simp only [set_none_iff] at hid); have hz := hid; (repeat (replace hz := hz.2)); (try have := nei hr3 hz); (try have := Up.none hu0 hz); refine mkDo ?_) | (refine xChk ?_) | (refine xChkF ?_) | (refine xSkip ?_) | (refine xCall rfl rfl (sp88 ((s.drop 1).take 3) _ (by rw [l3]; decide)) ?_; rintro v h2 ⟨rfl, hx⟩; cases hx; rw [hn]; refine nTm ?_) | (refine xCall rfl rfl (sp75 b0.toNat ((s.drop 4).take n) _ (by omega) (by rw [List.length_take]; omega)) ?_; rintro v h3 ⟨rfl, hu3⟩; rw [e8]; have hr3 := hu3 _ _ set_same; have HU3 : Up h h3 := Up.trans (show Up h _ from (by repeat' (first | assumption | exact Up.refl _ | refine Up.new ?_ ?_))) hu3; refine nTm ?_) | (refine cSeq ?_) | (refine cNorm ?_) | (refine cRet ?_) | (refine cExit ?_) | (refine W_reg rfl ?_) | (refine W_block ?_) | (refine W_ret ?_) | (refine W_skip ?_) | (refine W_exit ?_) | (refine bNorm ?_) | (refine bRet ?_) | (refine bExit ?_) | (refine bExitN rfl ?_) | (refine xMask ?_) | (refine xT ?_) | (refine xF ?_) | (refine xRet ?_) | (refine xNorm ?_) | (refine xSplit ?_ ?_ <;> intro hb <;> (try exact False.elim hb)) | (refine xCond ?_ ?_ <;> intro hb <;> (try exact False.elim hb)))
    all_goals (refine ⟨[.agg [.int .u8 (b0.toNat : Int), .str (bs ((s.drop 4).take n))], .int .i64 0], (by simp [ares, ares1, f79, ev, AH.cellsAt, AH.cell, set_same, set_ne', *]), rfl, fun z b e => ?_⟩)
    all_goals (rw [set_ne (nei e (by assumption))]; exact HU3 z b e)
  · rw [if_neg c7]
    have e8 : ¬ fr b0.toNat ((s.drop 4).take n) = s.take (n + 8) := fun e => c7 (hfo.1 e)
    have e9 : (!(fr b0.toNat ((s.drop 4).take n) == s.take (n + 8))) = true := by rw [Bool.not_eq_true', beq_eq_false_iff_ne]; exact e8
    have e10 : (fr b0.toNat ((s.drop 4).take n) == s.take (n + 8)) = false := by rw [beq_eq_false_iff_ne]; exact e8
    clear hv c1 hs c7 hfo e8
    refine Sp_of (fn := f79) rfl (show W T b79 [.str (bs s), .tup [], .tup [], .tup [], .tup [], .tup [], .tup [], .tup [], .tup [], .tup [], .tup [], .tup [], .tup [], .tup [], .tup [], .tup [], .tup [], .tup [], .tup [], .tup [], .tup [], .tup [], .tup [], .tup [], .tup [], .tup [], .tup [], .tup [], .tup [], .tup [], .tup [], .tup [], .tup [], .tup [], .tup [], .tup [], .tup [], .tup [], .tup [], .tup [], .tup [], .tup [], .tup [], .tup [], .tup []] _ _ from ?_)
    unfold b79
    repeat' (first | (refine wNil ?_) | (refine xPure ?_) | (refine xMk ?_; intro id hid; (try simp only [set_none_iff] at hid); have hz := hid; (repeat (replace hz := hz.2)); (try have := nei hr3 hz); (try have := Up.none hu0 hz); refine mkDo ?_) | (refine xChk ?_) | (refine xChkF ?_) | (refine xSkip ?_) | (refine xCall rfl rfl (sp88 ((s.drop 1).take 3) _ (by rw [l3]; decide)) ?_; rintro v h2 ⟨rfl, hx⟩; cases hx; rw [hn]; refine nTm ?_) | (refine xCall rfl rfl (sp75 b0.toNat ((s.drop 4).take n) _ (by omega) (by rw [List.length_take]; omega)) ?_; rintro v h3 ⟨rfl, hu3⟩; have hr3 := hu3 _ _ set_same; have HU3 : Up h h3 := Up.trans (show Up h _ from (by repeat' (first | assumption | exact Up.refl _ | refine Up.new ?_ ?_))) hu3; refine nTm ?_) | (refine cSeq ?_) | (refine cNorm ?_) | (refine cRet ?_) | (refine cExit ?_) | (refine W_reg rfl ?_) | (refine W_block ?_) | (refine W_ret ?_) | (refine W_skip ?_) | (refine W_exit ?_) | (refine bNorm ?_) | (refine bRet ?_) | (refine bExit ?_) | (refine bExitN rfl ?_) | (refine xMask ?_) | (refine xT ?_) | (refine xF ?_) | (refine xRet ?_) | (refine xNorm ?_) | (refine xSplit ?_ ?_ <;> intro hb <;> (try exact False.elim hb)) | (refine xCond ?_ ?_ <;> intro hb <;> (try exact False.elim hb)))
    all_goals (refine ⟨[.agg [.int .u8 0, .str ⟨#[]⟩], .int .i64 5], (by simp [ares, ares1, f79, ev, AH.cellsAt, AH.cell, set_same, set_ne', *]), rfl, fun z b e => ?_⟩)
    all_goals (rw [set_ne (nei e (by assumption))]; exact HU3 z b e)
end Go.Proofs.YtgekngfnhhdamaaI
set_option linter.unusedVariables false
set_option linter.unusedSimpArgs false
set_option maxRecDepth 100000
set_option maxHeartbeats 4000000
namespace Go.Proofs.YtgekngfnhhdamaaI
open Go Go.Proofs.YtgekngfnhhdamaaM
attribute [local go_sem] aop ev fg_slc fg_slk fg_ptr fg_bool fg_int fg_str fg_iface fg_func fg_agg fg_tup fg_nils fg_nilp fg_nilI fg_nilF fg_und aboundsK alen_nils alen_slc alen_slk aslice_nils aslice_slc aslice_slk awanted abin aun aint aeqn aeqc aeqs apart abounds abnd amaxi amaxiGo cells_agg cells_slc cells_slk cells_ptr cells_bool cells_int cells_str cells_iface cells_func cells_tup cells_nils cells_nilp cells_nilI cells_nilF cells_und sc_slc sc_slk sc_ptr sc_bool sc_int sc_str sc_iface sc_func sc_nils sc_nilp sc_nilI sc_nilF gd_zero gd_succ List.all_cons List.all_nil Bool.and_self Bool.and_true Bool.true_and List.length_cons List.length_nil Option.map_some Option.some.injEq cell_same cell_ne cell_ne' cellsAt_same cellsAt_ne cellsAt_ne' put_same put_of set_same set_ne set_ne' List.getElem?_cons_zero List.getElem?_cons_succ if_true if_false and_self and_true true_and ne_eq not_true_eq_false not_false_eq_true decide_true decide_false Bool.false_eq_true Bool.true_eq_false beq_self_eq_true bne_self_eq_false beq_true beq_false Bool.not_true Bool.not_false List.map_cons List.map_nil putL List.set_cons_zero List.set_cons_succ afill Nat.zero_le Nat.le_refl Nat.zero_add Nat.add_zero List.drop_zero List.drop_succ_cons List.take_zero List.take_succ_cons Bool.not_eq_true Bool.not_eq_false decide_eq_true_eq decide_eq_false_iff_not Int.toNat_zero Nat.sub_zero Int.toNat_natCast Bool.bne_true Bool.bne_false AH.cell AH.cellsAt AH.put Nat.mul_one Nat.one_mul Int.natCast_nonneg List.length_set bs_append bs_size bs_toList bs_extract bs_get List.cons_append List.nil_append List.append_nil Nat.sub_zero bne_self_eq_false beq_self_eq_true azeros Int.le_refl aapp
end Go.Proofs.YtgekngfnhhdamaaI
set_option linter.unusedVariables false
set_option linter.unusedSimpArgs false
set_option maxRecDepth 100000
set_option maxHeartbeats 4000000
namespace Go.Proofs.YtgekngfnhhdamaaI
open Go Go.Proofs.YtgekngfnhhdamaaM
attribute [local go_sem] aop ev fg_slc fg_slk fg_ptr fg_bool fg_int fg_str fg_iface fg_func fg_agg fg_tup fg_nils fg_nilp fg_nilI fg_nilF fg_und aboundsK alen_nils alen_slc alen_slk aslice_nils aslice_slc aslice_slk awanted abin aun aint aeqn aeqc aeqs apart abounds abnd amaxi amaxiGo cells_agg cells_slc cells_slk cells_ptr cells_bool cells_int cells_str cells_iface cells_func cells_tup cells_nils cells_nilp cells_nilI cells_nilF cells_und sc_slc sc_slk sc_ptr sc_bool sc_int sc_str sc_iface sc_func sc_nils sc_nilp sc_nilI sc_nilF gd_zero gd_succ List.all_cons List.all_nil Bool.and_self Bool.and_true Bool.true_and List.length_cons List.length_nil Option.map_some Option.some.injEq cell_same cell_ne cell_ne' cellsAt_same cellsAt_ne cellsAt_ne' put_same put_of set_same set_ne set_ne' List.getElem?_cons_zero List.getElem?_cons_succ if_true if_false and_self and_true true_and ne_eq not_true_eq_false not_false_eq_true decide_true decide_false Bool.false_eq_true Bool.true_eq_false beq_self_eq_true bne_self_eq_false beq_true beq_false Bool.not_true Bool.not_false List.map_cons List.map_nil putL List.set_cons_zero List.set_cons_succ afill Nat.zero_le Nat.le_refl Nat.zero_add Nat.add_zero List.drop_zero List.drop_succ_cons List.take_zero List.take_succ_cons Bool.not_eq_true Bool.not_eq_false decide_eq_true_eq decide_eq_false_iff_not Int.toNat_zero Nat.sub_zero Int.toNat_natCast Bool.bne_true Bool.bne_false AH.cell AH.cellsAt AH.put Nat.mul_one Nat.one_mul Int.natCast_nonneg List.length_set bs_append bs_size bs_toList bs_extract bs_get List.cons_append List.nil_append List.append_nil Nat.sub_zero bne_self_eq_false beq_self_eq_true azeros Int.le_refl aapp
/-- A list of entries, to be read. -/
def Le (h : AH) (S : AV) (L : List En) : Prop := S = .nils ∧ L = [] ∨ ∃ i own, S = .slc i 0 L.length 4 ∧ h i = some ⟨own, L.flatMap eM⟩
theorem Le.len {h : AH} {S : AV} {L : List En} (hP : Le h S L) : alen S = some (L.length : Int) := by
  rcases hP with ⟨rfl, rfl⟩ | ⟨i, _, rfl, _⟩ <;> rfl
theorem Le.up {h h' : AH} {S : AV} {L : List En} (hP : Le h S L) (hu : Up h h') : Le h' S L := by
  rcases hP with h | ⟨i, o, h1, h2⟩
  · exact .inl h
  · exact .inr ⟨i, o, h1, hu _ _ h2⟩
/-- The same, in a block of its own. -/
def Po (h0 h : AH) (S : AV) (L : List En) : Prop := S = .nils ∧ L = [] ∨ ∃ i, h0 i = none ∧ S = .slc i 0 L.length 4 ∧ h i = some ⟨true, L.flatMap eM⟩
theorem Po.rd {h0 h : AH} {S : AV} {L : List En} (hP : Po h0 h S L) : Le h S L := by
  rcases hP with h | ⟨i, _, h1, h2⟩
  · exact .inl h
  · exact .inr ⟨i, true, h1, h2⟩
/-- A list of entries, to be read; there may be more behind it. -/
def Lg (h : AH) (S : AV) (L : List En) : Prop := S = .nils ∧ L = [] ∨ ∃ i own rest, S.fg = .slc i 0 L.length 4 ∧ h i = some ⟨own, L.flatMap eM ++ rest⟩
theorem Le.lg {h : AH} {S : AV} {L : List En} (hP : Le h S L) : Lg h S L := by
  rcases hP with h | ⟨i, o, rfl, h2⟩
  · exact .inl h
  · exact .inr ⟨i, o, [], rfl, by rw [List.append_nil]; exact h2⟩
theorem Lg.len {h : AH} {S : AV} {L : List En} (hP : Lg h S L) : alen S = some (L.length : Int) := by
  rcases hP with ⟨rfl, rfl⟩ | ⟨i, _, _, hf, _⟩
  · rfl
  · unfold alen; rw [hf]
theorem Lg.up {h h' : AH} {S : AV} {L : List En} (hP : Lg h S L) (hu : Up h h') : Lg h' S L := by
  rcases hP with h | ⟨i, o, r, h1, h2⟩
  · exact .inl h
  · exact .inr ⟨i, o, r, h1, hu _ _ h2⟩
theorem Lg.sc {h : AH} {S : AV} {L : List En} (hP : Lg h S L) : S.cells = [S] ∧ S.scalar = true := by
  rcases hP with ⟨rfl, _⟩ | ⟨i, _, _, hf, _⟩
  · exact ⟨rfl, rfl⟩
  · cases S <;> simp [AV.fg] at hf <;> exact ⟨rfl, rfl⟩
/-- Own -/
theorem sp47g (k1 k2 k3 k4 : Int) (C : Nat) (n1 s1 s2 : Int) (ok : Bool) (x : List UInt8) (S : AV) (L : List En) (h : AH) (hS : Lg h S L) (hl : L.length ≤ 1000) :
    Sp T 47 [.agg [.int .i64 k1, .int .i64 k2, .int .i64 k3, .int .i64 k4, .int .u64 (C : Int), .int .i64 n1, .int .i64 s1, .int .i64 s2, .bool ok, .str (bs x), S]] h (fun v h' => ∃ S', v = .agg [.int .i64 k1, .int .i64 k2, .int .i64 k3, .int .i64 k4, .int .u64 (C : Int), .int .i64 n1, .int .i64 s1, .int .i64 s2, .bool ok, .str (bs x), S'] ∧ Po h h' S' L ∧ Up h h') := by
  have hu0 := Up.refl h
  have hSl := hS.len
  have hSc := hS.sc
  obtain ⟨sc1, sc2⟩ := hSc
  refine Sp_of (fn := f47) rfl (show W T b47 [.agg [.int .i64 k1, .int .i64 k2, .int .i64 k3, .int .i64 k4, .int .u64 (C : Int), .int .i64 n1, .int .i64 s1, .int .i64 s2, .bool ok, .str (bs x), S], .tup [], .tup [], .tup [], .tup [], .tup [], .tup [], .tup [], .tup [], .tup [], .tup [], .tup [], .tup [], .tup [], .tup [], .tup [], .tup [], .tup [], .tup [], .tup [], .tup [], .tup [], .tup [], .tup [], .tup [], .tup [], .tup [], .tup [], .tup [], .tup [], .tup [], .tup [], .tup [], .tup [], .tup [], .tup [], .tup [], .tup [], .tup [], .tup [], .tup [], .tup [], .tup [], .tup [], .tup [], .tup []] _ _ from ?_)
  unfold b47
  repeat' (first | (refine wNil ?_) | (refine xPure ?_) | (refine xMk ?_; intro id hid; (try simp only [set_none_iff] at hid); have hz := hid; (repeat (replace hz := hz.2)); (try have := Up.none hu0 hz); refine mkDo ?_) | (refine xChk ?_) | (refine xChkF ?_) | (refine xSkip ?_) | (refine cSeq ?_) | (refine cNorm ?_) | (refine cRet ?_) | (refine cExit ?_) | (refine W_reg rfl ?_) | (refine W_block ?_) | (refine W_ret ?_) | (refine W_skip ?_) | (refine W_exit ?_) | (refine bNorm ?_) | (refine bRet ?_) | (refine bExit ?_) | (refine bExitN rfl ?_) | (refine xMask ?_) | (refine xT ?_) | (refine xF ?_) | (refine xRet ?_) | (refine xNorm ?_) | (refine xSplit ?_ ?_ <;> intro hb <;> (try exact False.elim hb)) | (refine xCond ?_ ?_ <;> intro hb <;> (try exact False.elim hb)))
  rename_i b1 c1 z1 u1 b2 c2 z2 u2
  obtain ⟨b3, rfl⟩ : ∃ x, x = id := ⟨_, rfl⟩
  have n32 : b3 ≠ b2 := hid.1
  refine W_loop (fun m tm g => ∃ (k : Nat) (S' : AV), k + m = L.length ∧ Up h g ∧ g b2 = some ⟨true, [.int .i64 0, .int .i64 0, .int .i64 0, .int .i64 0, .int .u64 0, .int .i64 0, .int .i64 0, .int .i64 0, .bool false, .str ⟨#[]⟩, .nils]⟩ ∧ g b3 = some ⟨true, [.int .i64 k1, .int .i64 k2, .int .i64 k3, .int .i64 k4, .int .u64 (C : Int), .int .i64 n1, .int .i64 s1, .int .i64 s2, .bool ok, .str (bs x), S']⟩ ∧ Po h g S' (L.take k) ∧ keep [2, 3, 26, 27, 28] 0 tm = [.und, .und, .ptr b2 0, .ptr b3 0, .und, .und, .und, .und, .und, .und, .und, .und, .und, .und, .und, .und, .und, .und, .und, .und, .und, .und, .und, .und, .und, .und, S, .int .i64 (L.length : Int), .int .i64 (k : Int), .und, .und, .und, .und, .und, .und, .und, .und, .und, .und, .und, .und, .und, .und, .und, .und, .und]) L.length ⟨0, .nils, by omega, (by repeat' (first | assumption | exact Up.refl _ | refine Up.new ?_ ?_)), by simp only [set_ne, set_ne', set_same, ne_eq, not_false_eq_true, n32, Ne.symm n32, *], set_same, .inl ⟨rfl, by simp⟩, rfl⟩ ?_
  have hb3 := hz
  have hb2 := z2
  clear hid hz u2 u1 z2 z1 c2 c1 hu0 this
  rintro m tm g ⟨k, S', hk, hu, h2, h3, hP, htm⟩
  refine cSeq (cMask (cNorm ?_))
  rw [htm]; clear htm
  by_cases hkl : k < L.length
  · have d1 : (k : Int) < (L.length : Int) := by omega
    have d2 : (0 : Int) ≤ (k : Int) := by omega
    have w1 : IntKind.i64.wrap ((k : Int) + 1) = ((k + 1 : Nat) : Int) := by rw [wrap64 (by omega) (by omega)]; rfl
    obtain ⟨⟨y1, y2, y3, y4⟩, hy⟩ : ∃ y, L[k]? = some y := ⟨_, List.getElem?_eq_getElem hkl⟩
    have htk : L.take (k + 1) = L.take k ++ [(y1, y2, y3, y4)] := by rw [List.take_add_one, hy]; rfl
    rcases hS with ⟨rfl, rfl⟩ | ⟨iL, own, rest, hfg, hL⟩
    · simp at hkl
    have hLg := hu _ _ hL
    obtain ⟨g1, g2⟩ := flat_get eMz hy rest
    simp only [eM] at g2
    have hpl : (L.take k).length = k := by rw [List.length_take]; omega
    have r2 : 40 ≤ roomMost := by unfold roomMost; omega
    rcases hP with ⟨rfl, e0⟩ | ⟨j, j1, rfl, hj⟩
    · clear hpl
      repeat' (first | (refine wNil ?_) | (refine xPure ?_) | (refine xMk ?_; intro id hid; (try simp only [set_none_iff] at hid); have hz := hid; (repeat (replace hz := hz.2)); (try have := nei h2 hz); (try have := nei h3 hz); (try have := nei hLg hz); (try have := Up.none hu hz); refine mkDo ?_) | (refine xChk ?_) | (refine xChkF ?_) | (refine xSkip ?_) | (refine cSeq ?_) | (refine cNorm ?_) | (refine cRet ?_) | (refine cExit ?_) | (refine W_reg rfl ?_) | (refine W_block ?_) | (refine W_ret ?_) | (refine W_skip ?_) | (refine W_exit ?_) | (refine bNorm ?_) | (refine bRet ?_) | (refine bExit ?_) | (refine bExitN rfl ?_) | (refine xMask ?_) | (refine xT ?_) | (refine xF ?_) | (refine xRet ?_) | (refine xNorm ?_) | (refine xSplit ?_ ?_ <;> intro hb <;> (try exact False.elim hb)) | (refine xCond ?_ ?_ <;> intro hb <;> (try exact False.elim hb)))
      exact ⟨m - 1, by omega, k + 1, .slc id 0 1 4, by omega, (by repeat' (first | assumption | exact Up.refl _ | refine Up.new ?_ ?_)), by simp only [set_ne, set_ne', ne_eq, not_false_eq_true, *], set_same, .inr ⟨id, by assumption, by rw [htk, e0]; rfl, by rw [htk, e0, set_ne (Ne.symm (by assumption)), set_same]; rfl⟩, by simp only [keep, List.contains_cons, List.contains_nil, Nat.reduceBEq, Bool.or_true, Bool.true_or, Bool.or_false, Bool.false_or, if_true, if_false, Bool.false_eq_true, beq_self_eq_true, Nat.zero_add, Nat.reduceAdd, eq_self]⟩
    · have r1 : ((L.take k).length + 1) * 40 ≤ roomMost := by rw [hpl]; unfold roomMost; omega
      have r3 := flat_len eMz (L.take k)
      have r4 : List.take ((L.take k).length * 4) ((L.take k).flatMap eM) = (L.take k).flatMap eM := List.take_of_length_le (by omega)
      have nj3 : j ≠ b3 := fun e => by
        subst e; rw [hj] at h3
        have := congrArg (fun b => (b.map fun b => b.cells.length)) h3
        simp [r3] at this; omega
      have nj2 : j ≠ b2 := fun e => by
        subst e; rw [hj] at h2
        have := congrArg (fun b => (b.map fun b => b.cells.length)) h2
        simp [r3] at this; omega
      clear hpl
      repeat' (first | (refine wNil ?_) | (refine xPure ?_) | (refine xMk ?_; intro id hid; (try simp only [set_none_iff] at hid); have hz := hid; (repeat (replace hz := hz.2)); (try have := nei h2 hz); (try have := nei h3 hz); (try have := nei hLg hz); (try have := nei hj hz); (try have := Up.none hu hz); refine mkDo ?_) | (refine xChk ?_) | (refine xChkF ?_) | (refine xSkip ?_) | (refine cSeq ?_) | (refine cNorm ?_) | (refine cRet ?_) | (refine cExit ?_) | (refine W_reg rfl ?_) | (refine W_block ?_) | (refine W_ret ?_) | (refine W_skip ?_) | (refine W_exit ?_) | (refine bNorm ?_) | (refine bRet ?_) | (refine bExit ?_) | (refine bExitN rfl ?_) | (refine xMask ?_) | (refine xT ?_) | (refine xF ?_) | (refine xRet ?_) | (refine xNorm ?_) | (refine xSplit ?_ ?_ <;> intro hb <;> (try exact False.elim hb)) | (refine xCond ?_ ?_ <;> intro hb <;> (try exact False.elim hb)))
      exact ⟨m - 1, by omega, k + 1, .slc id 0 ((L.take k).length + 1) 4, by omega, (by repeat' (first | assumption | exact Up.refl _ | refine Up.new ?_ ?_)), by simp only [set_ne, set_ne', ne_eq, not_false_eq_true, *], set_same, .inr ⟨id, by assumption, by rw [htk, List.length_append]; rfl, by rw [htk, set_ne (Ne.symm (by assumption)), set_same, List.flatMap_append]; rfl⟩, by simp only [keep, List.contains_cons, List.contains_nil, Nat.reduceBEq, Bool.or_true, Bool.true_or, Bool.or_false, Bool.false_or, if_true, if_false, Bool.false_eq_true, beq_self_eq_true, Nat.zero_add, Nat.reduceAdd, eq_self]⟩
  · have d1 : ¬ (k : Int) < (L.length : Int) := by omega
    rw [List.take_of_length_le (by omega)] at hP
    have sc3 : S'.scalar = true := by rcases hP with ⟨rfl, _⟩ | ⟨j, _, rfl, _⟩ <;> rfl
    repeat' (first | (refine wNil ?_) | (refine xPure ?_) | (refine xMk ?_; intro id hid; (try simp only [set_none_iff] at hid); refine mkDo ?_) | (refine xChk ?_) | (refine xChkF ?_) | (refine xSkip ?_) | (refine cSeq ?_) | (refine cNorm ?_) | (refine cRet ?_) | (refine cExit ?_) | (refine W_reg rfl ?_) | (refine W_block ?_) | (refine W_ret ?_) | (refine W_skip ?_) | (refine W_exit ?_) | (refine bNorm ?_) | (refine bRet ?_) | (refine bExit ?_) | (refine bExitN rfl ?_) | (refine xMask ?_) | (refine xT ?_) | (refine xF ?_) | (refine xRet ?_) | (refine xNorm ?_) | (refine xSplit ?_ ?_ <;> intro hb <;> (try exact False.elim hb)) | (refine xCond ?_ ?_ <;> intro hb <;> (try exact False.elim hb)))
    all_goals (refine ⟨[.agg [.int .i64 k1, .int .i64 k2, .int .i64 k3, .int .i64 k4, .int .u64 (C : Int), .int .i64 n1, .int .i64 s1, .int .i64 s2, .bool ok, .str (bs x), S']], (by simp [ares, ares1, f47, ev, AH.cellsAt, AH.cell, set_same, set_ne', *]), S', rfl, ?_, Up.new hu hb2⟩)
    rcases hP with hP | ⟨j, j1, j2, j3⟩
    · exact .inl hP
    · refine .inr ⟨j, j1, j2, ?_⟩
      rw [set_ne]; exact j3
      rintro rfl
      rw [j3] at h2
      have := congrArg (fun b => (b.map fun b => b.cells.length)) h2
      simp [flat_len eMz] at this; omega
theorem sp47 (k1 k2 k3 k4 : Int) (C : Nat) (n1 s1 s2 : Int) (ok : Bool) (x : List UInt8) (S : AV) (L : List En) (h : AH) (hS : Le h S L) (hl : L.length ≤ 1000) :
    Sp T 47 [.agg [.int .i64 k1, .int .i64 k2, .int .i64 k3, .int .i64 k4, .int .u64 (C : Int), .int .i64 n1, .int .i64 s1, .int .i64 s2, .bool ok, .str (bs x), S]] h (fun v h' => ∃ S', v = .agg [.int .i64 k1, .int .i64 k2, .int .i64 k3, .int .i64 k4, .int .u64 (C : Int), .int .i64 n1, .int .i64 s1, .int .i64 s2, .bool ok, .str (bs x), S'] ∧ Po h h' S' L ∧ Up h h') := sp47g k1 k2 k3 k4 C n1 s1 s2 ok x S L h hS.lg hl
end Go.Proofs.YtgekngfnhhdamaaI
set_option linter.unusedVariables false
set_option linter.unusedSimpArgs false
set_option maxRecDepth 100000
set_option maxHeartbeats 4000000
namespace Go.Proofs.YtgekngfnhhdamaaI
open Go Go.Proofs.YtgekngfnhhdamaaM
attribute [local go_sem] aop ev fg_slc fg_slk fg_ptr fg_bool fg_int fg_str fg_iface fg_func fg_agg fg_tup fg_nils fg_nilp fg_nilI fg_nilF fg_und aboundsK alen_nils alen_slc alen_slk aslice_nils aslice_slc aslice_slk awanted abin aun aint aeqn aeqc aeqs apart abounds abnd amaxi amaxiGo cells_agg cells_slc cells_slk cells_ptr cells_bool cells_int cells_str cells_iface cells_func cells_tup cells_nils cells_nilp cells_nilI cells_nilF cells_und sc_slc sc_slk sc_ptr sc_bool sc_int sc_str sc_iface sc_func sc_nils sc_nilp sc_nilI sc_nilF gd_zero gd_succ List.all_cons List.all_nil Bool.and_self Bool.and_true Bool.true_and List.length_cons List.length_nil Option.map_some Option.some.injEq cell_same cell_ne cell_ne' cellsAt_same cellsAt_ne cellsAt_ne' put_same put_of set_same set_ne set_ne' List.getElem?_cons_zero List.getElem?_cons_succ if_true if_false and_self and_true true_and ne_eq not_true_eq_false not_false_eq_true decide_true decide_false Bool.false_eq_true Bool.true_eq_false beq_self_eq_true bne_self_eq_false beq_true beq_false Bool.not_true Bool.not_false List.map_cons List.map_nil putL List.set_cons_zero List.set_cons_succ afill Nat.zero_le Nat.le_refl Nat.zero_add Nat.add_zero List.drop_zero List.drop_succ_cons List.take_zero List.take_succ_cons Bool.not_eq_true Bool.not_eq_false decide_eq_true_eq decide_eq_false_iff_not Int.toNat_zero Nat.sub_zero Int.toNat_natCast Bool.bne_true Bool.bne_false AH.cell AH.cellsAt AH.put Nat.mul_one Nat.one_mul Int.natCast_nonneg List.length_set bs_append bs_size bs_toList bs_extract bs_get List.append_nil Nat.sub_zero bne_self_eq_false beq_self_eq_true azeros Int.le_refl aapp
/-- A list of entries in a block of its own, that is neither of two others. -/
def Pl (h0 B : AH) (b2 b8 : List Nat) (S : AV) (L : List En) : Prop := S = .nils ∧ L = [] ∨ ∃ j, h0 j = none ∧ j ≠ b2 ∧ j ≠ b8 ∧ S = .slc j 0 L.length 4 ∧ B j = some ⟨true, L.flatMap eM⟩
theorem Pl.up {h0 B B' : AH} {b2 b8 : List Nat} {S : AV} {L : List En} (h : Pl h0 B b2 b8 S L) (hu : Sub B B') : Pl h0 B' b2 b8 S L := by
  rcases h with h | ⟨j, a, d, e, b, c⟩
  · exact .inl h
  · exact .inr ⟨j, a, d, e, b, hu _ _ c⟩
/-- What Parse holds: its result, its message. -/
def Bl (h0 B : AH) (b2 b8 : List Nat) (cs : List AV) : Prop := Up h0 B ∧ h0 b2 = none ∧ h0 b8 = none ∧ b2 ≠ b8 ∧ B b2 = some ⟨true, [.int .i64 0, .int .i64 0, .int .i64 0, .int .i64 0, .int .u64 0, .int .i64 0, .int .i64 0, .int .i64 0, .bool false, .str ⟨#[]⟩, .nils]⟩ ∧ B b8 = some ⟨true, cs⟩
def lpG : Nat → List UInt8 → Int → Int → List UInt8 × Int × List En
  | 0, s, e, _ => (s, e, [])
  | n + 1, s, e, last => if e = 0 then ((lpG n (eG s e last).1 (eG s e last).2.1 (eG s e last).2.2.1).1, (lpG n (eG s e last).1 (eG s e last).2.1 (eG s e last).2.2.1).2.1, (eG s e last).2.2 :: (lpG n (eG s e last).1 (eG s e last).2.1 (eG s e last).2.2.1).2.2) else (s, e, [])
theorem lpG_stop {n : Nat} {s : List UInt8} {e last : Int} (h : n = 0 ∨ ¬ e = 0) : lpG n s e last = (s, e, []) := by
  cases n with
  | zero => rfl
  | succ n =>
    rcases h with h | h
    · exact absurd h (by omega)
    · unfold lpG; rw [if_neg h]
def exE (inn s : List UInt8) (e : Int) : Int := if inn.length + 8 = s.length then e else fl e 4
def L55c : ICode := (.seq (.block 1 (.loop (.seq (.mask [0, 2, 5, 7, 8, 9, 10]) (.seq (.seq (.reg [(0, false), (1, false), (2, false), (3, false), (4, false), (5, false), (6, false)] r55_17)
 (.cond (.t 64) .skip
 (.exit 1)))
 (.seq (.seq (.block 2 (.seq (.reg [(0, false), (1, false), (2, false), (3, false), (4, false)] r55_18)
 (.seq (.reg [(0, false), (1, false), (2, false), (3, false), (4, false), (5, false), (6, false)] r55_19)
 (.reg [(0, false), (1, false), (2, false)] r55_20)))) (.mask [0, 2, 5, 7, 8, 9, 10]))
 (.reg [(0, false), (1, false), (2, false)] r55_21)))))) (.mask [0, 2, 5, 7, 8]))
def R55c : ICode := (.seq (.seq (.reg [(0, false), (1, false), (2, false), (3, false), (4, false), (5, false)] r55_22)
 (.seq (.cond (.t 83) (.reg [(0, false), (1, false)] r55_23)
 .skip) (.mask [2, 7, 8])))
 (.seq (.seq (.reg [(0, false), (1, false), (2, false)] r55_24)
 (.seq (.reg [(0, false), (1, false)] r55_25)
 (.cond (.t 89) (.seq (.reg [(0, false), (1, false), (2, false), (3, false)] r55_26)
 .ret)
 .skip)))
 (.seq (.reg [(0, false), (1, false), (2, false)] r55_27)
 .ret)))
/-- What Parse comes to. -/
def PQ (h0 : AH) (k1 k2 k3 k4 : Int) (C : Nat) (n1 s1 s2 : Int) (ok : Bool) (x : List UInt8) (L : List En) (ef : Int) (v : AV) (h' : AH) : Prop :=
  (ef = 0 → ∃ S, v = .tup [.agg [.int .i64 k1, .int .i64 k2, .int .i64 k3, .int .i64 k4, .int .u64 (C : Int), .int .i64 n1, .int .i64 s1, .int .i64 s2, .bool ok, .str (bs x), S], .int .i64 0] ∧ Po h0 h' S L ∧ Up h0 h') ∧ (¬ ef = 0 → v = .tup [.agg [.int .i64 0, .int .i64 0, .int .i64 0, .int .i64 0, .int .u64 0, .int .i64 0, .int .i64 0, .int .i64 0, .bool false, .str ⟨#[]⟩, .nils], .int .i64 ef] ∧ Up h0 h')
theorem PQ.good {h0 : AH} {k1 k2 k3 k4 : Int} {C : Nat} {n1 s1 s2 : Int} {ok : Bool} {x : List UInt8} {L : List En} {v : AV} {h' : AH} (S : AV) (h1 : v = .tup [.agg [.int .i64 k1, .int .i64 k2, .int .i64 k3, .int .i64 k4, .int .u64 (C : Int), .int .i64 n1, .int .i64 s1, .int .i64 s2, .bool ok, .str (bs x), S], .int .i64 0]) (h2 : Po h0 h' S L) (h3 : Up h0 h') : PQ h0 k1 k2 k3 k4 C n1 s1 s2 ok x L 0 v h' := by
  exact ⟨fun _ => ⟨S, h1, h2, h3⟩, fun h => absurd rfl h⟩
theorem PQ.bad {h0 : AH} {k1 k2 k3 k4 : Int} {C : Nat} {n1 s1 s2 : Int} {ok : Bool} {x : List UInt8} {L : List En} {v : AV} {h' : AH} {ef : Int} (hz : ¬ ef = 0) (h1 : v = .tup [.agg [.int .i64 0, .int .i64 0, .int .i64 0, .int .i64 0, .int .u64 0, .int .i64 0, .int .i64 0, .int .i64 0, .bool false, .str ⟨#[]⟩, .nils], .int .i64 ef]) (h3 : Up h0 h') : PQ h0 k1 k2 k3 k4 C n1 s1 s2 ok x L ef v h' := by
  exact ⟨fun h => absurd h hz, fun _ => ⟨h1, h3⟩⟩
theorem tail55 (h0 B g : AH) (b2 b8 p : List Nat) (inn s R : List UInt8) (e : Int) (k1 k2 k3 k4 : Int) (C : Nat) (n1 s1 s2 : Int) (ok : Bool) (x : List UInt8) (S : AV) (L : List En) (hB : Bl h0 B b2 b8 [.int .i64 k1, .int .i64 k2, .int .i64 k3, .int .i64 k4, .int .u64 (C : Int), .int .i64 n1, .int .i64 s1, .int .i64 s2, .bool ok, .str (bs x), S]) (hP : Pl h0 B b2 b8 S L) (hr : Rd B p g R e) (hs : s.length ≤ 1000000000) (hi : inn.length ≤ 1000000000) :
    W T R55c [.str (bs s), .und, .ptr b2 0, .und, .und, .str (bs inn), .und, .ptr p 0, .ptr b8 0, .und, .und, .und, .und, .und, .und, .und, .und, .und, .und, .und, .und, .und, .und, .und, .und, .und, .und, .und, .und, .und, .und, .und, .und, .und, .und, .und, .und, .und, .und, .und, .und, .und, .und, .und, .und, .und, .und, .und, .und, .und, .und, .und, .und, .und, .und, .und, .und, .und, .und, .und, .und, .und, .und, .und, .und, .und, .und, .und, .und, .und, .und, .und, .und, .und, .und, .und, .und, .und, .und, .und, .und, .und, .und, .und, .und, .und, .und, .und, .und, .und, .und, .und, .und] g (Rets f55 (PQ h0 k1 k2 k3 k4 C n1 s1 s2 ok x L (dn R (exE inn s e)))) := by
  obtain ⟨hu, n2, n8, n28, hb2, hb8⟩ := hB
  have hp := hr.2.2
  have g2 := hr.1 _ _ hb2
  have g8 := hr.1 _ _ hb8
  have sc : S.scalar = true ∧ S.cells = [S] := by rcases hP with ⟨rfl, _⟩ | ⟨j, _, _, _, rfl, _⟩ <;> exact ⟨rfl, rfl⟩
  obtain ⟨sc1, sc2⟩ := sc
  have w1 : IntKind.i64.wrap ((inn.length : Int) + 8) = ((inn.length + 8 : Nat) : Int) := by rw [wrap64 (by omega) (by omega)]; rfl
  unfold R55c
  by_cases c : inn.length + 8 = s.length
  · have c1 : (((inn.length + 8 : Nat) : Int) != (s.length : Int)) = false := by rw [c]; simp
    have e1 : exE inn s e = e := if_pos c
    rw [e1]
    have k29 : ∀ h, Rd B p h R e → Sp T 29 [.ptr p 0] h (fun r h' => r = .int .i64 (dn R e) ∧ Rd B p h' R (dn R e)) := fun h hr => sp29 B p R e h hr
    obtain ⟨ef, hef⟩ : ∃ z, dn R e = z := ⟨_, rfl⟩
    rw [hef] at k29 ⊢
    clear hef c
    by_cases z : ef = 0
    · subst z
      repeat' (first | (refine wNil ?_) | (refine xPure ?_) | (refine xMk ?_; intro id hid; (try simp only [set_none_iff] at hid); have hz := hid; (repeat (replace hz := hz.2)); (try have := nei g24 hz); (try have := nei g84 hz); refine mkDo ?_) | (refine xChk ?_) | (refine xChkF ?_) | (refine xSkip ?_) | (refine xCall rfl rfl (k29 _ (hr)) ?_; rintro r g4 ⟨rfl, hr4⟩; have g24 := hr4.1 _ _ hb2; have g84 := hr4.1 _ _ hb8; refine nTm ?_) | (refine cSeq ?_) | (refine cNorm ?_) | (refine cRet ?_) | (refine cExit ?_) | (refine W_reg rfl ?_) | (refine W_block ?_) | (refine W_ret ?_) | (refine W_skip ?_) | (refine W_exit ?_) | (refine bNorm ?_) | (refine bRet ?_) | (refine bExit ?_) | (refine bExitN rfl ?_) | (refine xMask ?_) | (refine xT ?_) | (refine xF ?_) | (refine xRet ?_) | (refine xNorm ?_) | (refine xSplit ?_ ?_ <;> intro hb <;> (try exact False.elim hb)) | (refine xCond ?_ ?_ <;> intro hb <;> (try exact False.elim hb)))
      all_goals (refine ⟨[.agg [.int .i64 k1, .int .i64 k2, .int .i64 k3, .int .i64 k4, .int .u64 (C : Int), .int .i64 n1, .int .i64 s1, .int .i64 s2, .bool ok, .str (bs x), S], .int .i64 0], (by simp [ares, ares1, f55, ev, AH.cellsAt, AH.cell, set_same, set_ne', *]), PQ.good S rfl ?_ ?_⟩)
      · have hP4 := hP.up hr4.1
        rcases hP4 with ⟨a, b⟩ | ⟨j, a, d, f, b, c⟩
        · exact .inl ⟨a, b⟩
        · exact .inr ⟨j, a, b, by rw [set_ne d]; exact c⟩
      · exact fun z b e => by rw [set_ne (nei e n2)]; exact hr4.1 z b (hu z b e)
    · have z1 : (ef != 0) = true := by simpa using z
      repeat' (first | (refine wNil ?_) | (refine xPure ?_) | (refine xMk ?_; intro id hid; (try simp only [set_none_iff] at hid); have hz := hid; (repeat (replace hz := hz.2)); (try have := nei g24 hz); (try have := nei g84 hz); refine mkDo ?_) | (refine xChk ?_) | (refine xChkF ?_) | (refine xSkip ?_) | (refine xCall rfl rfl (k29 _ (hr)) ?_; rintro r g4 ⟨rfl, hr4⟩; have g24 := hr4.1 _ _ hb2; have g84 := hr4.1 _ _ hb8; refine nTm ?_) | (refine cSeq ?_) | (refine cNorm ?_) | (refine cRet ?_) | (refine cExit ?_) | (refine W_reg rfl ?_) | (refine W_block ?_) | (refine W_ret ?_) | (refine W_skip ?_) | (refine W_exit ?_) | (refine bNorm ?_) | (refine bRet ?_) | (refine bExit ?_) | (refine bExitN rfl ?_) | (refine xMask ?_) | (refine xT ?_) | (refine xF ?_) | (refine xRet ?_) | (refine xNorm ?_) | (refine xSplit ?_ ?_ <;> intro hb <;> (try exact False.elim hb)) | (refine xCond ?_ ?_ <;> intro hb <;> (try exact False.elim hb)))
      all_goals (refine ⟨[.agg [.int .i64 0, .int .i64 0, .int .i64 0, .int .i64 0, .int .u64 0, .int .i64 0, .int .i64 0, .int .i64 0, .bool false, .str ⟨#[]⟩, .nils], .int .i64 ef], (by simp [ares, ares1, f55, ev, AH.cellsAt, AH.cell, set_same, set_ne', *]), PQ.bad z rfl ?_⟩)
      exact fun z b e => by rw [set_ne (nei e n2)]; exact hr4.1 z b (hu z b e)
  · have c1 : (((inn.length + 8 : Nat) : Int) != (s.length : Int)) = true := by rw [bne_iff_ne]; omega
    have e1 : exE inn s e = fl e 4 := if_neg c
    rw [e1]
    have k29 : ∀ h, Rd B p h R (fl e 4) → Sp T 29 [.ptr p 0] h (fun r h' => r = .int .i64 (dn R (fl e 4)) ∧ Rd B p h' R (dn R (fl e 4))) := fun h hr => sp29 B p R _ h hr
    have hd0 : ¬ dn R (fl e 4) = 0 := by
      unfold dn fl
      split <;> split <;> (try split) <;> omega
    obtain ⟨ef, hef⟩ : ∃ z, dn R (fl e 4) = z := ⟨_, rfl⟩
    rw [hef] at k29 hd0 ⊢
    clear hef c
    have z1 : (ef != 0) = true := by simpa using hd0
    repeat' (first | (refine wNil ?_) | (refine xPure ?_) | (refine xMk ?_; intro id hid; (try simp only [set_none_iff] at hid); have hz := hid; (repeat (replace hz := hz.2)); (try have := nei g24 hz); (try have := nei g84 hz); refine mkDo ?_) | (refine xChk ?_) | (refine xChkF ?_) | (refine xSkip ?_) | (refine xCall rfl rfl (sp32 B p R e 4 _ hr) ?_; rintro r g3 hr3; have hp3 := hr3.2.2; have g23 := hr3.1 _ _ hb2; have g83 := hr3.1 _ _ hb8; refine nTm ?_) | (refine xCall rfl rfl (k29 _ (hr3)) ?_; rintro r g4 ⟨rfl, hr4⟩; have g24 := hr4.1 _ _ hb2; have g84 := hr4.1 _ _ hb8; refine nTm ?_) | (refine cSeq ?_) | (refine cNorm ?_) | (refine cRet ?_) | (refine cExit ?_) | (refine W_reg rfl ?_) | (refine W_block ?_) | (refine W_ret ?_) | (refine W_skip ?_) | (refine W_exit ?_) | (refine bNorm ?_) | (refine bRet ?_) | (refine bExit ?_) | (refine bExitN rfl ?_) | (refine xMask ?_) | (refine xT ?_) | (refine xF ?_) | (refine xRet ?_) | (refine xNorm ?_) | (refine xSplit ?_ ?_ <;> intro hb <;> (try exact False.elim hb)) | (refine xCond ?_ ?_ <;> intro hb <;> (try exact False.elim hb)))
    all_goals (refine ⟨[.agg [.int .i64 0, .int .i64 0, .int .i64 0, .int .i64 0, .int .u64 0, .int .i64 0, .int .i64 0, .int .i64 0, .bool false, .str ⟨#[]⟩, .nils], .int .i64 ef], (by simp [ares, ares1, f55, ev, AH.cellsAt, AH.cell, set_same, set_ne', *]), PQ.bad hd0 rfl ?_⟩)
    exact fun z b e => by rw [set_ne (nei e n2)]; exact hr4.1 z b (hu z b e)
theorem loop55 (h0 B g : AH) (b2 b8 p : List Nat) (inn s R : List UInt8) (e : Int) (k1 k2 k3 k4 : Int) (C : Nat) (n1 s1 s2 : Int) (ok : Bool) (x : List UInt8) (S : AV) (L : List En) (hB : Bl h0 B b2 b8 [.int .i64 k1, .int .i64 k2, .int .i64 k3, .int .i64 k4, .int .u64 (C : Int), .int .i64 n1, .int .i64 s1, .int .i64 s2, .bool ok, .str (bs x), S]) (hP : Pl h0 B b2 b8 S L) (hr : Rd B p g R e) (hs : s.length ≤ 1000000000) (hi : inn.length ≤ 1000000000) (n : Nat) (hn : n ≤ 64) (hL : L.length = 0) (tm : List AV) (htm : keep [0, 2, 5, 7, 8, 9, 10] 0 tm = [.str (bs s), .und, .ptr b2 0, .und, .und, .str (bs inn), .und, .ptr p 0, .ptr b8 0, .int .i64 (-1), .int .i64 (n : Int), .und, .und, .und, .und, .und, .und, .und, .und, .und, .und, .und, .und, .und, .und, .und, .und, .und, .und, .und, .und, .und, .und, .und, .und, .und, .und, .und, .und, .und, .und, .und, .und, .und, .und, .und, .und, .und, .und, .und, .und, .und, .und, .und, .und, .und, .und, .und, .und, .und, .und, .und, .und, .und, .und, .und, .und, .und, .und, .und, .und, .und, .und, .und, .und, .und, .und, .und, .und, .und, .und, .und, .und, .und, .und, .und, .und, .und, .und, .und, .und, .und, .und]) :
    W T L55c tm g (Then (fun tm' h' => W T R55c tm' h' (Rets f55 (PQ h0 k1 k2 k3 k4 C n1 s1 s2 ok x (lpG n R e (-1)).2.2 (dn (lpG n R e (-1)).1 (exE inn s (lpG n R e (-1)).2.1))))) (Rets f55 (PQ h0 k1 k2 k3 k4 C n1 s1 s2 ok x (lpG n R e (-1)).2.2 (dn (lpG n R e (-1)).1 (exE inn s (lpG n R e (-1)).2.1))))) := by
  obtain rfl : L = [] := List.eq_nil_of_length_eq_zero hL
  unfold L55c
  refine cSeq ?_
  refine W_block ?_
  obtain ⟨Fi, hFi⟩ : ∃ z, lpG n R e (-1) = z := ⟨_, rfl⟩
  rw [hFi]
  refine W_loop (fun m tm g => ∃ (B : AH) (R : List UInt8) (e last : Int) (S : AV) (L : List En), m ≤ 64 ∧ L.length ≤ 64 - m ∧ Bl h0 B b2 b8 [.int .i64 k1, .int .i64 k2, .int .i64 k3, .int .i64 k4, .int .u64 (C : Int), .int .i64 n1, .int .i64 s1, .int .i64 s2, .bool ok, .str (bs x), S] ∧ Pl h0 B b2 b8 S L ∧ Rd B p g R e ∧ Fi = ((lpG m R e last).1, (lpG m R e last).2.1, L ++ (lpG m R e last).2.2) ∧ keep [0, 2, 5, 7, 8, 9, 10] 0 tm = [.str (bs s), .und, .ptr b2 0, .und, .und, .str (bs inn), .und, .ptr p 0, .ptr b8 0, .int .i64 last, .int .i64 (m : Int), .und, .und, .und, .und, .und, .und, .und, .und, .und, .und, .und, .und, .und, .und, .und, .und, .und, .und, .und, .und, .und, .und, .und, .und, .und, .und, .und, .und, .und, .und, .und, .und, .und, .und, .und, .und, .und, .und, .und, .und, .und, .und, .und, .und, .und, .und, .und, .und, .und, .und, .und, .und, .und, .und, .und, .und, .und, .und, .und, .und, .und, .und, .und, .und, .und, .und, .und, .und, .und, .und, .und, .und, .und, .und, .und, .und, .und, .und, .und, .und, .und, .und]) n ⟨B, R, e, -1, S, [], hn, by simp, hB, hP, hr, by rw [hFi]; rfl, htm⟩ ?_
  clear htm hr hP hB hFi hL
  rintro m tm g ⟨B, R, e, last, S, L, hm, hlen, hB, hP, hr, hF, htm⟩
  refine cSeq (cMask (cNorm ?_))
  rw [htm]; clear htm
  have hB' := hB
  obtain ⟨hu, n2, n8, n28, hb2, hb8⟩ := hB
  have hp := hr.2.2
  have g2 := hr.1 _ _ hb2
  have g8 := hr.1 _ _ hb8
  cases m with
  | zero =>
    have d1 : ¬ ((0 : Nat) : Int) > 0 := by omega
    rw [lpG_stop (.inl rfl), List.append_nil] at hF
    rw [hF]
    repeat' (first | (refine wNil ?_) | (refine xPure ?_) | (refine xMk ?_; intro id hid; (try simp only [set_none_iff] at hid); refine mkDo ?_) | (refine xChk ?_) | (refine xChkF ?_) | (refine xSkip ?_) | (exact tail55 h0 B g b2 b8 p inn s R e k1 k2 k3 k4 C n1 s1 s2 ok x S L hB' hP hr hs hi) | (refine cSeq ?_) | (refine cNorm ?_) | (refine cRet ?_) | (refine cExit ?_) | (refine W_reg rfl ?_) | (refine W_block ?_) | (refine W_ret ?_) | (refine W_skip ?_) | (refine W_exit ?_) | (refine bNorm ?_) | (refine bRet ?_) | (refine bExit ?_) | (refine bExitN rfl ?_) | (refine xMask ?_) | (refine xT ?_) | (refine xF ?_) | (refine xRet ?_) | (refine xNorm ?_) | (refine xSplit ?_ ?_ <;> intro hb <;> (try exact False.elim hb)) | (refine xCond ?_ ?_ <;> intro hb <;> (try exact False.elim hb)))
  | succ m =>
    have d1 : ((m + 1 : Nat) : Int) > 0 := by omega
    by_cases he : e = 0
    · subst he
      have w1 : IntKind.i64.wrap (((m + 1 : Nat) : Int) - 1) = (m : Int) := by rw [wrap64 (by omega) (by omega)]; omega
      rw [show lpG (m + 1) R 0 last = ((lpG m (eG R 0 last).1 (eG R 0 last).2.1 (eG R 0 last).2.2.1).1, (lpG m (eG R 0 last).1 (eG R 0 last).2.1 (eG R 0 last).2.2.1).2.1, (eG R 0 last).2.2 :: (lpG m (eG R 0 last).1 (eG R 0 last).2.1 (eG R 0 last).2.2.1).2.2) from if_pos rfl] at hF
      have k78 : ∀ h, Rd B p h R 0 → Sp T 78 [.ptr p 0, .int .i64 last] h (fun r h' => r = .agg (eM (eG R 0 last).2.2) ∧ Rd B p h' (eG R 0 last).1 (eG R 0 last).2.1) := fun h hr => sp78 B p R 0 last h hr
      obtain ⟨⟨R2, e2, y1, y2, y3, y4⟩, hq⟩ : ∃ q, eG R 0 last = q := ⟨_, rfl⟩
      simp only [hq, eM] at k78 hF
      clear hq
      have r2 : 40 ≤ roomMost := by unfold roomMost; omega
      rcases hP with ⟨rfl, rfl⟩ | ⟨j, j1, j2, j3, rfl, hj⟩
      · repeat' (first | (refine wNil ?_) | (refine xPure ?_) | (refine xMk ?_; intro id hid; (try simp only [set_none_iff] at hid); have hz := hid; (repeat (replace hz := hz.2)); (try have := nei g25 hz); (try have := nei g85 hz); (try have := nei hp5 hz); refine mkDo ?_) | (refine xChk ?_) | (refine xChkF ?_) | (refine xSkip ?_) | (refine xCall rfl rfl (sp26 B p R 0 _ hr) ?_; rintro r h' ⟨rfl, hx⟩; cases hx; refine nTm ?_) | (refine xCall rfl rfl (k78 _ hr) ?_; rintro r g5 ⟨rfl, hr5⟩; have hp5 := hr5.2.2; have g25 := hr5.1 _ _ hb2; have g85 := hr5.1 _ _ hb8; refine nTm ?_) | (refine cSeq ?_) | (refine cNorm ?_) | (refine cRet ?_) | (refine cExit ?_) | (refine W_reg rfl ?_) | (refine W_block ?_) | (refine W_ret ?_) | (refine W_skip ?_) | (refine W_exit ?_) | (refine bNorm ?_) | (refine bRet ?_) | (refine bExit ?_) | (refine bExitN rfl ?_) | (refine xMask ?_) | (refine xT ?_) | (refine xF ?_) | (refine xRet ?_) | (refine xNorm ?_) | (refine xSplit ?_ ?_ <;> intro hb <;> (try exact False.elim hb)) | (refine xCond ?_ ?_ <;> intro hb <;> (try exact False.elim hb)))
        have hBid : B id = none := hr5.1.no hz
        have h0id : h0 id = none := Sub.no (show Sub h0 B from hu) hBid
        have n2id : id ≠ b2 := nei' hb2 hBid
        have n8id : id ≠ b8 := nei' hb8 hBid
        have nid : id ≠ p := Ne.symm (nei hp5 hz)
        have n8p : b8 ≠ p := nei hb8 hr.2.1
        refine ⟨m, by omega, (B.set id (some ⟨true, [.int .i64 y1, .int .u64 (y2 : Int), .int .i64 y3, .str (bs y4)]⟩)).set b8 (some ⟨true, [.int .i64 k1, .int .i64 k2, .int .i64 k3, .int .i64 k4, .int .u64 (C : Int), .int .i64 n1, .int .i64 s1, .int .i64 s2, .bool ok, .str (bs x), .slc id 0 1 4]⟩), R2, e2, y1, .slc id 0 1 4, [(y1, y2, y3, y4)], by omega, by simp; omega, ⟨?_, n2, n8, n28, ?_, set_same⟩, ?_, ?_, by rw [hF]; rfl, by simp only [keep, List.contains_cons, List.contains_nil, Nat.reduceBEq, Bool.or_true, Bool.true_or, Bool.or_false, Bool.false_or, if_true, if_false, Bool.false_eq_true, beq_self_eq_true, Nat.zero_add, Nat.reduceAdd, eq_self]⟩
        · exact Sub.set (Sub.set hu h0id) n8
        · exact (set_ne n28).trans ((set_ne (Ne.symm n2id)).trans hb2)
        · exact .inr ⟨id, h0id, n2id, n8id, rfl, (set_ne n8id).trans set_same⟩
        · exact Rd.both (Rd.both (Rd.more (Rd.more2 hr5 (by assumption)) (by simp only [set_none_iff]; assumption)) nid) n8p
      · have r1 : (L.length + 1) * 40 ≤ roomMost := by unfold roomMost; omega
        have r3 := flat_len eMz L
        have r4 : List.take (L.length * 4) (L.flatMap eM) = L.flatMap eM := List.take_of_length_le (by omega)
        repeat' (first | (refine wNil ?_) | (refine xPure ?_) | (refine xMk ?_; intro id hid; (try simp only [set_none_iff] at hid); have hz := hid; (repeat (replace hz := hz.2)); (try have := nei g25 hz); (try have := nei g85 hz); (try have := nei hp5 hz); (try have := nei gj5 hz); refine mkDo ?_) | (refine xChk ?_) | (refine xChkF ?_) | (refine xSkip ?_) | (refine xCall rfl rfl (sp26 B p R 0 _ hr) ?_; rintro r h' ⟨rfl, hx⟩; cases hx; refine nTm ?_) | (refine xCall rfl rfl (k78 _ hr) ?_; rintro r g5 ⟨rfl, hr5⟩; have hp5 := hr5.2.2; have g25 := hr5.1 _ _ hb2; have g85 := hr5.1 _ _ hb8; have gj5 := hr5.1 _ _ hj; refine nTm ?_) | (refine cSeq ?_) | (refine cNorm ?_) | (refine cRet ?_) | (refine cExit ?_) | (refine W_reg rfl ?_) | (refine W_block ?_) | (refine W_ret ?_) | (refine W_skip ?_) | (refine W_exit ?_) | (refine bNorm ?_) | (refine bRet ?_) | (refine bExit ?_) | (refine bExitN rfl ?_) | (refine xMask ?_) | (refine xT ?_) | (refine xF ?_) | (refine xRet ?_) | (refine xNorm ?_) | (refine xSplit ?_ ?_ <;> intro hb <;> (try exact False.elim hb)) | (refine xCond ?_ ?_ <;> intro hb <;> (try exact False.elim hb)))
        have hBid : B id = none := hr5.1.no hz
        have h0id : h0 id = none := Sub.no (show Sub h0 B from hu) hBid
        have n2id : id ≠ b2 := nei' hb2 hBid
        have n8id : id ≠ b8 := nei' hb8 hBid
        have nid : id ≠ p := Ne.symm (nei hp5 hz)
        have n8p : b8 ≠ p := nei hb8 hr.2.1
        have njp : j ≠ p := nei hj hr.2.1
        have eN : L.flatMap eM ++ [.int .i64 y1, .int .u64 (y2 : Int), .int .i64 y3, .str (bs y4)] = (L ++ [(y1, y2, y3, y4)]).flatMap eM := by rw [List.flatMap_append]; rfl
        have eL : L.length + 1 = (L ++ [(y1, y2, y3, y4)]).length := by rw [List.length_append]; rfl
        refine ⟨m, by omega, ((B.set j none).set id (some ⟨true, L.flatMap eM ++ [.int .i64 y1, .int .u64 (y2 : Int), .int .i64 y3, .str (bs y4)]⟩)).set b8 (some ⟨true, [.int .i64 k1, .int .i64 k2, .int .i64 k3, .int .i64 k4, .int .u64 (C : Int), .int .i64 n1, .int .i64 s1, .int .i64 s2, .bool ok, .str (bs x), .slc id 0 (L.length + 1) 4]⟩), R2, e2, y1, .slc id 0 (L.length + 1) 4, L ++ [(y1, y2, y3, y4)], by omega, by rw [List.length_append, List.length_cons, List.length_nil]; omega, ⟨?_, n2, n8, n28, ?_, set_same⟩, ?_, ?_, by rw [hF, List.append_assoc]; rfl, by simp only [keep, List.contains_cons, List.contains_nil, Nat.reduceBEq, Bool.or_true, Bool.true_or, Bool.or_false, Bool.false_or, if_true, if_false, Bool.false_eq_true, beq_self_eq_true, Nat.zero_add, Nat.reduceAdd, eq_self]⟩
        · exact Sub.set (Sub.set (Sub.set hu j1) h0id) n8
        · exact (set_ne n28).trans ((set_ne (Ne.symm n2id)).trans ((set_ne (Ne.symm j2)).trans hb2))
        · exact .inr ⟨id, h0id, n2id, n8id, by rw [← eL], (set_ne n8id).trans (by rw [set_same, eN])⟩
        · exact Rd.both (Rd.both (Rd.both (Rd.more (Rd.more2 hr5 (by assumption)) (by simp only [set_none_iff]; assumption)) njp) nid) n8p
    · have he' : (e == 0) = false := by simpa using he
      rw [lpG_stop (.inr he), List.append_nil] at hF
      rw [hF]
      repeat' (first | (refine wNil ?_) | (refine xPure ?_) | (refine xMk ?_; intro id hid; (try simp only [set_none_iff] at hid); refine mkDo ?_) | (refine xChk ?_) | (refine xChkF ?_) | (refine xSkip ?_) | (refine xCall rfl rfl (sp26 B p R e _ hr) ?_; rintro r h' ⟨rfl, hx⟩; cases hx; refine nTm ?_) | (exact tail55 h0 B g b2 b8 p inn s R e k1 k2 k3 k4 C n1 s1 s2 ok x S L hB' hP hr hs hi) | (refine cSeq ?_) | (refine cNorm ?_) | (refine cRet ?_) | (refine cExit ?_) | (refine W_reg rfl ?_) | (refine W_block ?_) | (refine W_ret ?_) | (refine W_skip ?_) | (refine W_exit ?_) | (refine bNorm ?_) | (refine bRet ?_) | (refine bExit ?_) | (refine bExitN rfl ?_) | (refine xMask ?_) | (refine xT ?_) | (refine xF ?_) | (refine xRet ?_) | (refine xNorm ?_) | (refine xSplit ?_ ?_ <;> intro hb <;> (try exact False.elim hb)) | (refine xCond ?_ ?_ <;> intro hb <;> (try exact False.elim hb)))
end Go.Proofs.YtgekngfnhhdamaaI
set_option linter.unusedVariables false
set_option linter.unusedSimpArgs false
set_option maxRecDepth 100000
set_option maxHeartbeats 4000000
namespace Go.Proofs.YtgekngfnhhdamaaI
open Go Go.Proofs.YtgekngfnhhdamaaM
attribute [local go_sem] aop ev fg_slc fg_slk fg_ptr fg_bool fg_int fg_str fg_iface fg_func fg_agg fg_tup fg_nils fg_nilp fg_nilI fg_nilF fg_und aboundsK alen_nils alen_slc alen_slk aslice_nils aslice_slc aslice_slk awanted abin aun aint aeqn aeqc aeqs apart abounds abnd amaxi amaxiGo cells_agg cells_slc cells_slk cells_ptr cells_bool cells_int cells_str cells_iface cells_func cells_tup cells_nils cells_nilp cells_nilI cells_nilF cells_und sc_slc sc_slk sc_ptr sc_bool sc_int sc_str sc_iface sc_func sc_nils sc_nilp sc_nilI sc_nilF gd_zero gd_succ List.all_cons List.all_nil Bool.and_self Bool.and_true Bool.true_and List.length_cons List.length_nil Option.map_some Option.some.injEq cell_same cell_ne cell_ne' cellsAt_same cellsAt_ne cellsAt_ne' put_same put_of set_same set_ne set_ne' List.getElem?_cons_zero List.getElem?_cons_succ if_true if_false and_self and_true true_and ne_eq not_true_eq_false not_false_eq_true decide_true decide_false Bool.false_eq_true Bool.true_eq_false beq_self_eq_true bne_self_eq_false beq_true beq_false Bool.not_true Bool.not_false List.map_cons List.map_nil putL List.set_cons_zero List.set_cons_succ afill Nat.zero_le Nat.le_refl Nat.zero_add Nat.add_zero List.drop_zero List.drop_succ_cons List.take_zero List.take_succ_cons Bool.not_eq_true Bool.not_eq_false decide_eq_true_eq decide_eq_false_iff_not Int.toNat_zero Nat.sub_zero Int.toNat_natCast Bool.bne_true Bool.bne_false AH.cell AH.cellsAt AH.put Nat.mul_one Nat.one_mul Int.natCast_nonneg List.length_set bs_append bs_size bs_toList bs_extract bs_get List.append_nil Nat.sub_zero bne_self_eq_false beq_self_eq_true azeros Int.le_refl aapp
/-- Where the document's Parse keeps what it holds. -/
def Df (h0 : AH) (b2 b4 b6 b7 : List Nat) : Prop := (h0 b2 = none ∧ h0 b4 = none ∧ h0 b6 = none ∧ h0 b7 = none) ∧ b2 ≠ b4 ∧ b2 ≠ b6 ∧ b2 ≠ b7 ∧ b4 ≠ b6 ∧ b4 ≠ b7 ∧ b6 ≠ b7
/-- What it holds. -/
def Rf (h0 g : AH) (b2 b4 b6 b7 : List Nat) (k : Nat) (inn R : List UInt8) (e : Int) (cs : List AV) : Prop := Up h0 g ∧ g b2 = some ⟨true, [.int .i64 0, .int .i64 0, .int .i64 0, .int .i64 0, .int .u64 0, .int .i64 0, .int .i64 0, .int .i64 0, .bool false, .str ⟨#[]⟩, .nils]⟩ ∧ g b4 = some ⟨true, [.int .u8 (k : Int), .str (bs inn)]⟩ ∧ g b6 = some ⟨true, cs⟩ ∧ g b7 = some ⟨true, [.str (bs R), .int .i64 e]⟩
/-- A list in a block of its own, that is none of these. -/
def Pk (h0 g : AH) (b2 b4 b6 b7 : List Nat) (S : AV) (L : List En) : Prop := S = .nils ∧ L = [] ∨ ∃ j, h0 j = none ∧ (j ≠ b2 ∧ j ≠ b4 ∧ j ≠ b6 ∧ j ≠ b7) ∧ S = .slc j 0 L.length 4 ∧ g j = some ⟨true, L.flatMap eM⟩
def L56c : ICode := (.seq (.block 0 (.loop (.seq (.mask [0, 2, 4, 6, 7, 8, 9, 10]) (.seq (.seq (.reg [(0, false), (1, false), (2, false), (3, false), (4, false), (5, false), (6, false), (7, false)] r56_20)
 (.cond (.t 92) .skip
 (.exit 0)))
 (.seq (.seq (.block 1 (.seq (.reg [(0, false), (1, false), (2, false)] r56_21)
 (.seq (.reg [(0, false), (1, false), (2, false), (3, false), (4, false), (5, false), (6, false), (7, false)] r56_22)
 (.seq (.seq (.reg [(0, false), (1, false), (2, false), (3, false), (4, false), (5, false), (6, false), (7, false), (8, false)] r56_23)
 (.seq (.cond (.t 110) (.reg [(0, false), (1, false)] r56_24)
 .skip) (.mask [0, 2, 4, 6, 7, 8, 10, 11])))
 (.seq (.reg [(0, false), (1, false), (2, false), (3, false), (4, false), (5, false), (6, false), (7, false)] r56_25)
 (.seq (.reg [(0, false), (1, false), (2, false), (3, false), (4, false), (5, false), (6, false), (7, false)] r56_26)
 (.seq (.reg [(0, false), (1, false), (2, false)] r56_27)
 (.reg [(0, false), (1, false), (2, false), (3, false), (4, false), (5, false), (6, false)] r56_28)))))))) (.mask [0, 2, 4, 6, 7, 8, 9, 10]))
 (.reg [(0, false), (1, false), (2, false)] r56_29)))))) (.mask [0, 2, 4, 6, 7]))
def R56c : ICode := (.seq (.seq (.reg [(0, false), (1, false), (2, false), (3, false), (4, false), (5, false), (6, false), (7, false), (8, false), (9, false), (10, false), (11, false), (12, false), (13, false), (14, false), (15, false), (16, false)] r56_30)
 (.seq (.cond (.t 148) (.reg [(0, false), (1, false)] r56_31)
 .skip) (.mask [2, 6, 7])))
 (.seq (.seq (.reg [(0, false), (1, false), (2, false)] r56_32)
 (.cond (.t 152) (.seq (.reg [(0, false), (1, false), (2, false), (3, false), (2, true), (4, false)] r56_33)
 .ret)
 .skip))
 (.seq (.reg [(0, false), (1, false), (2, false)] r56_34)
 .ret)))
theorem dn_ex (R inn s : List UInt8) (e : Int) : dn R (exE inn s e) = if e = 0 then (if R = [] ∧ inn.length + 8 = s.length then 0 else 4) else e := by
  unfold dn exE fl
  by_cases h1 : e = 0
  · subst h1
    by_cases h2 : R = [] <;> by_cases h3 : inn.length + 8 = s.length <;> simp [h2, h3]
  · by_cases h2 : R = [] <;> by_cases h3 : inn.length + 8 = s.length <;> simp [h1, h2, h3]
theorem tail56 (h0 g : AH) (b2 b4 b6 b7 : List Nat) (inn s R : List UInt8) (e : Int) (k : Nat) (k1 k2 k3 k4 : Int) (C : Nat) (n1 s1 s2 : Int) (ok : Bool) (x : List UInt8) (S : AV) (L : List En) (hD : Df h0 b2 b4 b6 b7) (hR : Rf h0 g b2 b4 b6 b7 k inn R e [.int .i64 k1, .int .i64 k2, .int .i64 k3, .int .i64 k4, .int .u64 (C : Int), .int .i64 n1, .int .i64 s1, .int .i64 s2, .bool ok, .str (bs x), S]) (hP : Pk h0 g b2 b4 b6 b7 S L) (hs : s.length ≤ 1000000000) (hi : inn.length ≤ 1000000000) :
    W T R56c [.str (bs s), .und, .ptr b2 0, .und, .ptr b4 0, .und, .ptr b6 0, .ptr b7 0, .und, .und, .und, .und, .und, .und, .und, .und, .und, .und, .und, .und, .und, .und, .und, .und, .und, .und, .und, .und, .und, .und, .und, .und, .und, .und, .und, .und, .und, .und, .und, .und, .und, .und, .und, .und, .und, .und, .und, .und, .und, .und, .und, .und, .und, .und, .und, .und, .und, .und, .und, .und, .und, .und, .und, .und, .und, .und, .und, .und, .und, .und, .und, .und, .und, .und, .und, .und, .und, .und, .und, .und, .und, .und, .und, .und, .und, .und, .und, .und, .und, .und, .und, .und, .und, .und, .und, .und, .und, .und, .und, .und, .und, .und, .und, .und, .und, .und, .und, .und, .und, .und, .und, .und, .und, .und, .und, .und, .und, .und, .und, .und, .und, .und, .und, .und, .und, .und, .und, .und, .und, .und, .und, .und, .und, .und, .und, .und, .und, .und, .und, .und, .und, .und, .und, .und, .und, .und, .und, .und, .und, .und, .und, .und, .und, .und, .und, .und, .und] g (Rets f56 (PQ h0 k1 k2 k3 k4 C n1 s1 s2 ok x L (dn R (exE inn s e)))) := by
  obtain ⟨⟨z2, z4, z6, z7⟩, n24, n26, n27, n46, n47, n67⟩ := hD
  obtain ⟨hU, m2, m4, m6, m7⟩ := hR
  have sc : S.scalar = true ∧ S.cells = [S] := by rcases hP with ⟨rfl, _⟩ | ⟨j, _, _, rfl, _⟩ <;> exact ⟨rfl, rfl⟩
  obtain ⟨sc1, sc2⟩ := sc
  have w1 : IntKind.i64.wrap ((inn.length : Int) + 8) = ((inn.length + 8 : Nat) : Int) := by rw [wrap64 (by omega) (by omega)]; rfl
  rw [dn_ex]
  have tl0 : (⟨#[]⟩ : ByteArray).toList = [] := bs_toList []
  unfold R56c
  by_cases he : e = 0
  · subst he
    rw [if_pos rfl]
    by_cases hR0 : R = []
    · subst hR0
      have r1 : (!(([] : List UInt8) == (⟨#[]⟩ : ByteArray).toList)) = false := by rw [tl0]; rfl
      have r1' : (([] : List UInt8) == (⟨#[]⟩ : ByteArray).toList) = true := by rw [tl0]; rfl
      by_cases c : inn.length + 8 = s.length
      · rw [if_pos ⟨rfl, c⟩]
        have c1 : (((inn.length + 8 : Nat) : Int) != (s.length : Int)) = false := by rw [c]; simp
        clear c
        repeat' (first | (refine wNil ?_) | (refine xPure ?_) | (refine xMk ?_; intro id hid; (try simp only [set_none_iff] at hid); refine mkDo ?_) | (refine xChk ?_) | (refine xChkF ?_) | (refine xSkip ?_) | (refine cSeq ?_) | (refine cNorm ?_) | (refine cRet ?_) | (refine cExit ?_) | (refine W_reg rfl ?_) | (refine W_block ?_) | (refine W_ret ?_) | (refine W_skip ?_) | (refine W_exit ?_) | (refine bNorm ?_) | (refine bRet ?_) | (refine bExit ?_) | (refine bExitN rfl ?_) | (refine xMask ?_) | (refine xT ?_) | (refine xF ?_) | (refine xRet ?_) | (refine xNorm ?_) | (refine xSplit ?_ ?_ <;> intro hb <;> (try exact False.elim hb)) | (refine xCond ?_ ?_ <;> intro hb <;> (try exact False.elim hb)))
        all_goals (refine ⟨[.agg [.int .i64 k1, .int .i64 k2, .int .i64 k3, .int .i64 k4, .int .u64 (C : Int), .int .i64 n1, .int .i64 s1, .int .i64 s2, .bool ok, .str (bs x), S], .int .i64 0], (by simp only [ares, ares1, f56, ev, AH.cellsAt, AH.cell, set_same, gd_zero, gd_succ, List.length_cons, List.length_nil, Nat.zero_add, Nat.add_zero, Nat.reduceAdd, Nat.le_refl, if_true, List.drop_zero, List.take_succ_cons, List.take_zero, Option.map_some, m2]), PQ.good S rfl ?_ ?_⟩)
        · rcases hP with ⟨a, b⟩ | ⟨j, a, ⟨d, _⟩, b, c⟩
          · exact .inl ⟨a, b⟩
          · exact .inr ⟨j, a, b, by rw [set_ne d]; exact c⟩
        · exact fun z b e => by rw [set_ne (nei e z2)]; exact hU z b e
      · rw [if_neg (fun h => c h.2)]
        have c1 : (((inn.length + 8 : Nat) : Int) != (s.length : Int)) = true := by rw [bne_iff_ne]; omega
        have n4 : ((4 : Int) != 0) = true := by decide
        clear c
        repeat' (first | (refine wNil ?_) | (refine xPure ?_) | (refine xMk ?_; intro id hid; (try simp only [set_none_iff] at hid); refine mkDo ?_) | (refine xChk ?_) | (refine xChkF ?_) | (refine xSkip ?_) | (refine cSeq ?_) | (refine cNorm ?_) | (refine cRet ?_) | (refine cExit ?_) | (refine W_reg rfl ?_) | (refine W_block ?_) | (refine W_ret ?_) | (refine W_skip ?_) | (refine W_exit ?_) | (refine bNorm ?_) | (refine bRet ?_) | (refine bExit ?_) | (refine bExitN rfl ?_) | (refine xMask ?_) | (refine xT ?_) | (refine xF ?_) | (refine xRet ?_) | (refine xNorm ?_) | (refine xSplit ?_ ?_ <;> intro hb <;> (try exact False.elim hb)) | (refine xCond ?_ ?_ <;> intro hb <;> (try exact False.elim hb)))
        all_goals (refine ⟨[.agg [.int .i64 0, .int .i64 0, .int .i64 0, .int .i64 0, .int .u64 0, .int .i64 0, .int .i64 0, .int .i64 0, .bool false, .str ⟨#[]⟩, .nils], .int .i64 4], (by simp only [ares, ares1, f56, ev, AH.cellsAt, AH.cell, set_same, gd_zero, gd_succ, List.length_cons, List.length_nil, Nat.zero_add, Nat.add_zero, Nat.reduceAdd, Nat.le_refl, if_true, List.drop_zero, List.take_succ_cons, List.take_zero, Option.map_some, m2]), PQ.bad (by decide) rfl ?_⟩)
        exact fun z b e => by simp only [set_ne (nei e z2), set_ne (nei e z7)]; exact hU z b e
    · rw [if_neg (fun h => hR0 h.1)]
      have r0 : (R == ([] : List UInt8)) = false := by
        cases R with
        | nil => exact absurd rfl hR0
        | cons a R => rfl
      have r1 : (!(R == ([] : List UInt8))) = true := by rw [r0]; rfl
      have n4 : ((4 : Int) != 0) = true := by decide
      clear hR0
      repeat' (first | (refine wNil ?_) | (refine xPure ?_) | (refine xMk ?_; intro id hid; (try simp only [set_none_iff] at hid); refine mkDo ?_) | (refine xChk ?_) | (refine xChkF ?_) | (refine xSkip ?_) | (refine cSeq ?_) | (refine cNorm ?_) | (refine cRet ?_) | (refine cExit ?_) | (refine W_reg rfl ?_) | (refine W_block ?_) | (refine W_ret ?_) | (refine W_skip ?_) | (refine W_exit ?_) | (refine bNorm ?_) | (refine bRet ?_) | (refine bExit ?_) | (refine bExitN rfl ?_) | (refine xMask ?_) | (refine xT ?_) | (refine xF ?_) | (refine xRet ?_) | (refine xNorm ?_) | (refine xSplit ?_ ?_ <;> intro hb <;> (try exact False.elim hb)) | (refine xCond ?_ ?_ <;> intro hb <;> (try exact False.elim hb)))
      all_goals (refine ⟨[.agg [.int .i64 0, .int .i64 0, .int .i64 0, .int .i64 0, .int .u64 0, .int .i64 0, .int .i64 0, .int .i64 0, .bool false, .str ⟨#[]⟩, .nils], .int .i64 4], (by simp only [ares, ares1, f56, ev, AH.cellsAt, AH.cell, set_same, gd_zero, gd_succ, List.length_cons, List.length_nil, Nat.zero_add, Nat.add_zero, Nat.reduceAdd, Nat.le_refl, if_true, List.drop_zero, List.take_succ_cons, List.take_zero, Option.map_some, m2]), PQ.bad (by decide) rfl ?_⟩)
      exact fun z b e => by simp only [set_ne (nei e z2), set_ne (nei e z7)]; exact hU z b e
  · rw [if_neg he]
    have he1 : (e == 0) = false := by simpa using he
    have he2 : (e != 0) = true := by simpa using he
    repeat' (first | (refine wNil ?_) | (refine xPure ?_) | (refine xMk ?_; intro id hid; (try simp only [set_none_iff] at hid); refine mkDo ?_) | (refine xChk ?_) | (refine xChkF ?_) | (refine xSkip ?_) | (refine cSeq ?_) | (refine cNorm ?_) | (refine cRet ?_) | (refine cExit ?_) | (refine W_reg rfl ?_) | (refine W_block ?_) | (refine W_ret ?_) | (refine W_skip ?_) | (refine W_exit ?_) | (refine bNorm ?_) | (refine bRet ?_) | (refine bExit ?_) | (refine bExitN rfl ?_) | (refine xMask ?_) | (refine xT ?_) | (refine xF ?_) | (refine xRet ?_) | (refine xNorm ?_) | (refine xSplit ?_ ?_ <;> intro hb <;> (try exact False.elim hb)) | (refine xCond ?_ ?_ <;> intro hb <;> (try exact False.elim hb)))
    all_goals (refine ⟨[.agg [.int .i64 0, .int .i64 0, .int .i64 0, .int .i64 0, .int .u64 0, .int .i64 0, .int .i64 0, .int .i64 0, .bool false, .str ⟨#[]⟩, .nils], .int .i64 e], (by simp only [ares, ares1, f56, ev, AH.cellsAt, AH.cell, set_same, gd_zero, gd_succ, List.length_cons, List.length_nil, Nat.zero_add, Nat.add_zero, Nat.reduceAdd, Nat.le_refl, if_true, List.drop_zero, List.take_succ_cons, List.take_zero, Option.map_some, m2]), PQ.bad he rfl ?_⟩)
    exact fun z b e => by simp only [set_ne (nei e z2)]; exact hU z b e
end Go.Proofs.YtgekngfnhhdamaaI
set_option linter.unusedVariables false
set_option linter.unusedSimpArgs false
set_option maxRecDepth 100000
set_option maxHeartbeats 4000000
namespace Go.Proofs.YtgekngfnhhdamaaI
open Go Go.Proofs.YtgekngfnhhdamaaM
attribute [local go_sem] aop ev fg_slc fg_slk fg_ptr fg_bool fg_int fg_str fg_iface fg_func fg_agg fg_tup fg_nils fg_nilp fg_nilI fg_nilF fg_und aboundsK alen_nils alen_slc alen_slk aslice_nils aslice_slc aslice_slk awanted abin aun aint aeqn aeqc aeqs apart abounds abnd amaxi amaxiGo cells_agg cells_slc cells_slk cells_ptr cells_bool cells_int cells_str cells_iface cells_func cells_tup cells_nils cells_nilp cells_nilI cells_nilF cells_und sc_slc sc_slk sc_ptr sc_bool sc_int sc_str sc_iface sc_func sc_nils sc_nilp sc_nilI sc_nilF gd_zero gd_succ List.all_cons List.all_nil Bool.and_self Bool.and_true Bool.true_and List.length_cons List.length_nil Option.map_some Option.some.injEq cell_same cell_ne cell_ne' cellsAt_same cellsAt_ne cellsAt_ne' put_same put_of set_same set_ne set_ne' List.getElem?_cons_zero List.getElem?_cons_succ if_true if_false and_self and_true true_and ne_eq not_true_eq_false not_false_eq_true decide_true decide_false Bool.false_eq_true Bool.true_eq_false beq_self_eq_true bne_self_eq_false beq_true beq_false Bool.not_true Bool.not_false List.map_cons List.map_nil putL List.set_cons_zero List.set_cons_succ afill Nat.zero_le Nat.le_refl Nat.zero_add Nat.add_zero List.drop_zero List.drop_succ_cons List.take_zero List.take_succ_cons Bool.not_eq_true Bool.not_eq_false decide_eq_true_eq decide_eq_false_iff_not Int.toNat_zero Nat.sub_zero Int.toNat_natCast Bool.bne_true Bool.bne_false AH.cell AH.cellsAt AH.put Nat.mul_one Nat.one_mul Int.natCast_nonneg List.length_set bs_append bs_size bs_toList bs_extract bs_get List.append_nil Nat.sub_zero bne_self_eq_false beq_self_eq_true azeros Int.le_refl aapp
theorem loop56 (h0 g : AH) (b2 b4 b6 b7 : List Nat) (inn s R : List UInt8) (e : Int) (k : Nat) (k1 k2 k3 k4 : Int) (C : Nat) (n1 s1 s2 : Int) (ok : Bool) (x : List UInt8) (S : AV) (L : List En) (hD : Df h0 b2 b4 b6 b7) (hR : Rf h0 g b2 b4 b6 b7 k inn R e [.int .i64 k1, .int .i64 k2, .int .i64 k3, .int .i64 k4, .int .u64 (C : Int), .int .i64 n1, .int .i64 s1, .int .i64 s2, .bool ok, .str (bs x), S]) (hP : Pk h0 g b2 b4 b6 b7 S L) (hs : s.length ≤ 1000000000) (hi : inn.length ≤ 1000000000) (n : Nat) (hn : n ≤ 64) (hL0 : L.length = 0) (tm : List AV) (htm : keep [0, 2, 4, 6, 7, 8, 9, 10] 0 tm = [.str (bs s), .und, .ptr b2 0, .und, .ptr b4 0, .und, .ptr b6 0, .ptr b7 0, .int .i64 (n : Int), .int .i64 (-1), .int .i64 0, .und, .und, .und, .und, .und, .und, .und, .und, .und, .und, .und, .und, .und, .und, .und, .und, .und, .und, .und, .und, .und, .und, .und, .und, .und, .und, .und, .und, .und, .und, .und, .und, .und, .und, .und, .und, .und, .und, .und, .und, .und, .und, .und, .und, .und, .und, .und, .und, .und, .und, .und, .und, .und, .und, .und, .und, .und, .und, .und, .und, .und, .und, .und, .und, .und, .und, .und, .und, .und, .und, .und, .und, .und, .und, .und, .und, .und, .und, .und, .und, .und, .und, .und, .und, .und, .und, .und, .und, .und, .und, .und, .und, .und, .und, .und, .und, .und, .und, .und, .und, .und, .und, .und, .und, .und, .und, .und, .und, .und, .und, .und, .und, .und, .und, .und, .und, .und, .und, .und, .und, .und, .und, .und, .und, .und, .und, .und, .und, .und, .und, .und, .und, .und, .und, .und, .und, .und, .und, .und, .und, .und, .und, .und, .und, .und, .und]) :
    W T L56c tm g (Then (fun tm' h' => W T R56c tm' h' (Rets f56 (PQ h0 k1 k2 k3 k4 C n1 s1 s2 ok x (lpG n R e (-1)).2.2 (dn (lpG n R e (-1)).1 (exE inn s (lpG n R e (-1)).2.1))))) (Rets f56 (PQ h0 k1 k2 k3 k4 C n1 s1 s2 ok x (lpG n R e (-1)).2.2 (dn (lpG n R e (-1)).1 (exE inn s (lpG n R e (-1)).2.1))))) := by
  obtain rfl : L = [] := List.eq_nil_of_length_eq_zero hL0
  unfold L56c
  refine cSeq ?_
  refine W_block ?_
  obtain ⟨Fi, hFi⟩ : ∃ z, lpG n R e (-1) = z := ⟨_, rfl⟩
  rw [hFi]
  refine W_loop (fun m tm g => ∃ (i : Nat) (R : List UInt8) (e last : Int) (S : AV) (L : List En), i + m = n ∧ L.length ≤ i ∧ Rf h0 g b2 b4 b6 b7 k inn R e [.int .i64 k1, .int .i64 k2, .int .i64 k3, .int .i64 k4, .int .u64 (C : Int), .int .i64 n1, .int .i64 s1, .int .i64 s2, .bool ok, .str (bs x), S] ∧ Pk h0 g b2 b4 b6 b7 S L ∧ Fi = ((lpG m R e last).1, (lpG m R e last).2.1, L ++ (lpG m R e last).2.2) ∧ keep [0, 2, 4, 6, 7, 8, 9, 10] 0 tm = [.str (bs s), .und, .ptr b2 0, .und, .ptr b4 0, .und, .ptr b6 0, .ptr b7 0, .int .i64 (n : Int), .int .i64 last, .int .i64 (i : Int), .und, .und, .und, .und, .und, .und, .und, .und, .und, .und, .und, .und, .und, .und, .und, .und, .und, .und, .und, .und, .und, .und, .und, .und, .und, .und, .und, .und, .und, .und, .und, .und, .und, .und, .und, .und, .und, .und, .und, .und, .und, .und, .und, .und, .und, .und, .und, .und, .und, .und, .und, .und, .und, .und, .und, .und, .und, .und, .und, .und, .und, .und, .und, .und, .und, .und, .und, .und, .und, .und, .und, .und, .und, .und, .und, .und, .und, .und, .und, .und, .und, .und, .und, .und, .und, .und, .und, .und, .und, .und, .und, .und, .und, .und, .und, .und, .und, .und, .und, .und, .und, .und, .und, .und, .und, .und, .und, .und, .und, .und, .und, .und, .und, .und, .und, .und, .und, .und, .und, .und, .und, .und, .und, .und, .und, .und, .und, .und, .und, .und, .und, .und, .und, .und, .und, .und, .und, .und, .und, .und, .und, .und, .und, .und, .und, .und]) n ⟨0, R, e, -1, S, [], by omega, by simp, hR, hP, by rw [hFi]; rfl, htm⟩ ?_
  clear htm hR hP hFi hL0
  rintro m tm g ⟨i, R, e, last, S, L, hm, hlen, hR, hP, hF, htm⟩
  refine cSeq (cMask (cNorm ?_))
  rw [htm]; clear htm
  have hR' := hR
  obtain ⟨HU, m2, m4, m6, m7⟩ := hR
  cases m with
  | zero =>
    have d1 : ¬ (i : Int) < (n : Int) := by omega
    rw [lpG_stop (.inl rfl), List.append_nil] at hF
    rw [hF]
    repeat' (first | (refine wNil ?_) | (refine xPure ?_) | (refine xMk ?_; intro id hid; (try simp only [set_none_iff] at hid); refine mkDo ?_) | (refine xChk ?_) | (refine xChkF ?_) | (refine xSkip ?_) | (exact tail56 h0 g b2 b4 b6 b7 inn s R e k k1 k2 k3 k4 C n1 s1 s2 ok x S L hD hR' hP hs hi) | (refine cSeq ?_) | (refine cNorm ?_) | (refine cRet ?_) | (refine cExit ?_) | (refine W_reg rfl ?_) | (refine W_block ?_) | (refine W_ret ?_) | (refine W_skip ?_) | (refine W_exit ?_) | (refine bNorm ?_) | (refine bRet ?_) | (refine bExit ?_) | (refine bExitN rfl ?_) | (refine xMask ?_) | (refine xT ?_) | (refine xF ?_) | (refine xRet ?_) | (refine xNorm ?_) | (refine xSplit ?_ ?_ <;> intro hb <;> (try exact False.elim hb)) | (refine xCond ?_ ?_ <;> intro hb <;> (try exact False.elim hb)))
  | succ m =>
    have d1 : (i : Int) < (n : Int) := by omega
    by_cases he : e = 0
    · subst he
      obtain ⟨⟨z2, z4, z6, z7⟩, n24, n26, n27, n46, n47, n67⟩ := hD
      have w1 : IntKind.i64.wrap ((i : Int) + 1) = ((i + 1 : Nat) : Int) := by rw [wrap64 (by omega) (by omega)]; rfl
      have r2 : 40 ≤ roomMost := by unfold roomMost; omega
      have hm1 : Hid (i + 1 + m = n) := (show i + 1 + m = n by omega)
      rw [show lpG (m + 1) R 0 last = ((lpG m (eG R 0 last).1 (eG R 0 last).2.1 (eG R 0 last).2.2.1).1, (lpG m (eG R 0 last).1 (eG R 0 last).2.1 (eG R 0 last).2.2.1).2.1, (eG R 0 last).2.2 :: (lpG m (eG R 0 last).1 (eG R 0 last).2.1 (eG R 0 last).2.2.1).2.2) from if_pos rfl] at hF
      obtain ⟨Q, hQ⟩ : ∃ q, eG R 0 last = q := ⟨_, rfl⟩
      rw [hQ] at hF
      unfold eG at hQ
      have k20 := fun h => sp20 R 0 1099511627776 h (by decide)
      obtain ⟨⟨R1, e1, sl⟩, hq⟩ : ∃ q, tN R 0 1099511627776 = q := ⟨_, rfl⟩
      simp only [hq] at k20 hQ
      clear hq hR'
      by_cases hz : e1 = 0
      · subst hz
        by_cases hsl : (sl : Int) ≤ last
        · rw [if_pos hsl, show fl 0 4 = 4 from rfl] at hQ
          have k38 := fun h => sp38 R1 4 h
          obtain ⟨⟨R2, e2, y2, y3⟩, hq⟩ : ∃ q, gB R1 4 = q := ⟨_, rfl⟩
          simp only [hq] at k38 hQ
          clear hq
          have k24 := fun h => sp24 R2 e2 400 h (by decide)
          obtain ⟨⟨R3, e3, w⟩, hq⟩ : ∃ q, tS R2 e2 400 = q := ⟨_, rfl⟩
          simp only [hq] at k24 hQ
          clear hq
          subst hQ
          simp only at hF
          rcases hP with ⟨rfl, rfl⟩ | ⟨j, j1, ⟨j2, j4, j6, j7⟩, rfl, mj⟩
          · repeat' (first | (refine wNil ?_) | (refine xPure ?_) | (refine xMk (o := ⟨some 11, _, _⟩) ?_; intro b11 hb11; (try simp only [set_none_iff] at hb11); have n2b := nei m2 hb11; have n4b := nei m4 hb11; have n6b := nei m6 hb11; have n7b := nei m7 hb11; have zb := Up.none HU hb11; refine mkDo ?_) | (refine xMk (o := ⟨some 129, _, _⟩) ?_; intro bB hbB; (try simp only [set_none_iff] at hbB); obtain ⟨eB1, eB2, eB3⟩ := hbB; have n2B := nei m2 eB3; have n4B := nei m4 eB3; have n6B := nei m6 eB3; have n7B := nei m7 eB3; have nbB := nei m11 eB3; have zB := Up.none HU eB3; refine mkDo ?_) | (refine xMk (o := ⟨some 130, _, _⟩) ?_; intro bN hbN; (try simp only [set_none_iff] at hbN); obtain ⟨eN0, eN1, eN2, eN3⟩ := hbN; have n2N := nei m2 eN3; have n4N := nei m4 eN3; have n6N := nei m6 eN3; have n7N := nei m7 eN3; have zN := Up.none HU eN3; refine mkDo ?_) | (refine xMk ?_; intro id hid; (try simp only [set_none_iff] at hid); refine mkDo ?_) | (refine xChk ?_) | (refine xChkF ?_) | (refine xSkip ?_) | (refine xCall rfl rfl (k20 _) ?_; rintro r g1 ⟨rfl, hu⟩; replace m2 := hu b2 _ (by simp only [set_ne n27, set_ne n26, set_ne n2b]; exact m2); replace m4 := hu b4 _ (by simp only [set_ne n47, set_ne n46, set_ne n4b]; exact m4); replace m6 := hu b6 _ (by simp only [set_ne n67, set_ne n6b]; exact m6); replace m7 := hu b7 _ (by first | exact set_same | exact (set_ne n7b).trans set_same | (simp only [set_ne n7b]; exact m7)); have m11 := hu b11 _ (by first | exact set_same | exact (set_ne (Ne.symm n7b)).trans set_same); replace HU : Up h0 g1 := fun z b e => hu z b (by simp only [set_ne (nei e z7), set_ne (nei e zb)]; exact HU z b e); clear hu; refine nTm ?_) | (refine xCall rfl rfl (k38 _) ?_; rintro r g2 ⟨rfl, hu⟩; replace m2 := hu b2 _ (by simp only [set_ne n27, set_ne n26, set_ne n2b]; exact m2); replace m4 := hu b4 _ (by simp only [set_ne n47, set_ne n46, set_ne n4b]; exact m4); replace m6 := hu b6 _ (by simp only [set_ne n67, set_ne n6b]; exact m6); replace m7 := hu b7 _ (by first | exact set_same | exact (set_ne n7b).trans set_same | (simp only [set_ne n7b]; exact m7)); have m11 := hu b11 _ (by first | exact set_same | exact (set_ne (Ne.symm n7b)).trans set_same); replace HU : Up h0 g2 := fun z b e => hu z b (by simp only [set_ne (nei e z7), set_ne (nei e zb)]; exact HU z b e); clear hu; refine nTm ?_) | (refine xCall rfl rfl (k24 _) ?_; rintro r g3 ⟨rfl, hu⟩; replace m2 := hu b2 _ (by simp only [set_ne n27, set_ne n26, set_ne n2b]; exact m2); replace m4 := hu b4 _ (by simp only [set_ne n47, set_ne n46, set_ne n4b]; exact m4); replace m6 := hu b6 _ (by simp only [set_ne n67, set_ne n6b]; exact m6); replace m7 := hu b7 _ (by first | exact set_same | exact (set_ne n7b).trans set_same | (simp only [set_ne n7b]; exact m7)); have m11 := hu b11 _ (by first | exact set_same | exact (set_ne (Ne.symm n7b)).trans set_same); replace HU : Up h0 g3 := fun z b e => hu z b (by simp only [set_ne (nei e z7), set_ne (nei e zb)]; exact HU z b e); clear hu; refine nTm ?_) | (refine cSeq ?_) | (refine cNorm ?_) | (refine cRet ?_) | (refine cExit ?_) | (refine W_reg rfl ?_) | (refine W_block ?_) | (refine W_ret ?_) | (refine W_skip ?_) | (refine W_exit ?_) | (refine bNorm ?_) | (refine bRet ?_) | (refine bExit ?_) | (refine bExitN rfl ?_) | (refine xMask ?_) | (refine xT ?_) | (refine xF ?_) | (refine xRet ?_) | (refine xNorm ?_) | (refine xSplit ?_ ?_ <;> intro hb <;> (try exact False.elim hb)) | (refine xCond ?_ ?_ <;> intro hb <;> (try exact False.elim hb)))
            all_goals exact ⟨m, by omega, i + 1, R3, e3, (sl : Int), .slc bN 0 1 4, [((sl : Int), y2, (y3 : Int), w)], by omega, by simp, ⟨(by repeat' (first | assumption | exact Up.refl _ | refine Up.new ?_ ?_)), (by simp only [set_ne n2N, set_ne n2B, set_ne n26, set_ne n27, set_ne n2b]; exact m2), (by simp only [set_ne n4N, set_ne n4B, set_ne n46, set_ne n47, set_ne n4b]; exact m4), set_same, (by simp only [set_ne n7N, set_ne n7B, set_ne (Ne.symm n67), set_ne n7b, set_same])⟩, .inr ⟨bN, zN, ⟨Ne.symm n2N, Ne.symm n4N, Ne.symm n6N, Ne.symm n7N⟩, rfl, (set_ne (Ne.symm n6N)).trans set_same⟩, by rw [hF]; rfl, by simp only [keep, List.contains_cons, List.contains_nil, Nat.reduceBEq, Bool.or_true, Bool.true_or, Bool.or_false, Bool.false_or, if_true, if_false, Bool.false_eq_true, beq_self_eq_true, Nat.zero_add, Nat.reduceAdd, eq_self]⟩
          · have r1 : (L.length + 1) * 40 ≤ roomMost := by unfold roomMost; omega
            have r3 := flat_len eMz L
            have r4 : List.take (L.length * 4) (L.flatMap eM) = L.flatMap eM := List.take_of_length_le (by omega)
            have eN : (L ++ [((sl : Int), y2, (y3 : Int), w)]).flatMap eM = L.flatMap eM ++ [.int .i64 (sl : Int), .int .u64 (y2 : Int), .int .i64 (y3 : Int), .str (bs w)] := by rw [List.flatMap_append]; rfl
            have eL : (L ++ [((sl : Int), y2, (y3 : Int), w)]).length = L.length + 1 := by rw [List.length_append]; rfl
            repeat' (first | (refine wNil ?_) | (refine xPure ?_) | (refine xMk (o := ⟨some 11, _, _⟩) ?_; intro b11 hb11; (try simp only [set_none_iff] at hb11); have n2b := nei m2 hb11; have n4b := nei m4 hb11; have n6b := nei m6 hb11; have n7b := nei m7 hb11; have zb := Up.none HU hb11; have jb := nei mj hb11; refine mkDo ?_) | (refine xMk (o := ⟨some 129, _, _⟩) ?_; intro bB hbB; (try simp only [set_none_iff] at hbB); obtain ⟨eB1, eB2, eB3⟩ := hbB; have n2B := nei m2 eB3; have n4B := nei m4 eB3; have n6B := nei m6 eB3; have n7B := nei m7 eB3; have nbB := nei m11 eB3; have zB := Up.none HU eB3; have jB := nei mj eB3; refine mkDo ?_) | (refine xMk (o := ⟨some 130, _, _⟩) ?_; intro bN hbN; (try simp only [set_none_iff] at hbN); obtain ⟨eN0, eN1, eN2, eN3⟩ := hbN; have n2N := nei m2 eN3; have n4N := nei m4 eN3; have n6N := nei m6 eN3; have n7N := nei m7 eN3; have zN := Up.none HU eN3; have jN := nei mj eN3; refine mkDo ?_) | (refine xMk ?_; intro id hid; (try simp only [set_none_iff] at hid); refine mkDo ?_) | (refine xChk ?_) | (refine xChkF ?_) | (refine xSkip ?_) | (refine xCall rfl rfl (k20 _) ?_; rintro r g1 ⟨rfl, hu⟩; replace m2 := hu b2 _ (by simp only [set_ne n27, set_ne n26, set_ne n2b]; exact m2); replace m4 := hu b4 _ (by simp only [set_ne n47, set_ne n46, set_ne n4b]; exact m4); replace m6 := hu b6 _ (by simp only [set_ne n67, set_ne n6b]; exact m6); replace m7 := hu b7 _ (by first | exact set_same | exact (set_ne n7b).trans set_same | (simp only [set_ne n7b]; exact m7)); have m11 := hu b11 _ (by first | exact set_same | exact (set_ne (Ne.symm n7b)).trans set_same); replace mj := hu j _ (by simp only [set_ne j7, set_ne j6, set_ne jb]; exact mj); replace HU : Up h0 g1 := fun z b e => hu z b (by simp only [set_ne (nei e z7), set_ne (nei e zb)]; exact HU z b e); clear hu; refine nTm ?_) | (refine xCall rfl rfl (k38 _) ?_; rintro r g2 ⟨rfl, hu⟩; replace m2 := hu b2 _ (by simp only [set_ne n27, set_ne n26, set_ne n2b]; exact m2); replace m4 := hu b4 _ (by simp only [set_ne n47, set_ne n46, set_ne n4b]; exact m4); replace m6 := hu b6 _ (by simp only [set_ne n67, set_ne n6b]; exact m6); replace m7 := hu b7 _ (by first | exact set_same | exact (set_ne n7b).trans set_same | (simp only [set_ne n7b]; exact m7)); have m11 := hu b11 _ (by first | exact set_same | exact (set_ne (Ne.symm n7b)).trans set_same); replace mj := hu j _ (by simp only [set_ne j7, set_ne j6, set_ne jb]; exact mj); replace HU : Up h0 g2 := fun z b e => hu z b (by simp only [set_ne (nei e z7), set_ne (nei e zb)]; exact HU z b e); clear hu; refine nTm ?_) | (refine xCall rfl rfl (k24 _) ?_; rintro r g3 ⟨rfl, hu⟩; replace m2 := hu b2 _ (by simp only [set_ne n27, set_ne n26, set_ne n2b]; exact m2); replace m4 := hu b4 _ (by simp only [set_ne n47, set_ne n46, set_ne n4b]; exact m4); replace m6 := hu b6 _ (by simp only [set_ne n67, set_ne n6b]; exact m6); replace m7 := hu b7 _ (by first | exact set_same | exact (set_ne n7b).trans set_same | (simp only [set_ne n7b]; exact m7)); have m11 := hu b11 _ (by first | exact set_same | exact (set_ne (Ne.symm n7b)).trans set_same); replace mj := hu j _ (by simp only [set_ne j7, set_ne j6, set_ne jb]; exact mj); replace HU : Up h0 g3 := fun z b e => hu z b (by simp only [set_ne (nei e z7), set_ne (nei e zb)]; exact HU z b e); clear hu; refine nTm ?_) | (refine cSeq ?_) | (refine cNorm ?_) | (refine cRet ?_) | (refine cExit ?_) | (refine W_reg rfl ?_) | (refine W_block ?_) | (refine W_ret ?_) | (refine W_skip ?_) | (refine W_exit ?_) | (refine bNorm ?_) | (refine bRet ?_) | (refine bExit ?_) | (refine bExitN rfl ?_) | (refine xMask ?_) | (refine xT ?_) | (refine xF ?_) | (refine xRet ?_) | (refine xNorm ?_) | (refine xSplit ?_ ?_ <;> intro hb <;> (try exact False.elim hb)) | (refine xCond ?_ ?_ <;> intro hb <;> (try exact False.elim hb)))
            all_goals exact ⟨m, by omega, i + 1, R3, e3, (sl : Int), .slc bN 0 (L.length + 1) 4, L ++ [((sl : Int), y2, (y3 : Int), w)], by omega, by rw [List.length_append, List.length_cons, List.length_nil]; omega, ⟨(by repeat' (first | assumption | exact Up.refl _ | refine Up.new ?_ ?_)), (by simp only [set_ne n2N, set_ne n2B, set_ne n26, set_ne n27, set_ne n2b, set_ne (Ne.symm j2)]; exact m2), (by simp only [set_ne n4N, set_ne n4B, set_ne n46, set_ne n47, set_ne n4b, set_ne (Ne.symm j4)]; exact m4), set_same, (by simp only [set_ne n7N, set_ne n7B, set_ne (Ne.symm n67), set_ne n7b, set_ne (Ne.symm j7), set_same])⟩, .inr ⟨bN, zN, ⟨Ne.symm n2N, Ne.symm n4N, Ne.symm n6N, Ne.symm n7N⟩, by rw [eL], (set_ne (Ne.symm n6N)).trans (by rw [set_same, eN])⟩, by rw [hF, List.append_assoc]; rfl, by simp only [keep, List.contains_cons, List.contains_nil, Nat.reduceBEq, Bool.or_true, Bool.true_or, Bool.or_false, Bool.false_or, if_true, if_false, Bool.false_eq_true, beq_self_eq_true, Nat.zero_add, Nat.reduceAdd, eq_self]⟩
        · rw [if_neg hsl] at hQ
          have k38 := fun h => sp38 R1 0 h
          obtain ⟨⟨R2, e2, y2, y3⟩, hq⟩ : ∃ q, gB R1 0 = q := ⟨_, rfl⟩
          simp only [hq] at k38 hQ
          clear hq
          have k24 := fun h => sp24 R2 e2 400 h (by decide)
          obtain ⟨⟨R3, e3, w⟩, hq⟩ : ∃ q, tS R2 e2 400 = q := ⟨_, rfl⟩
          simp only [hq] at k24 hQ
          clear hq
          subst hQ
          simp only at hF
          rcases hP with ⟨rfl, rfl⟩ | ⟨j, j1, ⟨j2, j4, j6, j7⟩, rfl, mj⟩
          · repeat' (first | (refine wNil ?_) | (refine xPure ?_) | (refine xMk (o := ⟨some 11, _, _⟩) ?_; intro b11 hb11; (try simp only [set_none_iff] at hb11); have n2b := nei m2 hb11; have n4b := nei m4 hb11; have n6b := nei m6 hb11; have n7b := nei m7 hb11; have zb := Up.none HU hb11; refine mkDo ?_) | (refine xMk (o := ⟨some 129, _, _⟩) ?_; intro bB hbB; (try simp only [set_none_iff] at hbB); obtain ⟨eB1, eB2, eB3⟩ := hbB; have n2B := nei m2 eB3; have n4B := nei m4 eB3; have n6B := nei m6 eB3; have n7B := nei m7 eB3; have nbB := nei m11 eB3; have zB := Up.none HU eB3; refine mkDo ?_) | (refine xMk (o := ⟨some 130, _, _⟩) ?_; intro bN hbN; (try simp only [set_none_iff] at hbN); obtain ⟨eN0, eN1, eN2, eN3⟩ := hbN; have n2N := nei m2 eN3; have n4N := nei m4 eN3; have n6N := nei m6 eN3; have n7N := nei m7 eN3; have zN := Up.none HU eN3; refine mkDo ?_) | (refine xMk ?_; intro id hid; (try simp only [set_none_iff] at hid); refine mkDo ?_) | (refine xChk ?_) | (refine xChkF ?_) | (refine xSkip ?_) | (refine xCall rfl rfl (k20 _) ?_; rintro r g1 ⟨rfl, hu⟩; replace m2 := hu b2 _ (by simp only [set_ne n27, set_ne n26, set_ne n2b]; exact m2); replace m4 := hu b4 _ (by simp only [set_ne n47, set_ne n46, set_ne n4b]; exact m4); replace m6 := hu b6 _ (by simp only [set_ne n67, set_ne n6b]; exact m6); replace m7 := hu b7 _ (by first | exact set_same | exact (set_ne n7b).trans set_same | (simp only [set_ne n7b]; exact m7)); have m11 := hu b11 _ (by first | exact set_same | exact (set_ne (Ne.symm n7b)).trans set_same); replace HU : Up h0 g1 := fun z b e => hu z b (by simp only [set_ne (nei e z7), set_ne (nei e zb)]; exact HU z b e); clear hu; refine nTm ?_) | (refine xCall rfl rfl (k38 _) ?_; rintro r g2 ⟨rfl, hu⟩; replace m2 := hu b2 _ (by simp only [set_ne n27, set_ne n26, set_ne n2b]; exact m2); replace m4 := hu b4 _ (by simp only [set_ne n47, set_ne n46, set_ne n4b]; exact m4); replace m6 := hu b6 _ (by simp only [set_ne n67, set_ne n6b]; exact m6); replace m7 := hu b7 _ (by first | exact set_same | exact (set_ne n7b).trans set_same | (simp only [set_ne n7b]; exact m7)); have m11 := hu b11 _ (by first | exact set_same | exact (set_ne (Ne.symm n7b)).trans set_same); replace HU : Up h0 g2 := fun z b e => hu z b (by simp only [set_ne (nei e z7), set_ne (nei e zb)]; exact HU z b e); clear hu; refine nTm ?_) | (refine xCall rfl rfl (k24 _) ?_; rintro r g3 ⟨rfl, hu⟩; replace m2 := hu b2 _ (by simp only [set_ne n27, set_ne n26, set_ne n2b]; exact m2); replace m4 := hu b4 _ (by simp only [set_ne n47, set_ne n46, set_ne n4b]; exact m4); replace m6 := hu b6 _ (by simp only [set_ne n67, set_ne n6b]; exact m6); replace m7 := hu b7 _ (by first | exact set_same | exact (set_ne n7b).trans set_same | (simp only [set_ne n7b]; exact m7)); have m11 := hu b11 _ (by first | exact set_same | exact (set_ne (Ne.symm n7b)).trans set_same); replace HU : Up h0 g3 := fun z b e => hu z b (by simp only [set_ne (nei e z7), set_ne (nei e zb)]; exact HU z b e); clear hu; refine nTm ?_) | (refine cSeq ?_) | (refine cNorm ?_) | (refine cRet ?_) | (refine cExit ?_) | (refine W_reg rfl ?_) | (refine W_block ?_) | (refine W_ret ?_) | (refine W_skip ?_) | (refine W_exit ?_) | (refine bNorm ?_) | (refine bRet ?_) | (refine bExit ?_) | (refine bExitN rfl ?_) | (refine xMask ?_) | (refine xT ?_) | (refine xF ?_) | (refine xRet ?_) | (refine xNorm ?_) | (refine xSplit ?_ ?_ <;> intro hb <;> (try exact False.elim hb)) | (refine xCond ?_ ?_ <;> intro hb <;> (try exact False.elim hb)))
            all_goals exact ⟨m, by omega, i + 1, R3, e3, (sl : Int), .slc bN 0 1 4, [((sl : Int), y2, (y3 : Int), w)], by omega, by simp, ⟨(by repeat' (first | assumption | exact Up.refl _ | refine Up.new ?_ ?_)), (by simp only [set_ne n2N, set_ne n2B, set_ne n26, set_ne n27, set_ne n2b]; exact m2), (by simp only [set_ne n4N, set_ne n4B, set_ne n46, set_ne n47, set_ne n4b]; exact m4), set_same, (by simp only [set_ne n7N, set_ne n7B, set_ne (Ne.symm n67), set_ne n7b, set_same])⟩, .inr ⟨bN, zN, ⟨Ne.symm n2N, Ne.symm n4N, Ne.symm n6N, Ne.symm n7N⟩, rfl, (set_ne (Ne.symm n6N)).trans set_same⟩, by rw [hF]; rfl, by simp only [keep, List.contains_cons, List.contains_nil, Nat.reduceBEq, Bool.or_true, Bool.true_or, Bool.or_false, Bool.false_or, if_true, if_false, Bool.false_eq_true, beq_self_eq_true, Nat.zero_add, Nat.reduceAdd, eq_self]⟩
          · have r1 : (L.length + 1) * 40 ≤ roomMost := by unfold roomMost; omega
            have r3 := flat_len eMz L
            have r4 : List.take (L.length * 4) (L.flatMap eM) = L.flatMap eM := List.take_of_length_le (by omega)
            have eN : (L ++ [((sl : Int), y2, (y3 : Int), w)]).flatMap eM = L.flatMap eM ++ [.int .i64 (sl : Int), .int .u64 (y2 : Int), .int .i64 (y3 : Int), .str (bs w)] := by rw [List.flatMap_append]; rfl
            have eL : (L ++ [((sl : Int), y2, (y3 : Int), w)]).length = L.length + 1 := by rw [List.length_append]; rfl
            repeat' (first | (refine wNil ?_) | (refine xPure ?_) | (refine xMk (o := ⟨some 11, _, _⟩) ?_; intro b11 hb11; (try simp only [set_none_iff] at hb11); have n2b := nei m2 hb11; have n4b := nei m4 hb11; have n6b := nei m6 hb11; have n7b := nei m7 hb11; have zb := Up.none HU hb11; have jb := nei mj hb11; refine mkDo ?_) | (refine xMk (o := ⟨some 129, _, _⟩) ?_; intro bB hbB; (try simp only [set_none_iff] at hbB); obtain ⟨eB1, eB2, eB3⟩ := hbB; have n2B := nei m2 eB3; have n4B := nei m4 eB3; have n6B := nei m6 eB3; have n7B := nei m7 eB3; have nbB := nei m11 eB3; have zB := Up.none HU eB3; have jB := nei mj eB3; refine mkDo ?_) | (refine xMk (o := ⟨some 130, _, _⟩) ?_; intro bN hbN; (try simp only [set_none_iff] at hbN); obtain ⟨eN0, eN1, eN2, eN3⟩ := hbN; have n2N := nei m2 eN3; have n4N := nei m4 eN3; have n6N := nei m6 eN3; have n7N := nei m7 eN3; have zN := Up.none HU eN3; have jN := nei mj eN3; refine mkDo ?_) | (refine xMk ?_; intro id hid; (try simp only [set_none_iff] at hid); refine mkDo ?_) | (refine xChk ?_) | (refine xChkF ?_) | (refine xSkip ?_) | (refine xCall rfl rfl (k20 _) ?_; rintro r g1 ⟨rfl, hu⟩; replace m2 := hu b2 _ (by simp only [set_ne n27, set_ne n26, set_ne n2b]; exact m2); replace m4 := hu b4 _ (by simp only [set_ne n47, set_ne n46, set_ne n4b]; exact m4); replace m6 := hu b6 _ (by simp only [set_ne n67, set_ne n6b]; exact m6); replace m7 := hu b7 _ (by first | exact set_same | exact (set_ne n7b).trans set_same | (simp only [set_ne n7b]; exact m7)); have m11 := hu b11 _ (by first | exact set_same | exact (set_ne (Ne.symm n7b)).trans set_same); replace mj := hu j _ (by simp only [set_ne j7, set_ne j6, set_ne jb]; exact mj); replace HU : Up h0 g1 := fun z b e => hu z b (by simp only [set_ne (nei e z7), set_ne (nei e zb)]; exact HU z b e); clear hu; refine nTm ?_) | (refine xCall rfl rfl (k38 _) ?_; rintro r g2 ⟨rfl, hu⟩; replace m2 := hu b2 _ (by simp only [set_ne n27, set_ne n26, set_ne n2b]; exact m2); replace m4 := hu b4 _ (by simp only [set_ne n47, set_ne n46, set_ne n4b]; exact m4); replace m6 := hu b6 _ (by simp only [set_ne n67, set_ne n6b]; exact m6); replace m7 := hu b7 _ (by first | exact set_same | exact (set_ne n7b).trans set_same | (simp only [set_ne n7b]; exact m7)); have m11 := hu b11 _ (by first | exact set_same | exact (set_ne (Ne.symm n7b)).trans set_same); replace mj := hu j _ (by simp only [set_ne j7, set_ne j6, set_ne jb]; exact mj); replace HU : Up h0 g2 := fun z b e => hu z b (by simp only [set_ne (nei e z7), set_ne (nei e zb)]; exact HU z b e); clear hu; refine nTm ?_) | (refine xCall rfl rfl (k24 _) ?_; rintro r g3 ⟨rfl, hu⟩; replace m2 := hu b2 _ (by simp only [set_ne n27, set_ne n26, set_ne n2b]; exact m2); replace m4 := hu b4 _ (by simp only [set_ne n47, set_ne n46, set_ne n4b]; exact m4); replace m6 := hu b6 _ (by simp only [set_ne n67, set_ne n6b]; exact m6); replace m7 := hu b7 _ (by first | exact set_same | exact (set_ne n7b).trans set_same | (simp only [set_ne n7b]; exact m7)); have m11 := hu b11 _ (by first | exact set_same | exact (set_ne (Ne.symm n7b)).trans set_same); replace mj := hu j _ (by simp only [set_ne j7, set_ne j6, set_ne jb]; exact mj); replace HU : Up h0 g3 := fun z b e => hu z b (by simp only [set_ne (nei e z7), set_ne (nei e zb)]; exact HU z b e); clear hu; refine nTm ?_) | (refine cSeq ?_) | (refine cNorm ?_) | (refine cRet ?_) | (refine cExit ?_) | (refine W_reg rfl ?_) | (refine W_block ?_) | (refine W_ret ?_) | (refine W_skip ?_) | (refine W_exit ?_) | (refine bNorm ?_) | (refine bRet ?_) | (refine bExit ?_) | (refine bExitN rfl ?_) | (refine xMask ?_) | (refine xT ?_) | (refine xF ?_) | (refine xRet ?_) | (refine xNorm ?_) | (refine xSplit ?_ ?_ <;> intro hb <;> (try exact False.elim hb)) | (refine xCond ?_ ?_ <;> intro hb <;> (try exact False.elim hb)))
            all_goals exact ⟨m, by omega, i + 1, R3, e3, (sl : Int), .slc bN 0 (L.length + 1) 4, L ++ [((sl : Int), y2, (y3 : Int), w)], by omega, by rw [List.length_append, List.length_cons, List.length_nil]; omega, ⟨(by repeat' (first | assumption | exact Up.refl _ | refine Up.new ?_ ?_)), (by simp only [set_ne n2N, set_ne n2B, set_ne n26, set_ne n27, set_ne n2b, set_ne (Ne.symm j2)]; exact m2), (by simp only [set_ne n4N, set_ne n4B, set_ne n46, set_ne n47, set_ne n4b, set_ne (Ne.symm j4)]; exact m4), set_same, (by simp only [set_ne n7N, set_ne n7B, set_ne (Ne.symm n67), set_ne n7b, set_ne (Ne.symm j7), set_same])⟩, .inr ⟨bN, zN, ⟨Ne.symm n2N, Ne.symm n4N, Ne.symm n6N, Ne.symm n7N⟩, by rw [eL], (set_ne (Ne.symm n6N)).trans (by rw [set_same, eN])⟩, by rw [hF, List.append_assoc]; rfl, by simp only [keep, List.contains_cons, List.contains_nil, Nat.reduceBEq, Bool.or_true, Bool.true_or, Bool.or_false, Bool.false_or, if_true, if_false, Bool.false_eq_true, beq_self_eq_true, Nat.zero_add, Nat.reduceAdd, eq_self]⟩
      · have hz1 : (e1 == 0) = false := by simpa using hz
        rw [show (if (sl : Int) ≤ last then fl e1 4 else e1) = e1 by unfold fl; split <;> simp [hz]] at hQ
        clear hz
        have k38 := fun h => sp38 R1 e1 h
        obtain ⟨⟨R2, e2, y2, y3⟩, hq⟩ : ∃ q, gB R1 e1 = q := ⟨_, rfl⟩
        simp only [hq] at k38 hQ
        clear hq
        have k24 := fun h => sp24 R2 e2 400 h (by decide)
        obtain ⟨⟨R3, e3, w⟩, hq⟩ : ∃ q, tS R2 e2 400 = q := ⟨_, rfl⟩
        simp only [hq] at k24 hQ
        clear hq
        subst hQ
        simp only at hF
        rcases hP with ⟨rfl, rfl⟩ | ⟨j, j1, ⟨j2, j4, j6, j7⟩, rfl, mj⟩
        · repeat' (first | (refine wNil ?_) | (refine xPure ?_) | (refine xMk (o := ⟨some 11, _, _⟩) ?_; intro b11 hb11; (try simp only [set_none_iff] at hb11); have n2b := nei m2 hb11; have n4b := nei m4 hb11; have n6b := nei m6 hb11; have n7b := nei m7 hb11; have zb := Up.none HU hb11; refine mkDo ?_) | (refine xMk (o := ⟨some 129, _, _⟩) ?_; intro bB hbB; (try simp only [set_none_iff] at hbB); obtain ⟨eB1, eB2, eB3⟩ := hbB; have n2B := nei m2 eB3; have n4B := nei m4 eB3; have n6B := nei m6 eB3; have n7B := nei m7 eB3; have nbB := nei m11 eB3; have zB := Up.none HU eB3; refine mkDo ?_) | (refine xMk (o := ⟨some 130, _, _⟩) ?_; intro bN hbN; (try simp only [set_none_iff] at hbN); obtain ⟨eN0, eN1, eN2, eN3⟩ := hbN; have n2N := nei m2 eN3; have n4N := nei m4 eN3; have n6N := nei m6 eN3; have n7N := nei m7 eN3; have zN := Up.none HU eN3; refine mkDo ?_) | (refine xMk ?_; intro id hid; (try simp only [set_none_iff] at hid); refine mkDo ?_) | (refine xChk ?_) | (refine xChkF ?_) | (refine xSkip ?_) | (refine xCall rfl rfl (k20 _) ?_; rintro r g1 ⟨rfl, hu⟩; replace m2 := hu b2 _ (by simp only [set_ne n27, set_ne n26, set_ne n2b]; exact m2); replace m4 := hu b4 _ (by simp only [set_ne n47, set_ne n46, set_ne n4b]; exact m4); replace m6 := hu b6 _ (by simp only [set_ne n67, set_ne n6b]; exact m6); replace m7 := hu b7 _ (by first | exact set_same | exact (set_ne n7b).trans set_same | (simp only [set_ne n7b]; exact m7)); have m11 := hu b11 _ (by first | exact set_same | exact (set_ne (Ne.symm n7b)).trans set_same); replace HU : Up h0 g1 := fun z b e => hu z b (by simp only [set_ne (nei e z7), set_ne (nei e zb)]; exact HU z b e); clear hu; refine nTm ?_) | (refine xCall rfl rfl (k38 _) ?_; rintro r g2 ⟨rfl, hu⟩; replace m2 := hu b2 _ (by simp only [set_ne n27, set_ne n26, set_ne n2b]; exact m2); replace m4 := hu b4 _ (by simp only [set_ne n47, set_ne n46, set_ne n4b]; exact m4); replace m6 := hu b6 _ (by simp only [set_ne n67, set_ne n6b]; exact m6); replace m7 := hu b7 _ (by first | exact set_same | exact (set_ne n7b).trans set_same | (simp only [set_ne n7b]; exact m7)); have m11 := hu b11 _ (by first | exact set_same | exact (set_ne (Ne.symm n7b)).trans set_same); replace HU : Up h0 g2 := fun z b e => hu z b (by simp only [set_ne (nei e z7), set_ne (nei e zb)]; exact HU z b e); clear hu; refine nTm ?_) | (refine xCall rfl rfl (k24 _) ?_; rintro r g3 ⟨rfl, hu⟩; replace m2 := hu b2 _ (by simp only [set_ne n27, set_ne n26, set_ne n2b]; exact m2); replace m4 := hu b4 _ (by simp only [set_ne n47, set_ne n46, set_ne n4b]; exact m4); replace m6 := hu b6 _ (by simp only [set_ne n67, set_ne n6b]; exact m6); replace m7 := hu b7 _ (by first | exact set_same | exact (set_ne n7b).trans set_same | (simp only [set_ne n7b]; exact m7)); have m11 := hu b11 _ (by first | exact set_same | exact (set_ne (Ne.symm n7b)).trans set_same); replace HU : Up h0 g3 := fun z b e => hu z b (by simp only [set_ne (nei e z7), set_ne (nei e zb)]; exact HU z b e); clear hu; refine nTm ?_) | (refine cSeq ?_) | (refine cNorm ?_) | (refine cRet ?_) | (refine cExit ?_) | (refine W_reg rfl ?_) | (refine W_block ?_) | (refine W_ret ?_) | (refine W_skip ?_) | (refine W_exit ?_) | (refine bNorm ?_) | (refine bRet ?_) | (refine bExit ?_) | (refine bExitN rfl ?_) | (refine xMask ?_) | (refine xT ?_) | (refine xF ?_) | (refine xRet ?_) | (refine xNorm ?_) | (refine xSplit ?_ ?_ <;> intro hb <;> (try exact False.elim hb)) | (refine xCond ?_ ?_ <;> intro hb <;> (try exact False.elim hb)))
          all_goals exact ⟨m, by omega, i + 1, R3, e3, (sl : Int), .slc bN 0 1 4, [((sl : Int), y2, (y3 : Int), w)], by omega, by simp, ⟨(by repeat' (first | assumption | exact Up.refl _ | refine Up.new ?_ ?_)), (by simp only [set_ne n2N, set_ne n2B, set_ne n26, set_ne n27, set_ne n2b]; exact m2), (by simp only [set_ne n4N, set_ne n4B, set_ne n46, set_ne n47, set_ne n4b]; exact m4), set_same, (by simp only [set_ne n7N, set_ne n7B, set_ne (Ne.symm n67), set_ne n7b, set_same])⟩, .inr ⟨bN, zN, ⟨Ne.symm n2N, Ne.symm n4N, Ne.symm n6N, Ne.symm n7N⟩, rfl, (set_ne (Ne.symm n6N)).trans set_same⟩, by rw [hF]; rfl, by simp only [keep, List.contains_cons, List.contains_nil, Nat.reduceBEq, Bool.or_true, Bool.true_or, Bool.or_false, Bool.false_or, if_true, if_false, Bool.false_eq_true, beq_self_eq_true, Nat.zero_add, Nat.reduceAdd, eq_self]⟩
        · have r1 : (L.length + 1) * 40 ≤ roomMost := by unfold roomMost; omega
          have r3 := flat_len eMz L
          have r4 : List.take (L.length * 4) (L.flatMap eM) = L.flatMap eM := List.take_of_length_le (by omega)
          have eN : (L ++ [((sl : Int), y2, (y3 : Int), w)]).flatMap eM = L.flatMap eM ++ [.int .i64 (sl : Int), .int .u64 (y2 : Int), .int .i64 (y3 : Int), .str (bs w)] := by rw [List.flatMap_append]; rfl
          have eL : (L ++ [((sl : Int), y2, (y3 : Int), w)]).length = L.length + 1 := by rw [List.length_append]; rfl
          repeat' (first | (refine wNil ?_) | (refine xPure ?_) | (refine xMk (o := ⟨some 11, _, _⟩) ?_; intro b11 hb11; (try simp only [set_none_iff] at hb11); have n2b := nei m2 hb11; have n4b := nei m4 hb11; have n6b := nei m6 hb11; have n7b := nei m7 hb11; have zb := Up.none HU hb11; have jb := nei mj hb11; refine mkDo ?_) | (refine xMk (o := ⟨some 129, _, _⟩) ?_; intro bB hbB; (try simp only [set_none_iff] at hbB); obtain ⟨eB1, eB2, eB3⟩ := hbB; have n2B := nei m2 eB3; have n4B := nei m4 eB3; have n6B := nei m6 eB3; have n7B := nei m7 eB3; have nbB := nei m11 eB3; have zB := Up.none HU eB3; have jB := nei mj eB3; refine mkDo ?_) | (refine xMk (o := ⟨some 130, _, _⟩) ?_; intro bN hbN; (try simp only [set_none_iff] at hbN); obtain ⟨eN0, eN1, eN2, eN3⟩ := hbN; have n2N := nei m2 eN3; have n4N := nei m4 eN3; have n6N := nei m6 eN3; have n7N := nei m7 eN3; have zN := Up.none HU eN3; have jN := nei mj eN3; refine mkDo ?_) | (refine xMk ?_; intro id hid; (try simp only [set_none_iff] at hid); refine mkDo ?_) | (refine xChk ?_) | (refine xChkF ?_) | (refine xSkip ?_) | (refine xCall rfl rfl (k20 _) ?_; rintro r g1 ⟨rfl, hu⟩; replace m2 := hu b2 _ (by simp only [set_ne n27, set_ne n26, set_ne n2b]; exact m2); replace m4 := hu b4 _ (by simp only [set_ne n47, set_ne n46, set_ne n4b]; exact m4); replace m6 := hu b6 _ (by simp only [set_ne n67, set_ne n6b]; exact m6); replace m7 := hu b7 _ (by first | exact set_same | exact (set_ne n7b).trans set_same | (simp only [set_ne n7b]; exact m7)); have m11 := hu b11 _ (by first | exact set_same | exact (set_ne (Ne.symm n7b)).trans set_same); replace mj := hu j _ (by simp only [set_ne j7, set_ne j6, set_ne jb]; exact mj); replace HU : Up h0 g1 := fun z b e => hu z b (by simp only [set_ne (nei e z7), set_ne (nei e zb)]; exact HU z b e); clear hu; refine nTm ?_) | (refine xCall rfl rfl (k38 _) ?_; rintro r g2 ⟨rfl, hu⟩; replace m2 := hu b2 _ (by simp only [set_ne n27, set_ne n26, set_ne n2b]; exact m2); replace m4 := hu b4 _ (by simp only [set_ne n47, set_ne n46, set_ne n4b]; exact m4); replace m6 := hu b6 _ (by simp only [set_ne n67, set_ne n6b]; exact m6); replace m7 := hu b7 _ (by first | exact set_same | exact (set_ne n7b).trans set_same | (simp only [set_ne n7b]; exact m7)); have m11 := hu b11 _ (by first | exact set_same | exact (set_ne (Ne.symm n7b)).trans set_same); replace mj := hu j _ (by simp only [set_ne j7, set_ne j6, set_ne jb]; exact mj); replace HU : Up h0 g2 := fun z b e => hu z b (by simp only [set_ne (nei e z7), set_ne (nei e zb)]; exact HU z b e); clear hu; refine nTm ?_) | (refine xCall rfl rfl (k24 _) ?_; rintro r g3 ⟨rfl, hu⟩; replace m2 := hu b2 _ (by simp only [set_ne n27, set_ne n26, set_ne n2b]; exact m2); replace m4 := hu b4 _ (by simp only [set_ne n47, set_ne n46, set_ne n4b]; exact m4); replace m6 := hu b6 _ (by simp only [set_ne n67, set_ne n6b]; exact m6); replace m7 := hu b7 _ (by first | exact set_same | exact (set_ne n7b).trans set_same | (simp only [set_ne n7b]; exact m7)); have m11 := hu b11 _ (by first | exact set_same | exact (set_ne (Ne.symm n7b)).trans set_same); replace mj := hu j _ (by simp only [set_ne j7, set_ne j6, set_ne jb]; exact mj); replace HU : Up h0 g3 := fun z b e => hu z b (by simp only [set_ne (nei e z7), set_ne (nei e zb)]; exact HU z b e); clear hu; refine nTm ?_) | (refine cSeq ?_) | (refine cNorm ?_) | (refine cRet ?_) | (refine cExit ?_) | (refine W_reg rfl ?_) | (refine W_block ?_) | (refine W_ret ?_) | (refine W_skip ?_) | (refine W_exit ?_) | (refine bNorm ?_) | (refine bRet ?_) | (refine bExit ?_) | (refine bExitN rfl ?_) | (refine xMask ?_) | (refine xT ?_) | (refine xF ?_) | (refine xRet ?_) | (refine xNorm ?_) | (refine xSplit ?_ ?_ <;> intro hb <;> (try exact False.elim hb)) | (refine xCond ?_ ?_ <;> intro hb <;> (try exact False.elim hb)))
          all_goals exact ⟨m, by omega, i + 1, R3, e3, (sl : Int), .slc bN 0 (L.length + 1) 4, L ++ [((sl : Int), y2, (y3 : Int), w)], by omega, by rw [List.length_append, List.length_cons, List.length_nil]; omega, ⟨(by repeat' (first | assumption | exact Up.refl _ | refine Up.new ?_ ?_)), (by simp only [set_ne n2N, set_ne n2B, set_ne n26, set_ne n27, set_ne n2b, set_ne (Ne.symm j2)]; exact m2), (by simp only [set_ne n4N, set_ne n4B, set_ne n46, set_ne n47, set_ne n4b, set_ne (Ne.symm j4)]; exact m4), set_same, (by simp only [set_ne n7N, set_ne n7B, set_ne (Ne.symm n67), set_ne n7b, set_ne (Ne.symm j7), set_same])⟩, .inr ⟨bN, zN, ⟨Ne.symm n2N, Ne.symm n4N, Ne.symm n6N, Ne.symm n7N⟩, by rw [eL], (set_ne (Ne.symm n6N)).trans (by rw [set_same, eN])⟩, by rw [hF, List.append_assoc]; rfl, by simp only [keep, List.contains_cons, List.contains_nil, Nat.reduceBEq, Bool.or_true, Bool.true_or, Bool.or_false, Bool.false_or, if_true, if_false, Bool.false_eq_true, beq_self_eq_true, Nat.zero_add, Nat.reduceAdd, eq_self]⟩
    · have he' : (e == 0) = false := by simpa using he
      rw [lpG_stop (.inr he), List.append_nil] at hF
      rw [hF]
      repeat' (first | (refine wNil ?_) | (refine xPure ?_) | (refine xMk ?_; intro id hid; (try simp only [set_none_iff] at hid); refine mkDo ?_) | (refine xChk ?_) | (refine xChkF ?_) | (refine xSkip ?_) | (exact tail56 h0 g b2 b4 b6 b7 inn s R e k k1 k2 k3 k4 C n1 s1 s2 ok x S L hD hR' hP hs hi) | (refine cSeq ?_) | (refine cNorm ?_) | (refine cRet ?_) | (refine cExit ?_) | (refine W_reg rfl ?_) | (refine W_block ?_) | (refine W_ret ?_) | (refine W_skip ?_) | (refine W_exit ?_) | (refine bNorm ?_) | (refine bRet ?_) | (refine bExit ?_) | (refine bExitN rfl ?_) | (refine xMask ?_) | (refine xT ?_) | (refine xF ?_) | (refine xRet ?_) | (refine xNorm ?_) | (refine xSplit ?_ ?_ <;> intro hb <;> (try exact False.elim hb)) | (refine xCond ?_ ?_ <;> intro hb <;> (try exact False.elim hb)))
end Go.Proofs.YtgekngfnhhdamaaI
set_option linter.unusedVariables false
set_option linter.unusedSimpArgs false
set_option maxRecDepth 100000
set_option maxHeartbeats 4000000
namespace Go.Proofs.YtgekngfnhhdamaaI
open Go Go.Proofs.YtgekngfnhhdamaaM
attribute [local go_sem] aop ev fg_slc fg_slk fg_ptr fg_bool fg_int fg_str fg_iface fg_func fg_agg fg_tup fg_nils fg_nilp fg_nilI fg_nilF fg_und aboundsK alen_nils alen_slc alen_slk aslice_nils aslice_slc aslice_slk awanted abin aun aint aeqn aeqc aeqs apart abounds abnd amaxi amaxiGo cells_agg cells_slc cells_slk cells_ptr cells_bool cells_int cells_str cells_iface cells_func cells_tup cells_nils cells_nilp cells_nilI cells_nilF cells_und sc_slc sc_slk sc_ptr sc_bool sc_int sc_str sc_iface sc_func sc_nils sc_nilp sc_nilI sc_nilF gd_zero gd_succ List.all_cons List.all_nil Bool.and_self Bool.and_true Bool.true_and List.length_cons List.length_nil Option.map_some Option.some.injEq cell_same cell_ne cell_ne' cellsAt_same cellsAt_ne cellsAt_ne' put_same put_of set_same set_ne set_ne' List.getElem?_cons_zero List.getElem?_cons_succ if_true if_false and_self and_true true_and ne_eq not_true_eq_false not_false_eq_true decide_true decide_false Bool.false_eq_true Bool.true_eq_false beq_self_eq_true bne_self_eq_false beq_true beq_false Bool.not_true Bool.not_false List.map_cons List.map_nil putL List.set_cons_zero List.set_cons_succ afill Nat.zero_le Nat.le_refl Nat.zero_add Nat.add_zero List.drop_zero List.drop_succ_cons List.take_zero List.take_succ_cons Bool.not_eq_true Bool.not_eq_false decide_eq_true_eq decide_eq_false_iff_not Int.toNat_zero Nat.sub_zero Int.toNat_natCast Bool.bne_true Bool.bne_false AH.cell AH.cellsAt AH.put Nat.mul_one Nat.one_mul Int.natCast_nonneg List.length_set bs_append bs_size bs_toList bs_extract bs_get List.append_nil Nat.sub_zero bne_self_eq_false beq_self_eq_true azeros Int.le_refl aapp
/-- Parse, the frame's inside being told. -/
def PM (h0 : AH) (k : Nat) (inn s : List UInt8) (v : AV) (h' : AH) : Prop :=
  let q2 := tN inn 0 11
  let q3 := tN q2.1 q2.2.1 11
  let q4 := tN q3.1 q3.2.1 3
  let q5 := gB q4.1 q4.2.1
  let q7 := tN q5.1 q5.2.1 1099511627776
  let q8 := tN q7.1 q7.2.1 1099511627776
  let q9 := tB q8.1 q8.2.1
  let q10 := tS q9.1 q9.2.1 131072
  let q := tN q10.1 q10.2.1 64
  let l := lpG q.2.2 q.1 q.2.1 (-1)
  PQ h0 (k : Int) (q2.2.2 : Int) (q3.2.2 : Int) (q4.2.2 : Int) q5.2.2.1 (q5.2.2.2 : Int) (q7.2.2 : Int) (q8.2.2 : Int) q9.2.2 q10.2.2 l.2.2 (dn l.1 (exE inn s l.2.1)) v h'
theorem tN_le (s : List UInt8) (e most : Int) (hm : 0 ≤ most) : ((tN s e most).2.2 : Int) ≤ most := by
  unfold tN
  split
  · simp; exact hm
  · omega
theorem Rd.poke {B g : AH} {p q : List Nat} {s : List UInt8} {e : Int} {a b : Option Blk} (hr : Rd (B.set q a) p g s e) (hq : q ≠ p) : Rd (B.set q b) p (g.set q b) s e := by
  have := Rd.both (b := b) hr hq
  rwa [set_set] at this
theorem sp55 (k : Nat) (inn s : List UInt8) (h : AH) (hk : k ≤ 13) (hs : s.length ≤ 1000000000) (hi : inn.length ≤ 1000000000) (hO : ∀ g, Sp T 68 [.str (bs s)] g (fun v g' => v = .tup [.int .u8 (k : Int), .str (bs inn), .int .i64 0] ∧ Up g g')) :
    Sp T 55 [.str (bs s)] h (PM h k inn s) := by
  have hu0 := Up.refl h
  have d1 : ¬ (k : Int) > 13 := by omega
  have w0 : IntKind.i64.wrap (k : Int) = (k : Int) := wrap64 (by omega) (by omega)
  unfold PM
  have k2' : ∀ (p : List Nat) (B h : AH), Rd B p h inn 0 → Sp T 21 [.ptr p 0, .int .i64 11] h (fun r h' => r = .int .i64 (tN inn 0 11).2.2 ∧ Rd B p h' (tN inn 0 11).1 (tN inn 0 11).2.1) := fun p B h hr => sp21 B p inn 0 11 h hr (by decide)
  obtain ⟨⟨R2, e2, a2⟩, hq⟩ : ∃ q, tN inn 0 11 = q := ⟨_, rfl⟩
  simp only [hq] at k2' ⊢
  clear hq
  have k3' : ∀ (p : List Nat) (B h : AH), Rd B p h R2 e2 → Sp T 21 [.ptr p 0, .int .i64 11] h (fun r h' => r = .int .i64 (tN R2 e2 11).2.2 ∧ Rd B p h' (tN R2 e2 11).1 (tN R2 e2 11).2.1) := fun p B h hr => sp21 B p R2 e2 11 h hr (by decide)
  obtain ⟨⟨R3, e3, a3⟩, hq⟩ : ∃ q, tN R2 e2 11 = q := ⟨_, rfl⟩
  simp only [hq] at k3' ⊢
  clear hq
  have k4' : ∀ (p : List Nat) (B h : AH), Rd B p h R3 e3 → Sp T 21 [.ptr p 0, .int .i64 3] h (fun r h' => r = .int .i64 (tN R3 e3 3).2.2 ∧ Rd B p h' (tN R3 e3 3).1 (tN R3 e3 3).2.1) := fun p B h hr => sp21 B p R3 e3 3 h hr (by decide)
  obtain ⟨⟨R4, e4, a4⟩, hq⟩ : ∃ q, tN R3 e3 3 = q := ⟨_, rfl⟩
  simp only [hq] at k4' ⊢
  clear hq
  have k5' : ∀ (p : List Nat) (B h : AH), Rd B p h R4 e4 → Sp T 37 [.ptr p 0] h (fun r h' => r = .agg [.int .u64 (gB R4 e4).2.2.1, .int .i64 (gB R4 e4).2.2.2] ∧ Rd B p h' (gB R4 e4).1 (gB R4 e4).2.1) := fun p B h hr => sp37 B p R4 e4 h hr
  obtain ⟨⟨R5, e5, a5, a6⟩, hq⟩ : ∃ q, gB R4 e4 = q := ⟨_, rfl⟩
  simp only [hq] at k5' ⊢
  clear hq
  have k7' : ∀ (p : List Nat) (B h : AH), Rd B p h R5 e5 → Sp T 21 [.ptr p 0, .int .i64 1099511627776] h (fun r h' => r = .int .i64 (tN R5 e5 1099511627776).2.2 ∧ Rd B p h' (tN R5 e5 1099511627776).1 (tN R5 e5 1099511627776).2.1) := fun p B h hr => sp21 B p R5 e5 1099511627776 h hr (by decide)
  obtain ⟨⟨R7, e7, a7⟩, hq⟩ : ∃ q, tN R5 e5 1099511627776 = q := ⟨_, rfl⟩
  simp only [hq] at k7' ⊢
  clear hq
  have k8' : ∀ (p : List Nat) (B h : AH), Rd B p h R7 e7 → Sp T 21 [.ptr p 0, .int .i64 1099511627776] h (fun r h' => r = .int .i64 (tN R7 e7 1099511627776).2.2 ∧ Rd B p h' (tN R7 e7 1099511627776).1 (tN R7 e7 1099511627776).2.1) := fun p B h hr => sp21 B p R7 e7 1099511627776 h hr (by decide)
  obtain ⟨⟨R8, e8, a8⟩, hq⟩ : ∃ q, tN R7 e7 1099511627776 = q := ⟨_, rfl⟩
  simp only [hq] at k8' ⊢
  clear hq
  have k9' : ∀ (p : List Nat) (B h : AH), Rd B p h R8 e8 → Sp T 23 [.ptr p 0] h (fun r h' => r = .bool (tB R8 e8).2.2 ∧ Rd B p h' (tB R8 e8).1 (tB R8 e8).2.1) := fun p B h hr => sp23 B p R8 e8 h hr
  obtain ⟨⟨R9, e9, a9⟩, hq⟩ : ∃ q, tB R8 e8 = q := ⟨_, rfl⟩
  simp only [hq] at k9' ⊢
  clear hq
  have k10' : ∀ (p : List Nat) (B h : AH), Rd B p h R9 e9 → Sp T 25 [.ptr p 0, .int .i64 131072] h (fun r h' => r = .str (bs (tS R9 e9 131072).2.2) ∧ Rd B p h' (tS R9 e9 131072).1 (tS R9 e9 131072).2.1) := fun p B h hr => sp25 B p R9 e9 131072 h hr (by decide)
  obtain ⟨⟨R10, e10, a10⟩, hq⟩ : ∃ q, tS R9 e9 131072 = q := ⟨_, rfl⟩
  simp only [hq] at k10' ⊢
  clear hq
  have hn64 := tN_le R10 e10 64 (by decide)
  have k11' : ∀ (p : List Nat) (B h : AH), Rd B p h R10 e10 → Sp T 21 [.ptr p 0, .int .i64 64] h (fun r h' => r = .int .i64 (tN R10 e10 64).2.2 ∧ Rd B p h' (tN R10 e10 64).1 (tN R10 e10 64).2.1) := fun p B h hr => sp21 B p R10 e10 64 h hr (by decide)
  obtain ⟨⟨R11, e11, n⟩, hq⟩ : ∃ q, tN R10 e10 64 = q := ⟨_, rfl⟩
  simp only [hq] at k11' hn64 ⊢
  clear hq
  refine Sp_of (fn := f55) rfl (show W T b55 [.str (bs s), .tup [], .tup [], .tup [], .tup [], .tup [], .tup [], .tup [], .tup [], .tup [], .tup [], .tup [], .tup [], .tup [], .tup [], .tup [], .tup [], .tup [], .tup [], .tup [], .tup [], .tup [], .tup [], .tup [], .tup [], .tup [], .tup [], .tup [], .tup [], .tup [], .tup [], .tup [], .tup [], .tup [], .tup [], .tup [], .tup [], .tup [], .tup [], .tup [], .tup [], .tup [], .tup [], .tup [], .tup [], .tup [], .tup [], .tup [], .tup [], .tup [], .tup [], .tup [], .tup [], .tup [], .tup [], .tup [], .tup [], .tup [], .tup [], .tup [], .tup [], .tup [], .tup [], .tup [], .tup [], .tup [], .tup [], .tup [], .tup [], .tup [], .tup [], .tup [], .tup [], .tup [], .tup [], .tup [], .tup [], .tup [], .tup [], .tup [], .tup [], .tup [], .tup [], .tup [], .tup [], .tup [], .tup [], .tup [], .tup [], .tup [], .tup [], .tup [], .tup []] _ _ from ?_)
  unfold b55
  repeat' (first | (refine wNil ?_) | (refine xPure ?_) | (refine xMk ?_; intro id hid; (try simp only [set_none_iff] at hid); have hz := hid; (repeat (replace hz := hz.2)); (try have := nei hb2 hz); (try have := nei gb1 hz); (try have := nei gb2 hz); (try have := nei hp1 hz); (try have := nei hp2 hz); (try have := Up.none hu0 hz); refine mkDo ?_) | (refine xChk ?_) | (refine xChkF ?_) | (refine xSkip ?_) | (refine xCall rfl rfl (hO _) ?_; rintro v j1 ⟨rfl, hu1⟩; have hb2 := hu1 _ _ set_same; have HU1 : Up h j1 := Up.trans (show Up h _ from (by repeat' (first | assumption | exact Up.refl _ | refine Up.new ?_ ?_))) hu1; obtain ⟨b2, hb0, e2⟩ : ∃ b, h b = none ∧ b = id := ⟨id, by assumption, rfl⟩; subst e2; have hid0' := hid; refine nTm ?_) | (refine xCall rfl rfl (sp17 inn _) ?_; rintro r h1 ⟨p, rfl, hr1⟩; have hp1 := hr1.2.2; have gb1 := hr1.1 _ _ hb2; have k2 := k2' p; have k3 := k3' p; have k4 := k4' p; have k5 := k5' p; have k7 := k7' p; have k8 := k8' p; have k9 := k9' p; have k10 := k10' p; have k11 := k11' p; refine nTm ?_) | (refine xCall rfl rfl (k2 _ _ hr1) ?_; rintro r h2 ⟨rfl, hr2⟩; have hp2 := hr2.2.2; have gb2 := hr2.1 _ _ hb2; refine nTm ?_) | (refine xCall rfl rfl (k3 _ _ (hr2.new2 hid)) ?_; rintro r h3 ⟨rfl, hr3⟩; have n8p := Ne.symm (nei hp2 hid); have n2i := nei gb2 hid; have hj8 := hr2.1.no hid; have hp3 := hr3.2.2; have g83 := hr3.1 _ _ set_same; have gb3 := hr3.1 _ _ ((set_ne n2i).trans hb2); refine nTm ?_) | (refine xCall rfl rfl (k4 _ _ (Rd.poke hr3 n8p)) ?_; rintro r h4 ⟨rfl, hr4⟩; have hp4 := hr4.2.2; have g84 := hr4.1 _ _ set_same; have gb4 := hr4.1 _ _ ((set_ne n2i).trans hb2); refine nTm ?_) | (refine xCall rfl rfl (k5 _ _ (Rd.poke hr4 n8p)) ?_; rintro r h5 ⟨rfl, hr5⟩; have hp5 := hr5.2.2; have g85 := hr5.1 _ _ set_same; have gb5 := hr5.1 _ _ ((set_ne n2i).trans hb2); refine nTm ?_) | (refine xCall rfl rfl (k7 _ _ (Rd.poke hr5 n8p)) ?_; rintro r h7 ⟨rfl, hr7⟩; have hp7 := hr7.2.2; have g87 := hr7.1 _ _ set_same; have gb7 := hr7.1 _ _ ((set_ne n2i).trans hb2); refine nTm ?_) | (refine xCall rfl rfl (k8 _ _ (Rd.poke hr7 n8p)) ?_; rintro r h8 ⟨rfl, hr8⟩; have hp8 := hr8.2.2; have g88 := hr8.1 _ _ set_same; have gb8 := hr8.1 _ _ ((set_ne n2i).trans hb2); refine nTm ?_) | (refine xCall rfl rfl (k9 _ _ (Rd.poke hr8 n8p)) ?_; rintro r h9 ⟨rfl, hr9⟩; have hp9 := hr9.2.2; have g89 := hr9.1 _ _ set_same; have gb9 := hr9.1 _ _ ((set_ne n2i).trans hb2); refine nTm ?_) | (refine xCall rfl rfl (k10 _ _ (Rd.poke hr9 n8p)) ?_; rintro r h10 ⟨rfl, hr10⟩; have hp10 := hr10.2.2; have g810 := hr10.1 _ _ set_same; have gb10 := hr10.1 _ _ ((set_ne n2i).trans hb2); refine nTm ?_) | (refine xCall rfl rfl (k11 _ _ (Rd.poke hr10 n8p)) ?_; rintro r h11 ⟨rfl, hr11⟩; have hp11 := hr11.2.2; have g811 := hr11.1 _ _ set_same; have gb11 := hr11.1 _ _ ((set_ne n2i).trans hb2); refine nTm ?_) | (exact loop55 h _ _ b2 _ p inn s R11 e11 (k : Int) (a2 : Int) (a3 : Int) (a4 : Int) a5 (a6 : Int) (a7 : Int) (a8 : Int) a9 a10 .nils [] ⟨Sub.set (show Sub h j1 from HU1) (Sub.no (show Sub h j1 from HU1) hj8), hb0, Sub.no (show Sub h j1 from HU1) hj8, n2i, (set_ne n2i).trans hb2, set_same⟩ (.inl ⟨rfl, rfl⟩) hr11 hs hi n (by omega) rfl _ rfl) | (refine cSeq ?_) | (refine cNorm ?_) | (refine cRet ?_) | (refine cExit ?_) | (refine W_reg rfl ?_) | (refine W_block ?_) | (refine W_ret ?_) | (refine W_skip ?_) | (refine W_exit ?_) | (refine bNorm ?_) | (refine bRet ?_) | (refine bExit ?_) | (refine bExitN rfl ?_) | (refine xMask ?_) | (refine xT ?_) | (refine xF ?_) | (refine xRet ?_) | (refine xNorm ?_) | (refine xSplit ?_ ?_ <;> intro hb <;> (try exact False.elim hb)) | (refine xCond ?_ ?_ <;> intro hb <;> (try exact False.elim hb)))
end Go.Proofs.YtgekngfnhhdamaaI
