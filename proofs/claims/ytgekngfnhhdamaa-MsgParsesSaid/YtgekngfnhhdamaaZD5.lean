/- What the statement's proof needs (joined out of several texts); no conditions. -/
import Derived.Test.YtgekngfnhhdamaaZD4
set_option linter.unusedVariables false
set_option linter.unusedSimpArgs false
set_option maxRecDepth 100000
set_option maxHeartbeats 4000000
namespace Go.Proofs.YtgekngfnhhdamaaI
open Go Go.Proofs.YtgekngfnhhdamaaM
attribute [local go_sem] aop ev fg_slc fg_slk fg_ptr fg_bool fg_int fg_str fg_iface fg_func fg_agg fg_tup fg_nils fg_nilp fg_nilI fg_nilF fg_und aboundsK alen_nils alen_slc alen_slk aslice_nils aslice_slc aslice_slk awanted abin aun aint aeqn aeqc aeqs apart abounds abnd amaxi amaxiGo cells_agg cells_slc cells_slk cells_ptr cells_bool cells_int cells_str cells_iface cells_func cells_tup cells_nils cells_nilp cells_nilI cells_nilF cells_und sc_slc sc_slk sc_ptr sc_bool sc_int sc_str sc_iface sc_func sc_nils sc_nilp sc_nilI sc_nilF gd_zero gd_succ List.all_cons List.all_nil Bool.and_self Bool.and_true Bool.true_and List.length_cons List.length_nil Option.map_some Option.some.injEq cell_same cell_ne cell_ne' cellsAt_same cellsAt_ne cellsAt_ne' put_same put_of set_same set_ne set_ne' List.getElem?_cons_zero List.getElem?_cons_succ if_true if_false and_self and_true true_and ne_eq not_true_eq_false not_false_eq_true decide_true decide_false Bool.false_eq_true Bool.true_eq_false beq_self_eq_true bne_self_eq_false beq_true beq_false Bool.not_true Bool.not_false List.map_cons List.map_nil putL List.set_cons_zero List.set_cons_succ afill Nat.zero_le Nat.le_refl Nat.zero_add Nat.add_zero List.drop_zero List.drop_succ_cons List.take_zero List.take_succ_cons Bool.not_eq_true Bool.not_eq_false decide_eq_true_eq decide_eq_false_iff_not Int.toNat_zero Nat.sub_zero Int.toNat_natCast Bool.bne_true Bool.bne_false AH.cell AH.cellsAt AH.put Nat.mul_one Nat.one_mul Int.natCast_nonneg List.length_set bs_append bs_size bs_toList bs_extract bs_get List.append_nil Nat.sub_zero bne_self_eq_false beq_self_eq_true azeros Int.le_refl aapp
/-- Parse of any bytes. -/
def PF (h0 : AH) (s : List UInt8) (v : AV) (h' : AH) : Prop :=
  (¬ (opn s).2.2 = 0 → v = .tup [.agg [.int .i64 0, .int .i64 0, .int .i64 0, .int .i64 0, .int .u64 0, .int .i64 0, .int .i64 0, .int .i64 0, .bool false, .str ⟨#[]⟩, .nils], .int .i64 (opn s).2.2] ∧ Up h0 h') ∧ ((opn s).2.2 = 0 ∧ 13 < (opn s).1 → v = .tup [.agg [.int .i64 0, .int .i64 0, .int .i64 0, .int .i64 0, .int .u64 0, .int .i64 0, .int .i64 0, .int .i64 0, .bool false, .str ⟨#[]⟩, .nils], .int .i64 1] ∧ Up h0 h') ∧ ((opn s).2.2 = 0 ∧ (opn s).1 ≤ 13 → PM h0 (opn s).1 (opn s).2.1 s v h')
theorem opn_len (s : List UInt8) : (opn s).2.1.length ≤ s.length ∧ (opn s).1 ≤ 255 := by
  unfold opn
  have := (s.getD 0 0).toNat_lt
  repeat' split
  all_goals (simp only [List.length_nil, List.length_take, List.length_drop]; omega)
/-- Parse -/
theorem sp55a (s : List UInt8) (h : AH) (hs : s.length ≤ 1000000) : Sp T 55 [.str (bs s)] h (PF h s) := by
  obtain ⟨l1, l2⟩ := opn_len s
  have k68 := fun g => sp68 s g hs
  have hz : (opn s).2.2 = 0 ∧ (opn s).1 ≤ 13 → Sp T 55 [.str (bs s)] h (PM h (opn s).1 (opn s).2.1 s) := fun hh => sp55 (opn s).1 (opn s).2.1 s h hh.2 (by omega) (by omega) (fun g => by have := k68 g; rwa [hh.1] at this)
  unfold PF
  obtain ⟨⟨k, inn, eo⟩, ho⟩ : ∃ q, opn s = q := ⟨_, rfl⟩
  simp only [ho] at k68 hz l1 l2 ⊢
  clear ho
  by_cases he : eo = 0
  · subst he
    by_cases hk : k ≤ 13
    · exact Sp.mono (hz ⟨rfl, hk⟩) fun v h' hp => ⟨fun h => absurd rfl h, fun h => absurd h.2 (by omega), fun _ => hp⟩
    · have d1 : (k : Int) > 13 := by omega
      clear hz
      refine Sp_of (fn := f55) rfl (show W T b55 [.str (bs s), .tup [], .tup [], .tup [], .tup [], .tup [], .tup [], .tup [], .tup [], .tup [], .tup [], .tup [], .tup [], .tup [], .tup [], .tup [], .tup [], .tup [], .tup [], .tup [], .tup [], .tup [], .tup [], .tup [], .tup [], .tup [], .tup [], .tup [], .tup [], .tup [], .tup [], .tup [], .tup [], .tup [], .tup [], .tup [], .tup [], .tup [], .tup [], .tup [], .tup [], .tup [], .tup [], .tup [], .tup [], .tup [], .tup [], .tup [], .tup [], .tup [], .tup [], .tup [], .tup [], .tup [], .tup [], .tup [], .tup [], .tup [], .tup [], .tup [], .tup [], .tup [], .tup [], .tup [], .tup [], .tup [], .tup [], .tup [], .tup [], .tup [], .tup [], .tup [], .tup [], .tup [], .tup [], .tup [], .tup [], .tup [], .tup [], .tup [], .tup [], .tup [], .tup [], .tup [], .tup [], .tup [], .tup [], .tup [], .tup [], .tup [], .tup [], .tup [], .tup []] _ _ from ?_)
      unfold b55
      repeat' (first | (refine wNil ?_) | (refine xPure ?_) | (refine xMk ?_; intro id hid; (try simp only [set_none_iff] at hid); refine mkDo ?_) | (refine xChk ?_) | (refine xChkF ?_) | (refine xSkip ?_) | (refine xCall rfl rfl (k68 _) ?_; rintro v j1 ⟨rfl, hu⟩; have m2 := hu _ _ set_same; have HU : Up h j1 := fun z b e => hu z b ((set_ne (nei e hid)).trans e); refine nTm ?_) | (refine cSeq ?_) | (refine cNorm ?_) | (refine cRet ?_) | (refine cExit ?_) | (refine W_reg rfl ?_) | (refine W_block ?_) | (refine W_ret ?_) | (refine W_skip ?_) | (refine W_exit ?_) | (refine bNorm ?_) | (refine bRet ?_) | (refine bExit ?_) | (refine bExitN rfl ?_) | (refine xMask ?_) | (refine xT ?_) | (refine xF ?_) | (refine xRet ?_) | (refine xNorm ?_) | (refine xSplit ?_ ?_ <;> intro hb <;> (try exact False.elim hb)) | (refine xCond ?_ ?_ <;> intro hb <;> (try exact False.elim hb)))
      all_goals (refine ⟨[.agg [.int .i64 0, .int .i64 0, .int .i64 0, .int .i64 0, .int .u64 0, .int .i64 0, .int .i64 0, .int .i64 0, .bool false, .str ⟨#[]⟩, .nils], .int .i64 1], (by simp [ares, ares1, f55, ev, AH.cellsAt, AH.cell, set_same, set_ne', *]), fun h => absurd rfl h, fun _ => ⟨rfl, fun z b e => by rw [set_ne (nei e (by assumption))]; exact HU z b e⟩, fun h => absurd h.2 hk⟩)
  · have he1 : (eo != 0) = true := by simpa using he
    clear hz
    refine Sp_of (fn := f55) rfl (show W T b55 [.str (bs s), .tup [], .tup [], .tup [], .tup [], .tup [], .tup [], .tup [], .tup [], .tup [], .tup [], .tup [], .tup [], .tup [], .tup [], .tup [], .tup [], .tup [], .tup [], .tup [], .tup [], .tup [], .tup [], .tup [], .tup [], .tup [], .tup [], .tup [], .tup [], .tup [], .tup [], .tup [], .tup [], .tup [], .tup [], .tup [], .tup [], .tup [], .tup [], .tup [], .tup [], .tup [], .tup [], .tup [], .tup [], .tup [], .tup [], .tup [], .tup [], .tup [], .tup [], .tup [], .tup [], .tup [], .tup [], .tup [], .tup [], .tup [], .tup [], .tup [], .tup [], .tup [], .tup [], .tup [], .tup [], .tup [], .tup [], .tup [], .tup [], .tup [], .tup [], .tup [], .tup [], .tup [], .tup [], .tup [], .tup [], .tup [], .tup [], .tup [], .tup [], .tup [], .tup [], .tup [], .tup [], .tup [], .tup [], .tup [], .tup [], .tup [], .tup [], .tup [], .tup []] _ _ from ?_)
    unfold b55
    repeat' (first | (refine wNil ?_) | (refine xPure ?_) | (refine xMk ?_; intro id hid; (try simp only [set_none_iff] at hid); refine mkDo ?_) | (refine xChk ?_) | (refine xChkF ?_) | (refine xSkip ?_) | (refine xCall rfl rfl (k68 _) ?_; rintro v j1 ⟨rfl, hu⟩; have m2 := hu _ _ set_same; have HU : Up h j1 := fun z b e => hu z b ((set_ne (nei e hid)).trans e); refine nTm ?_) | (refine cSeq ?_) | (refine cNorm ?_) | (refine cRet ?_) | (refine cExit ?_) | (refine W_reg rfl ?_) | (refine W_block ?_) | (refine W_ret ?_) | (refine W_skip ?_) | (refine W_exit ?_) | (refine bNorm ?_) | (refine bRet ?_) | (refine bExit ?_) | (refine bExitN rfl ?_) | (refine xMask ?_) | (refine xT ?_) | (refine xF ?_) | (refine xRet ?_) | (refine xNorm ?_) | (refine xSplit ?_ ?_ <;> intro hb <;> (try exact False.elim hb)) | (refine xCond ?_ ?_ <;> intro hb <;> (try exact False.elim hb)))
    all_goals (refine ⟨[.agg [.int .i64 0, .int .i64 0, .int .i64 0, .int .i64 0, .int .u64 0, .int .i64 0, .int .i64 0, .int .i64 0, .bool false, .str ⟨#[]⟩, .nils], .int .i64 eo], (by simp [ares, ares1, f55, ev, AH.cellsAt, AH.cell, set_same, set_ne', *]), fun _ => ⟨rfl, fun z b e => by rw [set_ne (nei e (by assumption))]; exact HU z b e⟩, fun h => absurd h.1 he, fun h => absurd h.1 he⟩)
/-- the document's Parse -/
theorem sp56a (s : List UInt8) (h : AH) (hs : s.length ≤ 1000000) : Sp T 56 [.str (bs s)] h (PF h s) := by
  obtain ⟨l1, l2⟩ := opn_len s
  have k79 := fun g => sp79 s g hs
  unfold PF
  obtain ⟨⟨k, inn, eo⟩, ho⟩ : ∃ q, opn s = q := ⟨_, rfl⟩
  simp only [ho] at k79 l1 l2 ⊢
  clear ho
  by_cases he : eo = 0
  · subst he
    by_cases hk : k ≤ 13
    · have d1 : ¬ (k : Int) > 13 := by omega
      have w0 : IntKind.i64.wrap (k : Int) = (k : Int) := wrap64 (by omega) (by omega)
      suffices hh : Sp T 56 [.str (bs s)] h (PM h k inn s) from Sp.mono hh fun v h' hp => ⟨fun h => absurd rfl h, fun h => absurd h.2 (by omega), fun _ => hp⟩
      unfold PM
      have k2 := fun h => sp20 inn 0 11 h (by decide)
      obtain ⟨⟨R2, e2, a2⟩, hq⟩ : ∃ q, tN inn 0 11 = q := ⟨_, rfl⟩
      simp only [hq] at k2 ⊢
      clear hq
      have k3 := fun h => sp20 R2 e2 11 h (by decide)
      obtain ⟨⟨R3, e3, a3⟩, hq⟩ : ∃ q, tN R2 e2 11 = q := ⟨_, rfl⟩
      simp only [hq] at k3 ⊢
      clear hq
      have k4 := fun h => sp20 R3 e3 3 h (by decide)
      obtain ⟨⟨R4, e4, a4⟩, hq⟩ : ∃ q, tN R3 e3 3 = q := ⟨_, rfl⟩
      simp only [hq] at k4 ⊢
      clear hq
      have k5 := fun h => sp38 R4 e4 h
      obtain ⟨⟨R5, e5, a5, a6⟩, hq⟩ : ∃ q, gB R4 e4 = q := ⟨_, rfl⟩
      simp only [hq] at k5 ⊢
      clear hq
      have k7 := fun h => sp20 R5 e5 1099511627776 h (by decide)
      obtain ⟨⟨R7, e7, a7⟩, hq⟩ : ∃ q, tN R5 e5 1099511627776 = q := ⟨_, rfl⟩
      simp only [hq] at k7 ⊢
      clear hq
      have k8 := fun h => sp20 R7 e7 1099511627776 h (by decide)
      obtain ⟨⟨R8, e8, a8⟩, hq⟩ : ∃ q, tN R7 e7 1099511627776 = q := ⟨_, rfl⟩
      simp only [hq] at k8 ⊢
      clear hq
      have k9 := fun h => sp22 R8 e8 h
      obtain ⟨⟨R9, e9, a9⟩, hq⟩ : ∃ q, tB R8 e8 = q := ⟨_, rfl⟩
      simp only [hq] at k9 ⊢
      clear hq
      have k10 := fun h => sp24 R9 e9 131072 h (by decide)
      obtain ⟨⟨R10, e10, a10⟩, hq⟩ : ∃ q, tS R9 e9 131072 = q := ⟨_, rfl⟩
      simp only [hq] at k10 ⊢
      clear hq
      have hn64 := tN_le R10 e10 64 (by decide)
      have k11 := fun h => sp20 R10 e10 64 h (by decide)
      obtain ⟨⟨R11, e11, n⟩, hq⟩ : ∃ q, tN R10 e10 64 = q := ⟨_, rfl⟩
      simp only [hq] at k11 hn64 ⊢
      clear hq
      refine Sp_of (fn := f56) rfl (show W T b56 [.str (bs s), .tup [], .tup [], .tup [], .tup [], .tup [], .tup [], .tup [], .tup [], .tup [], .tup [], .tup [], .tup [], .tup [], .tup [], .tup [], .tup [], .tup [], .tup [], .tup [], .tup [], .tup [], .tup [], .tup [], .tup [], .tup [], .tup [], .tup [], .tup [], .tup [], .tup [], .tup [], .tup [], .tup [], .tup [], .tup [], .tup [], .tup [], .tup [], .tup [], .tup [], .tup [], .tup [], .tup [], .tup [], .tup [], .tup [], .tup [], .tup [], .tup [], .tup [], .tup [], .tup [], .tup [], .tup [], .tup [], .tup [], .tup [], .tup [], .tup [], .tup [], .tup [], .tup [], .tup [], .tup [], .tup [], .tup [], .tup [], .tup [], .tup [], .tup [], .tup [], .tup [], .tup [], .tup [], .tup [], .tup [], .tup [], .tup [], .tup [], .tup [], .tup [], .tup [], .tup [], .tup [], .tup [], .tup [], .tup [], .tup [], .tup [], .tup [], .tup [], .tup [], .tup [], .tup [], .tup [], .tup [], .tup [], .tup [], .tup [], .tup [], .tup [], .tup [], .tup [], .tup [], .tup [], .tup [], .tup [], .tup [], .tup [], .tup [], .tup [], .tup [], .tup [], .tup [], .tup [], .tup [], .tup [], .tup [], .tup [], .tup [], .tup [], .tup [], .tup [], .tup [], .tup [], .tup [], .tup [], .tup [], .tup [], .tup [], .tup [], .tup [], .tup [], .tup [], .tup [], .tup [], .tup [], .tup [], .tup [], .tup [], .tup [], .tup [], .tup [], .tup [], .tup [], .tup [], .tup [], .tup [], .tup [], .tup [], .tup [], .tup [], .tup [], .tup [], .tup [], .tup []] _ _ from ?_)
      unfold b56
      repeat' (first | (refine wNil ?_) | (refine xPure ?_) | (refine xMk (o := ⟨some 2, _, _⟩) ?_; intro b2 hb2; (try simp only [set_none_iff] at hb2); skip; refine mkDo ?_) | (refine xMk (o := ⟨some 4, _, _⟩) ?_; intro b4 hb4; (try simp only [set_none_iff] at hb4); have n24 := nei m2 hb4; have z4 := Up.none HU1 hb4; refine mkDo ?_) | (refine xMk (o := ⟨some 6, _, _⟩) ?_; intro b6 hb6; (try simp only [set_none_iff] at hb6); obtain ⟨q1, q2, q3⟩ := hb6; have n46 := Ne.symm q1; have n26 := nei m2 q3; have z6 := Up.none HU1 q3; clear q1 q2; refine mkDo ?_) | (refine xMk (o := ⟨some 7, _, _⟩) ?_; intro b7 hb7; (try simp only [set_none_iff] at hb7); obtain ⟨q1, q2, q4, q5, q6⟩ := hb7; have n67 := Ne.symm q1; have n47 := Ne.symm q4; have n27 := nei m2 q6; have z7 := Up.none HU1 q6; clear q1 q2 q4 q5; refine mkDo ?_) | (refine xMk ?_; intro id hid; (try simp only [set_none_iff] at hid); refine mkDo ?_) | (refine xChk ?_) | (refine xChkF ?_) | (refine xSkip ?_) | (refine xCall rfl rfl (k79 _) ?_; rintro v j1 ⟨rfl, hu⟩; have m2 := hu _ _ set_same; have HU1 : Up h j1 := fun z b e => hu z b ((set_ne (nei e hb2)).trans e); clear hu; refine nTm ?_) | (refine xCall rfl rfl (k2 _) ?_; rintro r g2 ⟨rfl, hu⟩; replace m2 := hu b2 _ (by simp only [set_ne n24, set_ne n26, set_ne n27]; exact m2); have m4 := hu b4 _ ((set_ne n47).trans ((set_ne n47).trans ((set_ne n46).trans ((set_ne n46).trans set_same)))); have m6 := hu b6 _ ((set_ne n67).trans ((set_ne n67).trans set_same)); have m7 := hu b7 _ set_same; have HU : Up h g2 := (fun z b e => hu z b (by simp only [set_ne (nei e z4), set_ne (nei e z6), set_ne (nei e z7)]; exact HU1 z b e)); clear hu; refine nTm ?_) | (refine xCall rfl rfl (k3 _) ?_; rintro r g3 ⟨rfl, hu⟩; replace m2 := hu b2 _ (by simp only [set_ne n26, set_ne n27]; exact m2); replace m4 := hu b4 _ (by simp only [set_ne n46, set_ne n47]; exact m4); replace m6 := hu b6 _ set_same; replace m7 := hu b7 _ ((set_ne (Ne.symm n67)).trans set_same); replace HU : Up h g3 := (fun z b e => hu z b (by simp only [set_ne (nei e z6), set_ne (nei e z7)]; exact HU z b e)); clear hu; refine nTm ?_) | (refine xCall rfl rfl (k4 _) ?_; rintro r g4 ⟨rfl, hu⟩; replace m2 := hu b2 _ (by simp only [set_ne n26, set_ne n27]; exact m2); replace m4 := hu b4 _ (by simp only [set_ne n46, set_ne n47]; exact m4); replace m6 := hu b6 _ set_same; replace m7 := hu b7 _ ((set_ne (Ne.symm n67)).trans set_same); replace HU : Up h g4 := (fun z b e => hu z b (by simp only [set_ne (nei e z6), set_ne (nei e z7)]; exact HU z b e)); clear hu; refine nTm ?_) | (refine xCall rfl rfl (k5 _) ?_; rintro r g5 ⟨rfl, hu⟩; replace m2 := hu b2 _ (by simp only [set_ne n26, set_ne n27]; exact m2); replace m4 := hu b4 _ (by simp only [set_ne n46, set_ne n47]; exact m4); replace m6 := hu b6 _ set_same; replace m7 := hu b7 _ ((set_ne (Ne.symm n67)).trans set_same); replace HU : Up h g5 := (fun z b e => hu z b (by simp only [set_ne (nei e z6), set_ne (nei e z7)]; exact HU z b e)); clear hu; refine nTm ?_) | (refine xCall rfl rfl (k7 _) ?_; rintro r g7 ⟨rfl, hu⟩; replace m2 := hu b2 _ (by simp only [set_ne n26, set_ne n27]; exact m2); replace m4 := hu b4 _ (by simp only [set_ne n46, set_ne n47]; exact m4); replace m6 := hu b6 _ set_same; replace m7 := hu b7 _ ((set_ne (Ne.symm n67)).trans set_same); replace HU : Up h g7 := (fun z b e => hu z b (by simp only [set_ne (nei e z6), set_ne (nei e z7)]; exact HU z b e)); clear hu; refine nTm ?_) | (refine xCall rfl rfl (k8 _) ?_; rintro r g8 ⟨rfl, hu⟩; replace m2 := hu b2 _ (by simp only [set_ne n26, set_ne n27]; exact m2); replace m4 := hu b4 _ (by simp only [set_ne n46, set_ne n47]; exact m4); replace m6 := hu b6 _ set_same; replace m7 := hu b7 _ ((set_ne (Ne.symm n67)).trans set_same); replace HU : Up h g8 := (fun z b e => hu z b (by simp only [set_ne (nei e z6), set_ne (nei e z7)]; exact HU z b e)); clear hu; refine nTm ?_) | (refine xCall rfl rfl (k9 _) ?_; rintro r g9 ⟨rfl, hu⟩; replace m2 := hu b2 _ (by simp only [set_ne n26, set_ne n27]; exact m2); replace m4 := hu b4 _ (by simp only [set_ne n46, set_ne n47]; exact m4); replace m6 := hu b6 _ set_same; replace m7 := hu b7 _ ((set_ne (Ne.symm n67)).trans set_same); replace HU : Up h g9 := (fun z b e => hu z b (by simp only [set_ne (nei e z6), set_ne (nei e z7)]; exact HU z b e)); clear hu; refine nTm ?_) | (refine xCall rfl rfl (k10 _) ?_; rintro r g10 ⟨rfl, hu⟩; replace m2 := hu b2 _ (by simp only [set_ne n26, set_ne n27]; exact m2); replace m4 := hu b4 _ (by simp only [set_ne n46, set_ne n47]; exact m4); replace m6 := hu b6 _ set_same; replace m7 := hu b7 _ ((set_ne (Ne.symm n67)).trans set_same); replace HU : Up h g10 := (fun z b e => hu z b (by simp only [set_ne (nei e z6), set_ne (nei e z7)]; exact HU z b e)); clear hu; refine nTm ?_) | (refine xCall rfl rfl (k11 _) ?_; rintro r g11 ⟨rfl, hu⟩; replace m2 := hu b2 _ (by simp only [set_ne n26, set_ne n27]; exact m2); replace m4 := hu b4 _ (by simp only [set_ne n46, set_ne n47]; exact m4); replace m6 := hu b6 _ set_same; replace m7 := hu b7 _ ((set_ne (Ne.symm n67)).trans set_same); replace HU : Up h g11 := (fun z b e => hu z b (by simp only [set_ne (nei e z6), set_ne (nei e z7)]; exact HU z b e)); clear hu; refine nTm ?_) | (exact loop56 h _ b2 b4 b6 b7 inn s R11 e11 k (k : Int) (a2 : Int) (a3 : Int) (a4 : Int) a5 (a6 : Int) (a7 : Int) (a8 : Int) a9 a10 .nils [] ⟨⟨hb2, z4, z6, z7⟩, n24, n26, n27, n46, n47, n67⟩ ⟨(fun z b e => by rw [set_ne (nei e z7)]; exact HU z b e), (set_ne n27).trans m2, (set_ne n47).trans m4, (set_ne n67).trans m6, set_same⟩ (.inl ⟨rfl, rfl⟩) (by omega) (by omega) n (by omega) rfl _ rfl) | (refine cSeq ?_) | (refine cNorm ?_) | (refine cRet ?_) | (refine cExit ?_) | (refine W_reg rfl ?_) | (refine W_block ?_) | (refine W_ret ?_) | (refine W_skip ?_) | (refine W_exit ?_) | (refine bNorm ?_) | (refine bRet ?_) | (refine bExit ?_) | (refine bExitN rfl ?_) | (refine xMask ?_) | (refine xT ?_) | (refine xF ?_) | (refine xRet ?_) | (refine xNorm ?_) | (refine xSplit ?_ ?_ <;> intro hb <;> (try exact False.elim hb)) | (refine xCond ?_ ?_ <;> intro hb <;> (try exact False.elim hb)))
    · have d1 : (k : Int) > 13 := by omega
      refine Sp_of (fn := f56) rfl (show W T b56 [.str (bs s), .tup [], .tup [], .tup [], .tup [], .tup [], .tup [], .tup [], .tup [], .tup [], .tup [], .tup [], .tup [], .tup [], .tup [], .tup [], .tup [], .tup [], .tup [], .tup [], .tup [], .tup [], .tup [], .tup [], .tup [], .tup [], .tup [], .tup [], .tup [], .tup [], .tup [], .tup [], .tup [], .tup [], .tup [], .tup [], .tup [], .tup [], .tup [], .tup [], .tup [], .tup [], .tup [], .tup [], .tup [], .tup [], .tup [], .tup [], .tup [], .tup [], .tup [], .tup [], .tup [], .tup [], .tup [], .tup [], .tup [], .tup [], .tup [], .tup [], .tup [], .tup [], .tup [], .tup [], .tup [], .tup [], .tup [], .tup [], .tup [], .tup [], .tup [], .tup [], .tup [], .tup [], .tup [], .tup [], .tup [], .tup [], .tup [], .tup [], .tup [], .tup [], .tup [], .tup [], .tup [], .tup [], .tup [], .tup [], .tup [], .tup [], .tup [], .tup [], .tup [], .tup [], .tup [], .tup [], .tup [], .tup [], .tup [], .tup [], .tup [], .tup [], .tup [], .tup [], .tup [], .tup [], .tup [], .tup [], .tup [], .tup [], .tup [], .tup [], .tup [], .tup [], .tup [], .tup [], .tup [], .tup [], .tup [], .tup [], .tup [], .tup [], .tup [], .tup [], .tup [], .tup [], .tup [], .tup [], .tup [], .tup [], .tup [], .tup [], .tup [], .tup [], .tup [], .tup [], .tup [], .tup [], .tup [], .tup [], .tup [], .tup [], .tup [], .tup [], .tup [], .tup [], .tup [], .tup [], .tup [], .tup [], .tup [], .tup [], .tup [], .tup [], .tup [], .tup [], .tup []] _ _ from ?_)
      unfold b56
      repeat' (first | (refine wNil ?_) | (refine xPure ?_) | (refine xMk (o := ⟨some 2, _, _⟩) ?_; intro b2 hb2; (try simp only [set_none_iff] at hb2); skip; refine mkDo ?_) | (refine xMk (o := ⟨some 4, _, _⟩) ?_; intro b4 hb4; (try simp only [set_none_iff] at hb4); have n24 := nei m2 hb4; have z4 := Up.none HU1 hb4; refine mkDo ?_) | (refine xMk (o := ⟨some 6, _, _⟩) ?_; intro b6 hb6; (try simp only [set_none_iff] at hb6); obtain ⟨q1, q2, q3⟩ := hb6; have n46 := Ne.symm q1; have n26 := nei m2 q3; have z6 := Up.none HU1 q3; clear q1 q2; refine mkDo ?_) | (refine xMk (o := ⟨some 7, _, _⟩) ?_; intro b7 hb7; (try simp only [set_none_iff] at hb7); obtain ⟨q1, q2, q4, q5, q6⟩ := hb7; have n67 := Ne.symm q1; have n47 := Ne.symm q4; have n27 := nei m2 q6; have z7 := Up.none HU1 q6; clear q1 q2 q4 q5; refine mkDo ?_) | (refine xMk ?_; intro id hid; (try simp only [set_none_iff] at hid); refine mkDo ?_) | (refine xChk ?_) | (refine xChkF ?_) | (refine xSkip ?_) | (refine xCall rfl rfl (k79 _) ?_; rintro v j1 ⟨rfl, hu⟩; have m2 := hu _ _ set_same; have HU1 : Up h j1 := fun z b e => hu z b ((set_ne (nei e hb2)).trans e); clear hu; refine nTm ?_) | (refine cSeq ?_) | (refine cNorm ?_) | (refine cRet ?_) | (refine cExit ?_) | (refine W_reg rfl ?_) | (refine W_block ?_) | (refine W_ret ?_) | (refine W_skip ?_) | (refine W_exit ?_) | (refine bNorm ?_) | (refine bRet ?_) | (refine bExit ?_) | (refine bExitN rfl ?_) | (refine xMask ?_) | (refine xT ?_) | (refine xF ?_) | (refine xRet ?_) | (refine xNorm ?_) | (refine xSplit ?_ ?_ <;> intro hb <;> (try exact False.elim hb)) | (refine xCond ?_ ?_ <;> intro hb <;> (try exact False.elim hb)))
      all_goals (refine ⟨[.agg [.int .i64 0, .int .i64 0, .int .i64 0, .int .i64 0, .int .u64 0, .int .i64 0, .int .i64 0, .int .i64 0, .bool false, .str ⟨#[]⟩, .nils], .int .i64 1], (by simp [ares, ares1, f56, ev, AH.cellsAt, AH.cell, set_same, set_ne', *]), fun h => absurd rfl h, fun _ => ⟨rfl, fun z b e => by simp only [set_ne (nei e hb2), set_ne (nei e z4)]; exact HU1 z b e⟩, fun h => absurd h.2 hk⟩)
  · have he1 : (eo != 0) = true := by simpa using he
    refine Sp_of (fn := f56) rfl (show W T b56 [.str (bs s), .tup [], .tup [], .tup [], .tup [], .tup [], .tup [], .tup [], .tup [], .tup [], .tup [], .tup [], .tup [], .tup [], .tup [], .tup [], .tup [], .tup [], .tup [], .tup [], .tup [], .tup [], .tup [], .tup [], .tup [], .tup [], .tup [], .tup [], .tup [], .tup [], .tup [], .tup [], .tup [], .tup [], .tup [], .tup [], .tup [], .tup [], .tup [], .tup [], .tup [], .tup [], .tup [], .tup [], .tup [], .tup [], .tup [], .tup [], .tup [], .tup [], .tup [], .tup [], .tup [], .tup [], .tup [], .tup [], .tup [], .tup [], .tup [], .tup [], .tup [], .tup [], .tup [], .tup [], .tup [], .tup [], .tup [], .tup [], .tup [], .tup [], .tup [], .tup [], .tup [], .tup [], .tup [], .tup [], .tup [], .tup [], .tup [], .tup [], .tup [], .tup [], .tup [], .tup [], .tup [], .tup [], .tup [], .tup [], .tup [], .tup [], .tup [], .tup [], .tup [], .tup [], .tup [], .tup [], .tup [], .tup [], .tup [], .tup [], .tup [], .tup [], .tup [], .tup [], .tup [], .tup [], .tup [], .tup [], .tup [], .tup [], .tup [], .tup [], .tup [], .tup [], .tup [], .tup [], .tup [], .tup [], .tup [], .tup [], .tup [], .tup [], .tup [], .tup [], .tup [], .tup [], .tup [], .tup [], .tup [], .tup [], .tup [], .tup [], .tup [], .tup [], .tup [], .tup [], .tup [], .tup [], .tup [], .tup [], .tup [], .tup [], .tup [], .tup [], .tup [], .tup [], .tup [], .tup [], .tup [], .tup [], .tup [], .tup [], .tup [], .tup [], .tup [], .tup [], .tup []] _ _ from ?_)
    unfold b56
    repeat' (first | (refine wNil ?_) | (refine xPure ?_) | (refine xMk (o := ⟨some 2, _, _⟩) ?_; intro b2 hb2; (try simp only [set_none_iff] at hb2); skip; refine mkDo ?_) | (refine xMk (o := ⟨some 4, _, _⟩) ?_; intro b4 hb4; (try simp only [set_none_iff] at hb4); have n24 := nei m2 hb4; have z4 := Up.none HU1 hb4; refine mkDo ?_) | (refine xMk (o := ⟨some 6, _, _⟩) ?_; intro b6 hb6; (try simp only [set_none_iff] at hb6); obtain ⟨q1, q2, q3⟩ := hb6; have n46 := Ne.symm q1; have n26 := nei m2 q3; have z6 := Up.none HU1 q3; clear q1 q2; refine mkDo ?_) | (refine xMk (o := ⟨some 7, _, _⟩) ?_; intro b7 hb7; (try simp only [set_none_iff] at hb7); obtain ⟨q1, q2, q4, q5, q6⟩ := hb7; have n67 := Ne.symm q1; have n47 := Ne.symm q4; have n27 := nei m2 q6; have z7 := Up.none HU1 q6; clear q1 q2 q4 q5; refine mkDo ?_) | (refine xMk ?_; intro id hid; (try simp only [set_none_iff] at hid); refine mkDo ?_) | (refine xChk ?_) | (refine xChkF ?_) | (refine xSkip ?_) | (refine xCall rfl rfl (k79 _) ?_; rintro v j1 ⟨rfl, hu⟩; have m2 := hu _ _ set_same; have HU1 : Up h j1 := fun z b e => hu z b ((set_ne (nei e hb2)).trans e); clear hu; refine nTm ?_) | (refine cSeq ?_) | (refine cNorm ?_) | (refine cRet ?_) | (refine cExit ?_) | (refine W_reg rfl ?_) | (refine W_block ?_) | (refine W_ret ?_) | (refine W_skip ?_) | (refine W_exit ?_) | (refine bNorm ?_) | (refine bRet ?_) | (refine bExit ?_) | (refine bExitN rfl ?_) | (refine xMask ?_) | (refine xT ?_) | (refine xF ?_) | (refine xRet ?_) | (refine xNorm ?_) | (refine xSplit ?_ ?_ <;> intro hb <;> (try exact False.elim hb)) | (refine xCond ?_ ?_ <;> intro hb <;> (try exact False.elim hb)))
    all_goals (refine ⟨[.agg [.int .i64 0, .int .i64 0, .int .i64 0, .int .i64 0, .int .u64 0, .int .i64 0, .int .i64 0, .int .i64 0, .bool false, .str ⟨#[]⟩, .nils], .int .i64 eo], (by simp [ares, ares1, f56, ev, AH.cellsAt, AH.cell, set_same, set_ne', *]), fun _ => ⟨rfl, fun z b e => by simp only [set_ne (nei e hb2), set_ne (nei e z4)]; exact HU1 z b e⟩, fun h => absurd h.1 he, fun h => absurd h.1 he⟩)
end Go.Proofs.YtgekngfnhhdamaaI
set_option linter.unusedVariables false
set_option linter.unusedSimpArgs false
set_option maxRecDepth 100000
set_option maxHeartbeats 4000000
namespace Go.Proofs.YtgekngfnhhdamaaI
open Go Go.Proofs.YtgekngfnhhdamaaM
attribute [local go_sem] aop ev fg_slc fg_slk fg_ptr fg_bool fg_int fg_str fg_iface fg_func fg_agg fg_tup fg_nils fg_nilp fg_nilI fg_nilF fg_und aboundsK alen_nils alen_slc alen_slk aslice_nils aslice_slc aslice_slk awanted abin aun aint aeqn aeqc aeqs apart abounds abnd amaxi amaxiGo cells_agg cells_slc cells_slk cells_ptr cells_bool cells_int cells_str cells_iface cells_func cells_tup cells_nils cells_nilp cells_nilI cells_nilF cells_und sc_slc sc_slk sc_ptr sc_bool sc_int sc_str sc_iface sc_func sc_nils sc_nilp sc_nilI sc_nilF gd_zero gd_succ List.all_cons List.all_nil Bool.and_self Bool.and_true Bool.true_and List.length_cons List.length_nil Option.map_some Option.some.injEq cell_same cell_ne cell_ne' cellsAt_same cellsAt_ne cellsAt_ne' put_same put_of set_same set_ne set_ne' List.getElem?_cons_zero List.getElem?_cons_succ if_true if_false and_self and_true true_and ne_eq not_true_eq_false not_false_eq_true decide_true decide_false Bool.false_eq_true Bool.true_eq_false beq_self_eq_true bne_self_eq_false beq_true beq_false Bool.not_true Bool.not_false List.map_cons List.map_nil putL List.set_cons_zero List.set_cons_succ afill Nat.zero_le Nat.le_refl Nat.zero_add Nat.add_zero List.drop_zero List.drop_succ_cons List.take_zero List.take_succ_cons Bool.not_eq_true Bool.not_eq_false decide_eq_true_eq decide_eq_false_iff_not Int.toNat_zero Nat.sub_zero Int.toNat_natCast Bool.bne_true Bool.bne_false AH.cell AH.cellsAt AH.put Nat.mul_one Nat.one_mul Int.natCast_nonneg List.length_set bs_append bs_size bs_toList bs_extract bs_get List.append_nil Nat.sub_zero bne_self_eq_false beq_self_eq_true azeros Int.le_refl
def Hd (p : Prop) : Prop := p
theorem beq_bs (l m : List UInt8) : (bs l == bs m) = (l == m) := by
  have e : (bs l == bs m) = ((bs l).data == (bs m).data) := rfl
  rw [e]; simp
def eqE (y z : En) : Bool := (y.1 == z.1) && (((y.2.1 : Int) == (z.2.1 : Int)) && ((y.2.2.1 == z.2.2.1) && (bs y.2.2.2 == bs z.2.2.2)))
theorem eqE_iff (y z : En) : eqE y z = true ↔ y = z := by
  obtain ⟨a, b, c, d⟩ := y
  obtain ⟨a', b', c', d'⟩ := z
  simp only [eqE, beq_bs, Bool.and_eq_true, beq_iff_eq, Prod.mk.injEq]
  exact ⟨fun ⟨h1, h2, h3, h4⟩ => ⟨h1, by omega, h3, h4⟩, fun ⟨h1, h2, h3, h4⟩ => ⟨h1, by omega, h3, h4⟩⟩
/-- slices.Equal of entries -/
theorem sp77 (S S' : AV) (L L' : List En) (h : AH) (hS : Le h S L) (hS' : Le h S' L') (hl : L.length ≤ 1000) : Sp T 77 [S, S'] h (fun v h' => v = .bool (decide (L = L')) ∧ h' = h) := by
  have hSl := hS.len
  have hSl' := hS'.len
  by_cases hn : L.length = L'.length
  · have hne : ((L.length : Int) != (L'.length : Int)) = false := by simp; omega
    have hn' : Hd (L.length = L'.length) := hn
    clear hn
    refine Sp_of (fn := f77) rfl (show W T b77 [S, S', .tup [], .tup [], .tup [], .tup [], .tup [], .tup [], .tup [], .tup [], .tup [], .tup [], .tup [], .tup [], .tup [], .tup [], .tup [], .tup [], .tup [], .tup [], .tup [], .tup [], .tup [], .tup [], .tup [], .tup []] _ _ from ?_)
    unfold b77
    repeat' (first | (refine wNil ?_) | (refine xPure ?_) | (refine xMk ?_; intro id hid; (try simp only [set_none_iff] at hid); refine mkDo ?_) | (refine xChk ?_) | (refine xChkF ?_) | (refine xSkip ?_) | (refine cSeq ?_) | (refine cNorm ?_) | (refine cRet ?_) | (refine cExit ?_) | (refine W_reg rfl ?_) | (refine W_block ?_) | (refine W_ret ?_) | (refine W_skip ?_) | (refine W_exit ?_) | (refine bNorm ?_) | (refine bRet ?_) | (refine bExit ?_) | (refine bExitN rfl ?_) | (refine xMask ?_) | (refine xT ?_) | (refine xF ?_) | (refine xRet ?_) | (refine xNorm ?_) | (refine xSplit ?_ ?_ <;> intro hb <;> (try exact False.elim hb)) | (refine xCond ?_ ?_ <;> intro hb <;> (try exact False.elim hb)))
    refine W_loop (fun m tm g => ∃ k : Nat, k + m = L.length ∧ g = h ∧ L.take k = L'.take k ∧ keep [0, 1, 12, 13] 0 tm = [S, S', .und, .und, .und, .und, .und, .und, .und, .und, .und, .und, .int .i64 (L.length : Int), .int .i64 (k : Int), .und, .und, .und, .und, .und, .und, .und, .und, .und, .und, .und, .und]) L.length ⟨0, by omega, rfl, by simp, rfl⟩ ?_
    clear hne
    rintro m tm g ⟨k, hk, rfl, ht, htm⟩
    refine cSeq (cMask (cNorm ?_))
    rw [htm]; clear htm
    by_cases hkl : k < L.length
    · have d1 : (k : Int) < (L.length : Int) := by omega
      have d2 : (0 : Int) ≤ (k : Int) := by omega
      have d3 : (k : Int) < (L'.length : Int) := by have : L.length = L'.length := hn'; omega
      have w1 : IntKind.i64.wrap ((k : Int) + 1) = ((k + 1 : Nat) : Int) := by rw [wrap64 (by omega) (by omega)]; rfl
      obtain ⟨y, hy⟩ : ∃ y, L[k]? = some y := ⟨_, List.getElem?_eq_getElem hkl⟩
      obtain ⟨z, hz⟩ : ∃ z, L'[k]? = some z := ⟨_, List.getElem?_eq_getElem (by have : L.length = L'.length := hn'; omega)⟩
      rcases hS with ⟨rfl, rfl⟩ | ⟨i1, o1, rfl, h1⟩
      · simp at hkl
      rcases hS' with ⟨rfl, rfl⟩ | ⟨i2, o2, rfl, h2⟩
      · simp at hz
      obtain ⟨g1, g2⟩ := flat_get eMz hy []
      obtain ⟨g3, g4⟩ := flat_get eMz hz []
      rw [List.append_nil] at g1 g2 g3 g4
      have ty : L.take (k + 1) = L.take k ++ [y] := by rw [List.take_add_one, hy]; rfl
      have tz : L'.take (k + 1) = L'.take k ++ [z] := by rw [List.take_add_one, hz]; rfl
      cases he : eqE y z with
      | true =>
        have hyz := (eqE_iff y z).1 he
        have hnext : L.take (k + 1) = L'.take (k + 1) := by rw [ty, tz, ht, hyz]
        obtain ⟨y1, y2, y3, y4⟩ := y
        obtain ⟨z1, z2, z3, z4⟩ := z
        simp only [eM] at g2 g4
        simp only [eqE] at he
        clear hyz ty tz ht hy hz
        repeat' (first | (refine wNil ?_) | (refine xPure ?_) | (refine xMk ?_; intro id hid; (try simp only [set_none_iff] at hid); refine mkDo ?_) | (refine xChk ?_) | (refine xChkF ?_) | (refine xSkip ?_) | (refine cSeq ?_) | (refine cNorm ?_) | (refine cRet ?_) | (refine cExit ?_) | (refine W_reg rfl ?_) | (refine W_block ?_) | (refine W_ret ?_) | (refine W_skip ?_) | (refine W_exit ?_) | (refine bNorm ?_) | (refine bRet ?_) | (refine bExit ?_) | (refine bExitN rfl ?_) | (refine xMask ?_) | (refine xT ?_) | (refine xF ?_) | (refine xRet ?_) | (refine xNorm ?_) | (refine xSplit ?_ ?_ <;> intro hb <;> (try exact False.elim hb)) | (refine xCond ?_ ?_ <;> intro hb <;> (try exact False.elim hb)))
        all_goals exact ⟨m - 1, by omega, k + 1, by omega, rfl, hnext, by simp only [keep, List.contains_cons, List.contains_nil, Nat.reduceBEq, Bool.or_true, Bool.true_or, Bool.or_false, Bool.false_or, if_true, if_false, Bool.false_eq_true, beq_self_eq_true, Nat.zero_add, Nat.reduceAdd, eq_self]⟩
      | false =>
        have hyz : ¬ y = z := fun e => by rw [(eqE_iff y z).2 e] at he; cases he
        have hno : ¬ L = L' := fun e => hyz (by rw [e, hz] at hy; exact (Option.some.inj hy).symm)
        rw [decide_eq_false hno]
        obtain ⟨y1, y2, y3, y4⟩ := y
        obtain ⟨z1, z2, z3, z4⟩ := z
        simp only [eM] at g2 g4
        simp only [eqE] at he
        clear hyz ty tz ht hy hz hno
        repeat' (first | (refine wNil ?_) | (refine xPure ?_) | (refine xMk ?_; intro id hid; (try simp only [set_none_iff] at hid); refine mkDo ?_) | (refine xChk ?_) | (refine xChkF ?_) | (refine xSkip ?_) | (refine cSeq ?_) | (refine cNorm ?_) | (refine cRet ?_) | (refine cExit ?_) | (refine W_reg rfl ?_) | (refine W_block ?_) | (refine W_ret ?_) | (refine W_skip ?_) | (refine W_exit ?_) | (refine bNorm ?_) | (refine bRet ?_) | (refine bExit ?_) | (refine bExitN rfl ?_) | (refine xMask ?_) | (refine xT ?_) | (refine xF ?_) | (refine xRet ?_) | (refine xNorm ?_) | (refine xSplit ?_ ?_ <;> intro hb <;> (try exact False.elim hb)) | (refine xCond ?_ ?_ <;> intro hb <;> (try exact False.elim hb)))
        all_goals exact ⟨rfl, rfl⟩
    · have d1 : ¬ (k : Int) < (L.length : Int) := by omega
      have hyes : L = L' := by
        have : L.length = L'.length := hn'
        rw [List.take_of_length_le (by omega), List.take_of_length_le (by omega)] at ht; exact ht
      rw [decide_eq_true hyes]
      clear hyes ht
      repeat' (first | (refine wNil ?_) | (refine xPure ?_) | (refine xMk ?_; intro id hid; (try simp only [set_none_iff] at hid); refine mkDo ?_) | (refine xChk ?_) | (refine xChkF ?_) | (refine xSkip ?_) | (refine cSeq ?_) | (refine cNorm ?_) | (refine cRet ?_) | (refine cExit ?_) | (refine W_reg rfl ?_) | (refine W_block ?_) | (refine W_ret ?_) | (refine W_skip ?_) | (refine W_exit ?_) | (refine bNorm ?_) | (refine bRet ?_) | (refine bExit ?_) | (refine bExitN rfl ?_) | (refine xMask ?_) | (refine xT ?_) | (refine xF ?_) | (refine xRet ?_) | (refine xNorm ?_) | (refine xSplit ?_ ?_ <;> intro hb <;> (try exact False.elim hb)) | (refine xCond ?_ ?_ <;> intro hb <;> (try exact False.elim hb)))
      all_goals exact ⟨rfl, rfl⟩
  · have hne : ((L.length : Int) != (L'.length : Int)) = true := by simp; omega
    rw [decide_eq_false (fun e => hn (by rw [e]))]
    clear hn
    refine Sp_of (fn := f77) rfl (show W T b77 [S, S', .tup [], .tup [], .tup [], .tup [], .tup [], .tup [], .tup [], .tup [], .tup [], .tup [], .tup [], .tup [], .tup [], .tup [], .tup [], .tup [], .tup [], .tup [], .tup [], .tup [], .tup [], .tup [], .tup [], .tup []] _ _ from ?_)
    unfold b77
    repeat' (first | (refine wNil ?_) | (refine xPure ?_) | (refine xMk ?_; intro id hid; (try simp only [set_none_iff] at hid); refine mkDo ?_) | (refine xChk ?_) | (refine xChkF ?_) | (refine xSkip ?_) | (refine cSeq ?_) | (refine cNorm ?_) | (refine cRet ?_) | (refine cExit ?_) | (refine W_reg rfl ?_) | (refine W_block ?_) | (refine W_ret ?_) | (refine W_skip ?_) | (refine W_exit ?_) | (refine bNorm ?_) | (refine bRet ?_) | (refine bExit ?_) | (refine bExitN rfl ?_) | (refine xMask ?_) | (refine xT ?_) | (refine xF ?_) | (refine xRet ?_) | (refine xNorm ?_) | (refine xSplit ?_ ?_ <;> intro hb <;> (try exact False.elim hb)) | (refine xCond ?_ ?_ <;> intro hb <;> (try exact False.elim hb)))
    all_goals exact ⟨rfl, rfl⟩
end Go.Proofs.YtgekngfnhhdamaaI
set_option linter.unusedVariables false
set_option linter.unusedSimpArgs false
set_option maxRecDepth 100000
set_option maxHeartbeats 4000000
namespace Go.Proofs.YtgekngfnhhdamaaI
open Go Go.Proofs.YtgekngfnhhdamaaM
attribute [local go_sem] aop ev fg_slc fg_slk fg_ptr fg_bool fg_int fg_str fg_iface fg_func fg_agg fg_tup fg_nils fg_nilp fg_nilI fg_nilF fg_und aboundsK alen_nils alen_slc alen_slk aslice_nils aslice_slc aslice_slk awanted abin aun aint aeqn aeqc aeqs apart abounds abnd amaxi amaxiGo cells_agg cells_slc cells_slk cells_ptr cells_bool cells_int cells_str cells_iface cells_func cells_tup cells_nils cells_nilp cells_nilI cells_nilF cells_und sc_slc sc_slk sc_ptr sc_bool sc_int sc_str sc_iface sc_func sc_nils sc_nilp sc_nilI sc_nilF gd_zero gd_succ List.all_cons List.all_nil Bool.and_self Bool.and_true Bool.true_and List.length_cons List.length_nil Option.map_some Option.some.injEq cell_same cell_ne cell_ne' cellsAt_same cellsAt_ne cellsAt_ne' put_same put_of set_same set_ne set_ne' List.getElem?_cons_zero List.getElem?_cons_succ if_true if_false and_self and_true true_and ne_eq not_true_eq_false not_false_eq_true decide_true decide_false Bool.false_eq_true Bool.true_eq_false beq_self_eq_true bne_self_eq_false beq_true beq_false Bool.not_true Bool.not_false List.map_cons List.map_nil putL List.set_cons_zero List.set_cons_succ afill Nat.zero_le Nat.le_refl Nat.zero_add Nat.add_zero List.drop_zero List.drop_succ_cons List.take_zero List.take_succ_cons Bool.not_eq_true Bool.not_eq_false decide_eq_true_eq decide_eq_false_iff_not Int.toNat_zero Nat.sub_zero Int.toNat_natCast Bool.bne_true Bool.bne_false AH.cell AH.cellsAt AH.put Nat.mul_one Nat.one_mul Int.natCast_nonneg List.length_set bs_append bs_size bs_toList bs_extract bs_get List.append_nil Nat.sub_zero bne_self_eq_false beq_self_eq_true azeros Int.le_refl
def sameB (k1 k2 k3 k4 : Int) (C : Nat) (n1 s1 s2 : Int) (ok : Bool) (x : List UInt8) (L : List En) (k1' k2' k3' k4' : Int) (C' : Nat) (n1' s1' s2' : Int) (ok' : Bool) (x' : List UInt8) (L' : List En) : Bool :=
  (if (k1 == k1') then (if (k2 == k2') then (if (k3 == k3') then (if (k4 == k4') then (if (((C : Int) == (C' : Int)) && (n1 == n1')) then (if (s1 == s1') then (if (s2 == s2') then (if (ok == ok') then (if (x == x') then decide (L = L') else false) else false) else false) else false) else false) else false) else false) else false) else false)
/-- Same -/
theorem sp52 (k1 k2 k3 k4 : Int) (C : Nat) (n1 s1 s2 : Int) (ok : Bool) (x : List UInt8) (S : AV) (L : List En) (k1' k2' k3' k4' : Int) (C' : Nat) (n1' s1' s2' : Int) (ok' : Bool) (x' : List UInt8) (S' : AV) (L' : List En) (h : AH) (hS : Le h S L) (hS' : Le h S' L') (hl : L.length ≤ 1000) :
    Sp T 52 [.agg [.int .i64 k1, .int .i64 k2, .int .i64 k3, .int .i64 k4, .int .u64 (C : Int), .int .i64 n1, .int .i64 s1, .int .i64 s2, .bool ok, .str (bs x), S], .agg [.int .i64 k1', .int .i64 k2', .int .i64 k3', .int .i64 k4', .int .u64 (C' : Int), .int .i64 n1', .int .i64 s1', .int .i64 s2', .bool ok', .str (bs x'), S']] h (fun v h' => v = .bool (sameB k1 k2 k3 k4 C n1 s1 s2 ok x L k1' k2' k3' k4' C' n1' s1' s2' ok' x' L') ∧ Up h h') := by
  have hu0 := Up.refl h
  have hSc : S.scalar = true := by rcases hS with ⟨rfl, rfl⟩ | ⟨i, _, rfl, _⟩ <;> rfl
  have hSc' : S'.scalar = true := by rcases hS' with ⟨rfl, rfl⟩ | ⟨i, _, rfl, _⟩ <;> rfl
  cases B0 : (k1 == k1') with
  | false =>
    have e : sameB k1 k2 k3 k4 C n1 s1 s2 ok x L k1' k2' k3' k4' C' n1' s1' s2' ok' x' L' = false := by unfold sameB; rw [B0]; rfl
    rw [e]
    clear e
    refine Sp_of (fn := f52) rfl (show W T b52 [.agg [.int .i64 k1, .int .i64 k2, .int .i64 k3, .int .i64 k4, .int .u64 (C : Int), .int .i64 n1, .int .i64 s1, .int .i64 s2, .bool ok, .str (bs x), S], .agg [.int .i64 k1', .int .i64 k2', .int .i64 k3', .int .i64 k4', .int .u64 (C' : Int), .int .i64 n1', .int .i64 s1', .int .i64 s2', .bool ok', .str (bs x'), S'], .tup [], .tup [], .tup [], .tup [], .tup [], .tup [], .tup [], .tup [], .tup [], .tup [], .tup [], .tup [], .tup [], .tup [], .tup [], .tup [], .tup [], .tup [], .tup [], .tup [], .tup [], .tup [], .tup [], .tup [], .tup [], .tup [], .tup [], .tup [], .tup [], .tup [], .tup [], .tup [], .tup [], .tup [], .tup [], .tup [], .tup [], .tup [], .tup [], .tup [], .tup [], .tup [], .tup [], .tup [], .tup [], .tup [], .tup [], .tup [], .tup [], .tup [], .tup [], .tup [], .tup [], .tup [], .tup [], .tup [], .tup [], .tup [], .tup [], .tup [], .tup [], .tup [], .tup [], .tup [], .tup [], .tup [], .tup [], .tup [], .tup [], .tup [], .tup []] _ _ from ?_)
    unfold b52
    repeat' (first | (refine wNil ?_) | (refine xPure ?_) | (refine xMk ?_; intro id hid; (try simp only [set_none_iff] at hid); have hz := hid; (repeat (replace hz := hz.2)); (try have := Up.none hu0 hz); refine mkDo ?_) | (refine xChk ?_) | (refine xChkF ?_) | (refine xSkip ?_) | (refine cSeq ?_) | (refine cNorm ?_) | (refine cRet ?_) | (refine cExit ?_) | (refine W_reg rfl ?_) | (refine W_block ?_) | (refine W_ret ?_) | (refine W_skip ?_) | (refine W_exit ?_) | (refine bNorm ?_) | (refine bRet ?_) | (refine bExit ?_) | (refine bExitN rfl ?_) | (refine xMask ?_) | (refine xT ?_) | (refine xF ?_) | (refine xRet ?_) | (refine xNorm ?_) | (refine xSplit ?_ ?_ <;> intro hb <;> (try exact False.elim hb)) | (refine xCond ?_ ?_ <;> intro hb <;> (try exact False.elim hb)))
    all_goals exact ⟨rfl, (by repeat' (first | assumption | exact Up.refl _ | refine Up.new ?_ ?_))⟩
  | true =>
    cases B1 : (k2 == k2') with
    | false =>
      have e : sameB k1 k2 k3 k4 C n1 s1 s2 ok x L k1' k2' k3' k4' C' n1' s1' s2' ok' x' L' = false := by unfold sameB; rw [B0, B1]; rfl
      rw [e]
      clear e
      refine Sp_of (fn := f52) rfl (show W T b52 [.agg [.int .i64 k1, .int .i64 k2, .int .i64 k3, .int .i64 k4, .int .u64 (C : Int), .int .i64 n1, .int .i64 s1, .int .i64 s2, .bool ok, .str (bs x), S], .agg [.int .i64 k1', .int .i64 k2', .int .i64 k3', .int .i64 k4', .int .u64 (C' : Int), .int .i64 n1', .int .i64 s1', .int .i64 s2', .bool ok', .str (bs x'), S'], .tup [], .tup [], .tup [], .tup [], .tup [], .tup [], .tup [], .tup [], .tup [], .tup [], .tup [], .tup [], .tup [], .tup [], .tup [], .tup [], .tup [], .tup [], .tup [], .tup [], .tup [], .tup [], .tup [], .tup [], .tup [], .tup [], .tup [], .tup [], .tup [], .tup [], .tup [], .tup [], .tup [], .tup [], .tup [], .tup [], .tup [], .tup [], .tup [], .tup [], .tup [], .tup [], .tup [], .tup [], .tup [], .tup [], .tup [], .tup [], .tup [], .tup [], .tup [], .tup [], .tup [], .tup [], .tup [], .tup [], .tup [], .tup [], .tup [], .tup [], .tup [], .tup [], .tup [], .tup [], .tup [], .tup [], .tup [], .tup [], .tup [], .tup [], .tup []] _ _ from ?_)
      unfold b52
      repeat' (first | (refine wNil ?_) | (refine xPure ?_) | (refine xMk ?_; intro id hid; (try simp only [set_none_iff] at hid); have hz := hid; (repeat (replace hz := hz.2)); (try have := Up.none hu0 hz); refine mkDo ?_) | (refine xChk ?_) | (refine xChkF ?_) | (refine xSkip ?_) | (refine cSeq ?_) | (refine cNorm ?_) | (refine cRet ?_) | (refine cExit ?_) | (refine W_reg rfl ?_) | (refine W_block ?_) | (refine W_ret ?_) | (refine W_skip ?_) | (refine W_exit ?_) | (refine bNorm ?_) | (refine bRet ?_) | (refine bExit ?_) | (refine bExitN rfl ?_) | (refine xMask ?_) | (refine xT ?_) | (refine xF ?_) | (refine xRet ?_) | (refine xNorm ?_) | (refine xSplit ?_ ?_ <;> intro hb <;> (try exact False.elim hb)) | (refine xCond ?_ ?_ <;> intro hb <;> (try exact False.elim hb)))
      all_goals exact ⟨rfl, (by repeat' (first | assumption | exact Up.refl _ | refine Up.new ?_ ?_))⟩
    | true =>
      cases B2 : (k3 == k3') with
      | false =>
        have e : sameB k1 k2 k3 k4 C n1 s1 s2 ok x L k1' k2' k3' k4' C' n1' s1' s2' ok' x' L' = false := by unfold sameB; rw [B0, B1, B2]; rfl
        rw [e]
        clear e
        refine Sp_of (fn := f52) rfl (show W T b52 [.agg [.int .i64 k1, .int .i64 k2, .int .i64 k3, .int .i64 k4, .int .u64 (C : Int), .int .i64 n1, .int .i64 s1, .int .i64 s2, .bool ok, .str (bs x), S], .agg [.int .i64 k1', .int .i64 k2', .int .i64 k3', .int .i64 k4', .int .u64 (C' : Int), .int .i64 n1', .int .i64 s1', .int .i64 s2', .bool ok', .str (bs x'), S'], .tup [], .tup [], .tup [], .tup [], .tup [], .tup [], .tup [], .tup [], .tup [], .tup [], .tup [], .tup [], .tup [], .tup [], .tup [], .tup [], .tup [], .tup [], .tup [], .tup [], .tup [], .tup [], .tup [], .tup [], .tup [], .tup [], .tup [], .tup [], .tup [], .tup [], .tup [], .tup [], .tup [], .tup [], .tup [], .tup [], .tup [], .tup [], .tup [], .tup [], .tup [], .tup [], .tup [], .tup [], .tup [], .tup [], .tup [], .tup [], .tup [], .tup [], .tup [], .tup [], .tup [], .tup [], .tup [], .tup [], .tup [], .tup [], .tup [], .tup [], .tup [], .tup [], .tup [], .tup [], .tup [], .tup [], .tup [], .tup [], .tup [], .tup [], .tup []] _ _ from ?_)
        unfold b52
        repeat' (first | (refine wNil ?_) | (refine xPure ?_) | (refine xMk ?_; intro id hid; (try simp only [set_none_iff] at hid); have hz := hid; (repeat (replace hz := hz.2)); (try have := Up.none hu0 hz); refine mkDo ?_) | (refine xChk ?_) | (refine xChkF ?_) | (refine xSkip ?_) | (refine cSeq ?_) | (refine cNorm ?_) | (refine cRet ?_) | (refine cExit ?_) | (refine W_reg rfl ?_) | (refine W_block ?_) | (refine W_ret ?_) | (refine W_skip ?_) | (refine W_exit ?_) | (refine bNorm ?_) | (refine bRet ?_) | (refine bExit ?_) | (refine bExitN rfl ?_) | (refine xMask ?_) | (refine xT ?_) | (refine xF ?_) | (refine xRet ?_) | (refine xNorm ?_) | (refine xSplit ?_ ?_ <;> intro hb <;> (try exact False.elim hb)) | (refine xCond ?_ ?_ <;> intro hb <;> (try exact False.elim hb)))
        all_goals exact ⟨rfl, (by repeat' (first | assumption | exact Up.refl _ | refine Up.new ?_ ?_))⟩
      | true =>
        cases B3 : (k4 == k4') with
        | false =>
          have e : sameB k1 k2 k3 k4 C n1 s1 s2 ok x L k1' k2' k3' k4' C' n1' s1' s2' ok' x' L' = false := by unfold sameB; rw [B0, B1, B2, B3]; rfl
          rw [e]
          clear e
          refine Sp_of (fn := f52) rfl (show W T b52 [.agg [.int .i64 k1, .int .i64 k2, .int .i64 k3, .int .i64 k4, .int .u64 (C : Int), .int .i64 n1, .int .i64 s1, .int .i64 s2, .bool ok, .str (bs x), S], .agg [.int .i64 k1', .int .i64 k2', .int .i64 k3', .int .i64 k4', .int .u64 (C' : Int), .int .i64 n1', .int .i64 s1', .int .i64 s2', .bool ok', .str (bs x'), S'], .tup [], .tup [], .tup [], .tup [], .tup [], .tup [], .tup [], .tup [], .tup [], .tup [], .tup [], .tup [], .tup [], .tup [], .tup [], .tup [], .tup [], .tup [], .tup [], .tup [], .tup [], .tup [], .tup [], .tup [], .tup [], .tup [], .tup [], .tup [], .tup [], .tup [], .tup [], .tup [], .tup [], .tup [], .tup [], .tup [], .tup [], .tup [], .tup [], .tup [], .tup [], .tup [], .tup [], .tup [], .tup [], .tup [], .tup [], .tup [], .tup [], .tup [], .tup [], .tup [], .tup [], .tup [], .tup [], .tup [], .tup [], .tup [], .tup [], .tup [], .tup [], .tup [], .tup [], .tup [], .tup [], .tup [], .tup [], .tup [], .tup [], .tup [], .tup []] _ _ from ?_)
          unfold b52
          repeat' (first | (refine wNil ?_) | (refine xPure ?_) | (refine xMk ?_; intro id hid; (try simp only [set_none_iff] at hid); have hz := hid; (repeat (replace hz := hz.2)); (try have := Up.none hu0 hz); refine mkDo ?_) | (refine xChk ?_) | (refine xChkF ?_) | (refine xSkip ?_) | (refine cSeq ?_) | (refine cNorm ?_) | (refine cRet ?_) | (refine cExit ?_) | (refine W_reg rfl ?_) | (refine W_block ?_) | (refine W_ret ?_) | (refine W_skip ?_) | (refine W_exit ?_) | (refine bNorm ?_) | (refine bRet ?_) | (refine bExit ?_) | (refine bExitN rfl ?_) | (refine xMask ?_) | (refine xT ?_) | (refine xF ?_) | (refine xRet ?_) | (refine xNorm ?_) | (refine xSplit ?_ ?_ <;> intro hb <;> (try exact False.elim hb)) | (refine xCond ?_ ?_ <;> intro hb <;> (try exact False.elim hb)))
          all_goals exact ⟨rfl, (by repeat' (first | assumption | exact Up.refl _ | refine Up.new ?_ ?_))⟩
        | true =>
          cases B4 : (((C : Int) == (C' : Int)) && (n1 == n1')) with
          | false =>
            have e : sameB k1 k2 k3 k4 C n1 s1 s2 ok x L k1' k2' k3' k4' C' n1' s1' s2' ok' x' L' = false := by unfold sameB; rw [B0, B1, B2, B3, B4]; rfl
            rw [e]
            clear e
            refine Sp_of (fn := f52) rfl (show W T b52 [.agg [.int .i64 k1, .int .i64 k2, .int .i64 k3, .int .i64 k4, .int .u64 (C : Int), .int .i64 n1, .int .i64 s1, .int .i64 s2, .bool ok, .str (bs x), S], .agg [.int .i64 k1', .int .i64 k2', .int .i64 k3', .int .i64 k4', .int .u64 (C' : Int), .int .i64 n1', .int .i64 s1', .int .i64 s2', .bool ok', .str (bs x'), S'], .tup [], .tup [], .tup [], .tup [], .tup [], .tup [], .tup [], .tup [], .tup [], .tup [], .tup [], .tup [], .tup [], .tup [], .tup [], .tup [], .tup [], .tup [], .tup [], .tup [], .tup [], .tup [], .tup [], .tup [], .tup [], .tup [], .tup [], .tup [], .tup [], .tup [], .tup [], .tup [], .tup [], .tup [], .tup [], .tup [], .tup [], .tup [], .tup [], .tup [], .tup [], .tup [], .tup [], .tup [], .tup [], .tup [], .tup [], .tup [], .tup [], .tup [], .tup [], .tup [], .tup [], .tup [], .tup [], .tup [], .tup [], .tup [], .tup [], .tup [], .tup [], .tup [], .tup [], .tup [], .tup [], .tup [], .tup [], .tup [], .tup [], .tup [], .tup []] _ _ from ?_)
            unfold b52
            repeat' (first | (refine wNil ?_) | (refine xPure ?_) | (refine xMk ?_; intro id hid; (try simp only [set_none_iff] at hid); have hz := hid; (repeat (replace hz := hz.2)); (try have := Up.none hu0 hz); refine mkDo ?_) | (refine xChk ?_) | (refine xChkF ?_) | (refine xSkip ?_) | (refine cSeq ?_) | (refine cNorm ?_) | (refine cRet ?_) | (refine cExit ?_) | (refine W_reg rfl ?_) | (refine W_block ?_) | (refine W_ret ?_) | (refine W_skip ?_) | (refine W_exit ?_) | (refine bNorm ?_) | (refine bRet ?_) | (refine bExit ?_) | (refine bExitN rfl ?_) | (refine xMask ?_) | (refine xT ?_) | (refine xF ?_) | (refine xRet ?_) | (refine xNorm ?_) | (refine xSplit ?_ ?_ <;> intro hb <;> (try exact False.elim hb)) | (refine xCond ?_ ?_ <;> intro hb <;> (try exact False.elim hb)))
            all_goals exact ⟨rfl, (by repeat' (first | assumption | exact Up.refl _ | refine Up.new ?_ ?_))⟩
          | true =>
            cases B5 : (s1 == s1') with
            | false =>
              have e : sameB k1 k2 k3 k4 C n1 s1 s2 ok x L k1' k2' k3' k4' C' n1' s1' s2' ok' x' L' = false := by unfold sameB; rw [B0, B1, B2, B3, B4, B5]; rfl
              rw [e]
              clear e
              refine Sp_of (fn := f52) rfl (show W T b52 [.agg [.int .i64 k1, .int .i64 k2, .int .i64 k3, .int .i64 k4, .int .u64 (C : Int), .int .i64 n1, .int .i64 s1, .int .i64 s2, .bool ok, .str (bs x), S], .agg [.int .i64 k1', .int .i64 k2', .int .i64 k3', .int .i64 k4', .int .u64 (C' : Int), .int .i64 n1', .int .i64 s1', .int .i64 s2', .bool ok', .str (bs x'), S'], .tup [], .tup [], .tup [], .tup [], .tup [], .tup [], .tup [], .tup [], .tup [], .tup [], .tup [], .tup [], .tup [], .tup [], .tup [], .tup [], .tup [], .tup [], .tup [], .tup [], .tup [], .tup [], .tup [], .tup [], .tup [], .tup [], .tup [], .tup [], .tup [], .tup [], .tup [], .tup [], .tup [], .tup [], .tup [], .tup [], .tup [], .tup [], .tup [], .tup [], .tup [], .tup [], .tup [], .tup [], .tup [], .tup [], .tup [], .tup [], .tup [], .tup [], .tup [], .tup [], .tup [], .tup [], .tup [], .tup [], .tup [], .tup [], .tup [], .tup [], .tup [], .tup [], .tup [], .tup [], .tup [], .tup [], .tup [], .tup [], .tup [], .tup [], .tup []] _ _ from ?_)
              unfold b52
              repeat' (first | (refine wNil ?_) | (refine xPure ?_) | (refine xMk ?_; intro id hid; (try simp only [set_none_iff] at hid); have hz := hid; (repeat (replace hz := hz.2)); (try have := Up.none hu0 hz); refine mkDo ?_) | (refine xChk ?_) | (refine xChkF ?_) | (refine xSkip ?_) | (refine cSeq ?_) | (refine cNorm ?_) | (refine cRet ?_) | (refine cExit ?_) | (refine W_reg rfl ?_) | (refine W_block ?_) | (refine W_ret ?_) | (refine W_skip ?_) | (refine W_exit ?_) | (refine bNorm ?_) | (refine bRet ?_) | (refine bExit ?_) | (refine bExitN rfl ?_) | (refine xMask ?_) | (refine xT ?_) | (refine xF ?_) | (refine xRet ?_) | (refine xNorm ?_) | (refine xSplit ?_ ?_ <;> intro hb <;> (try exact False.elim hb)) | (refine xCond ?_ ?_ <;> intro hb <;> (try exact False.elim hb)))
              all_goals exact ⟨rfl, (by repeat' (first | assumption | exact Up.refl _ | refine Up.new ?_ ?_))⟩
            | true =>
              cases B6 : (s2 == s2') with
              | false =>
                have e : sameB k1 k2 k3 k4 C n1 s1 s2 ok x L k1' k2' k3' k4' C' n1' s1' s2' ok' x' L' = false := by unfold sameB; rw [B0, B1, B2, B3, B4, B5, B6]; rfl
                rw [e]
                clear e
                refine Sp_of (fn := f52) rfl (show W T b52 [.agg [.int .i64 k1, .int .i64 k2, .int .i64 k3, .int .i64 k4, .int .u64 (C : Int), .int .i64 n1, .int .i64 s1, .int .i64 s2, .bool ok, .str (bs x), S], .agg [.int .i64 k1', .int .i64 k2', .int .i64 k3', .int .i64 k4', .int .u64 (C' : Int), .int .i64 n1', .int .i64 s1', .int .i64 s2', .bool ok', .str (bs x'), S'], .tup [], .tup [], .tup [], .tup [], .tup [], .tup [], .tup [], .tup [], .tup [], .tup [], .tup [], .tup [], .tup [], .tup [], .tup [], .tup [], .tup [], .tup [], .tup [], .tup [], .tup [], .tup [], .tup [], .tup [], .tup [], .tup [], .tup [], .tup [], .tup [], .tup [], .tup [], .tup [], .tup [], .tup [], .tup [], .tup [], .tup [], .tup [], .tup [], .tup [], .tup [], .tup [], .tup [], .tup [], .tup [], .tup [], .tup [], .tup [], .tup [], .tup [], .tup [], .tup [], .tup [], .tup [], .tup [], .tup [], .tup [], .tup [], .tup [], .tup [], .tup [], .tup [], .tup [], .tup [], .tup [], .tup [], .tup [], .tup [], .tup [], .tup [], .tup []] _ _ from ?_)
                unfold b52
                repeat' (first | (refine wNil ?_) | (refine xPure ?_) | (refine xMk ?_; intro id hid; (try simp only [set_none_iff] at hid); have hz := hid; (repeat (replace hz := hz.2)); (try have := Up.none hu0 hz); refine mkDo ?_) | (refine xChk ?_) | (refine xChkF ?_) | (refine xSkip ?_) | (refine cSeq ?_) | (refine cNorm ?_) | (refine cRet ?_) | (refine cExit ?_) | (refine W_reg rfl ?_) | (refine W_block ?_) | (refine W_ret ?_) | (refine W_skip ?_) | (refine W_exit ?_) | (refine bNorm ?_) | (refine bRet ?_) | (refine bExit ?_) | (refine bExitN rfl ?_) | (refine xMask ?_) | (refine xT ?_) | (refine xF ?_) | (refine xRet ?_) | (refine xNorm ?_) | (refine xSplit ?_ ?_ <;> intro hb <;> (try exact False.elim hb)) | (refine xCond ?_ ?_ <;> intro hb <;> (try exact False.elim hb)))
                all_goals exact ⟨rfl, (by repeat' (first | assumption | exact Up.refl _ | refine Up.new ?_ ?_))⟩
              | true =>
                cases B7 : (ok == ok') with
                | false =>
                  have e : sameB k1 k2 k3 k4 C n1 s1 s2 ok x L k1' k2' k3' k4' C' n1' s1' s2' ok' x' L' = false := by unfold sameB; rw [B0, B1, B2, B3, B4, B5, B6, B7]; rfl
                  rw [e]
                  clear e
                  refine Sp_of (fn := f52) rfl (show W T b52 [.agg [.int .i64 k1, .int .i64 k2, .int .i64 k3, .int .i64 k4, .int .u64 (C : Int), .int .i64 n1, .int .i64 s1, .int .i64 s2, .bool ok, .str (bs x), S], .agg [.int .i64 k1', .int .i64 k2', .int .i64 k3', .int .i64 k4', .int .u64 (C' : Int), .int .i64 n1', .int .i64 s1', .int .i64 s2', .bool ok', .str (bs x'), S'], .tup [], .tup [], .tup [], .tup [], .tup [], .tup [], .tup [], .tup [], .tup [], .tup [], .tup [], .tup [], .tup [], .tup [], .tup [], .tup [], .tup [], .tup [], .tup [], .tup [], .tup [], .tup [], .tup [], .tup [], .tup [], .tup [], .tup [], .tup [], .tup [], .tup [], .tup [], .tup [], .tup [], .tup [], .tup [], .tup [], .tup [], .tup [], .tup [], .tup [], .tup [], .tup [], .tup [], .tup [], .tup [], .tup [], .tup [], .tup [], .tup [], .tup [], .tup [], .tup [], .tup [], .tup [], .tup [], .tup [], .tup [], .tup [], .tup [], .tup [], .tup [], .tup [], .tup [], .tup [], .tup [], .tup [], .tup [], .tup [], .tup [], .tup [], .tup []] _ _ from ?_)
                  unfold b52
                  repeat' (first | (refine wNil ?_) | (refine xPure ?_) | (refine xMk ?_; intro id hid; (try simp only [set_none_iff] at hid); have hz := hid; (repeat (replace hz := hz.2)); (try have := Up.none hu0 hz); refine mkDo ?_) | (refine xChk ?_) | (refine xChkF ?_) | (refine xSkip ?_) | (refine cSeq ?_) | (refine cNorm ?_) | (refine cRet ?_) | (refine cExit ?_) | (refine W_reg rfl ?_) | (refine W_block ?_) | (refine W_ret ?_) | (refine W_skip ?_) | (refine W_exit ?_) | (refine bNorm ?_) | (refine bRet ?_) | (refine bExit ?_) | (refine bExitN rfl ?_) | (refine xMask ?_) | (refine xT ?_) | (refine xF ?_) | (refine xRet ?_) | (refine xNorm ?_) | (refine xSplit ?_ ?_ <;> intro hb <;> (try exact False.elim hb)) | (refine xCond ?_ ?_ <;> intro hb <;> (try exact False.elim hb)))
                  all_goals exact ⟨rfl, (by repeat' (first | assumption | exact Up.refl _ | refine Up.new ?_ ?_))⟩
                | true =>
                  cases B8 : (x == x') with
                  | false =>
                    have e : sameB k1 k2 k3 k4 C n1 s1 s2 ok x L k1' k2' k3' k4' C' n1' s1' s2' ok' x' L' = false := by unfold sameB; rw [B0, B1, B2, B3, B4, B5, B6, B7, B8]; rfl
                    rw [e]
                    clear e
                    refine Sp_of (fn := f52) rfl (show W T b52 [.agg [.int .i64 k1, .int .i64 k2, .int .i64 k3, .int .i64 k4, .int .u64 (C : Int), .int .i64 n1, .int .i64 s1, .int .i64 s2, .bool ok, .str (bs x), S], .agg [.int .i64 k1', .int .i64 k2', .int .i64 k3', .int .i64 k4', .int .u64 (C' : Int), .int .i64 n1', .int .i64 s1', .int .i64 s2', .bool ok', .str (bs x'), S'], .tup [], .tup [], .tup [], .tup [], .tup [], .tup [], .tup [], .tup [], .tup [], .tup [], .tup [], .tup [], .tup [], .tup [], .tup [], .tup [], .tup [], .tup [], .tup [], .tup [], .tup [], .tup [], .tup [], .tup [], .tup [], .tup [], .tup [], .tup [], .tup [], .tup [], .tup [], .tup [], .tup [], .tup [], .tup [], .tup [], .tup [], .tup [], .tup [], .tup [], .tup [], .tup [], .tup [], .tup [], .tup [], .tup [], .tup [], .tup [], .tup [], .tup [], .tup [], .tup [], .tup [], .tup [], .tup [], .tup [], .tup [], .tup [], .tup [], .tup [], .tup [], .tup [], .tup [], .tup [], .tup [], .tup [], .tup [], .tup [], .tup [], .tup [], .tup []] _ _ from ?_)
                    unfold b52
                    repeat' (first | (refine wNil ?_) | (refine xPure ?_) | (refine xMk ?_; intro id hid; (try simp only [set_none_iff] at hid); have hz := hid; (repeat (replace hz := hz.2)); (try have := Up.none hu0 hz); refine mkDo ?_) | (refine xChk ?_) | (refine xChkF ?_) | (refine xSkip ?_) | (refine cSeq ?_) | (refine cNorm ?_) | (refine cRet ?_) | (refine cExit ?_) | (refine W_reg rfl ?_) | (refine W_block ?_) | (refine W_ret ?_) | (refine W_skip ?_) | (refine W_exit ?_) | (refine bNorm ?_) | (refine bRet ?_) | (refine bExit ?_) | (refine bExitN rfl ?_) | (refine xMask ?_) | (refine xT ?_) | (refine xF ?_) | (refine xRet ?_) | (refine xNorm ?_) | (refine xSplit ?_ ?_ <;> intro hb <;> (try exact False.elim hb)) | (refine xCond ?_ ?_ <;> intro hb <;> (try exact False.elim hb)))
                    all_goals exact ⟨rfl, (by repeat' (first | assumption | exact Up.refl _ | refine Up.new ?_ ?_))⟩
                  | true =>
                    have e : sameB k1 k2 k3 k4 C n1 s1 s2 ok x L k1' k2' k3' k4' C' n1' s1' s2' ok' x' L' = decide (L = L') := by unfold sameB; rw [B0, B1, B2, B3, B4, B5, B6, B7, B8]; rfl
                    rw [e]
                    clear e
                    refine Sp_of (fn := f52) rfl (show W T b52 [.agg [.int .i64 k1, .int .i64 k2, .int .i64 k3, .int .i64 k4, .int .u64 (C : Int), .int .i64 n1, .int .i64 s1, .int .i64 s2, .bool ok, .str (bs x), S], .agg [.int .i64 k1', .int .i64 k2', .int .i64 k3', .int .i64 k4', .int .u64 (C' : Int), .int .i64 n1', .int .i64 s1', .int .i64 s2', .bool ok', .str (bs x'), S'], .tup [], .tup [], .tup [], .tup [], .tup [], .tup [], .tup [], .tup [], .tup [], .tup [], .tup [], .tup [], .tup [], .tup [], .tup [], .tup [], .tup [], .tup [], .tup [], .tup [], .tup [], .tup [], .tup [], .tup [], .tup [], .tup [], .tup [], .tup [], .tup [], .tup [], .tup [], .tup [], .tup [], .tup [], .tup [], .tup [], .tup [], .tup [], .tup [], .tup [], .tup [], .tup [], .tup [], .tup [], .tup [], .tup [], .tup [], .tup [], .tup [], .tup [], .tup [], .tup [], .tup [], .tup [], .tup [], .tup [], .tup [], .tup [], .tup [], .tup [], .tup [], .tup [], .tup [], .tup [], .tup [], .tup [], .tup [], .tup [], .tup [], .tup [], .tup []] _ _ from ?_)
                    unfold b52
                    repeat' (first | (refine wNil ?_) | (refine xPure ?_) | (refine xMk ?_; intro id hid; (try simp only [set_none_iff] at hid); have hz := hid; (repeat (replace hz := hz.2)); (try have := Up.none hu0 hz); refine mkDo ?_) | (refine xChk ?_) | (refine xChkF ?_) | (refine xSkip ?_) | (refine xCall rfl rfl (sp77 S S' L L' _ (hS.up (by repeat' (first | assumption | exact Up.refl _ | refine Up.new ?_ ?_))) (hS'.up (by repeat' (first | assumption | exact Up.refl _ | refine Up.new ?_ ?_))) hl) ?_; rintro v j ⟨rfl, hx⟩; cases hx; refine nTm ?_) | (refine cSeq ?_) | (refine cNorm ?_) | (refine cRet ?_) | (refine cExit ?_) | (refine W_reg rfl ?_) | (refine W_block ?_) | (refine W_ret ?_) | (refine W_skip ?_) | (refine W_exit ?_) | (refine bNorm ?_) | (refine bRet ?_) | (refine bExit ?_) | (refine bExitN rfl ?_) | (refine xMask ?_) | (refine xT ?_) | (refine xF ?_) | (refine xRet ?_) | (refine xNorm ?_) | (refine xSplit ?_ ?_ <;> intro hb <;> (try exact False.elim hb)) | (refine xCond ?_ ?_ <;> intro hb <;> (try exact False.elim hb)))
                    all_goals exact ⟨rfl, (by repeat' (first | assumption | exact Up.refl _ | refine Up.new ?_ ?_))⟩
end Go.Proofs.YtgekngfnhhdamaaI
set_option linter.unusedVariables false
set_option linter.unusedSimpArgs false
set_option maxRecDepth 100000
set_option maxHeartbeats 4000000
namespace Go.Proofs.YtgekngfnhhdamaaI
open Go Go.Proofs.YtgekngfnhhdamaaM
attribute [local go_sem] aop ev fg_slc fg_slk fg_ptr fg_bool fg_int fg_str fg_iface fg_func fg_agg fg_tup fg_nils fg_nilp fg_nilI fg_nilF fg_und aboundsK alen_nils alen_slc alen_slk aslice_nils aslice_slc aslice_slk awanted abin aun aint aeqn aeqc aeqs apart abounds abnd amaxi amaxiGo cells_agg cells_slc cells_slk cells_ptr cells_bool cells_int cells_str cells_iface cells_func cells_tup cells_nils cells_nilp cells_nilI cells_nilF cells_und sc_slc sc_slk sc_ptr sc_bool sc_int sc_str sc_iface sc_func sc_nils sc_nilp sc_nilI sc_nilF gd_zero gd_succ List.all_cons List.all_nil Bool.and_self Bool.and_true Bool.true_and List.length_cons List.length_nil Option.map_some Option.some.injEq cell_same cell_ne cell_ne' cellsAt_same cellsAt_ne cellsAt_ne' put_same put_of set_same set_ne set_ne' List.getElem?_cons_zero List.getElem?_cons_succ if_true if_false and_self and_true true_and ne_eq not_true_eq_false not_false_eq_true decide_true decide_false Bool.false_eq_true Bool.true_eq_false beq_self_eq_true bne_self_eq_false beq_true beq_false Bool.not_true Bool.not_false List.map_cons List.map_nil putL List.set_cons_zero List.set_cons_succ afill Nat.zero_le Nat.le_refl Nat.zero_add Nat.add_zero List.drop_zero List.drop_succ_cons List.take_zero List.take_succ_cons Bool.not_eq_true Bool.not_eq_false decide_eq_true_eq decide_eq_false_iff_not Int.toNat_zero Nat.sub_zero Int.toNat_natCast Bool.bne_true Bool.bne_false AH.cell AH.cellsAt AH.put Nat.mul_one Nat.one_mul Int.natCast_nonneg List.length_set bs_append bs_size bs_toList bs_extract bs_get List.cons_append List.nil_append List.append_nil Nat.sub_zero bne_self_eq_false beq_self_eq_true azeros Int.le_refl
/-- Do slots rise? -/
def ris : Int → List En → Bool
  | _, [] => true
  | last, y :: L => decide (last < y.1) && ris y.1 L
end Go.Proofs.YtgekngfnhhdamaaI
set_option linter.unusedVariables false
set_option linter.unusedSimpArgs false
set_option maxRecDepth 100000
set_option maxHeartbeats 4000000
namespace Go.Proofs.YtgekngfnhhdamaaI
open Go Go.Proofs.YtgekngfnhhdamaaM
attribute [local go_sem] aop ev fg_slc fg_slk fg_ptr fg_bool fg_int fg_str fg_iface fg_func fg_agg fg_tup fg_nils fg_nilp fg_nilI fg_nilF fg_und aboundsK alen_nils alen_slc alen_slk aslice_nils aslice_slc aslice_slk awanted abin aun aint aeqn aeqc aeqs apart abounds abnd amaxi amaxiGo cells_agg cells_slc cells_slk cells_ptr cells_bool cells_int cells_str cells_iface cells_func cells_tup cells_nils cells_nilp cells_nilI cells_nilF cells_und sc_slc sc_slk sc_ptr sc_bool sc_int sc_str sc_iface sc_func sc_nils sc_nilp sc_nilI sc_nilF gd_zero gd_succ List.all_cons List.all_nil Bool.and_self Bool.and_true Bool.true_and List.length_cons List.length_nil Option.map_some Option.some.injEq cell_same cell_ne cell_ne' cellsAt_same cellsAt_ne cellsAt_ne' put_same put_of set_same set_ne set_ne' List.getElem?_cons_zero List.getElem?_cons_succ if_true if_false and_self and_true true_and ne_eq not_true_eq_false not_false_eq_true decide_true decide_false Bool.false_eq_true Bool.true_eq_false beq_self_eq_true bne_self_eq_false beq_true beq_false Bool.not_true Bool.not_false List.map_cons List.map_nil putL List.set_cons_zero List.set_cons_succ afill Nat.zero_le Nat.le_refl Nat.zero_add Nat.add_zero List.drop_zero List.drop_succ_cons List.take_zero List.take_succ_cons Bool.not_eq_true Bool.not_eq_false decide_eq_true_eq decide_eq_false_iff_not Int.toNat_zero Nat.sub_zero Int.toNat_natCast Bool.bne_true Bool.bne_false AH.cell AH.cellsAt AH.put Nat.mul_one Nat.one_mul Int.natCast_nonneg List.length_set bs_append bs_size bs_toList bs_extract bs_get List.cons_append List.nil_append List.append_nil Nat.sub_zero bne_self_eq_false beq_self_eq_true azeros Int.le_refl
def p4 (y : En) : Bool := decide (y.2.2.2.length ≤ 400)
def p2 (y : En) : Bool := snd y.2.1 y.2.2.1 && decide (0 ≤ y.1 ∧ y.1 ≤ 1099511627776)
def r4 (L : List En) : Int := if ris (-1) L then 0 else 4
def r3 (L : List En) : Int := if L.all p4 then r4 L else 6
def r2 (x : List UInt8) (L : List En) : Int := if x.length ≤ 131072 ∧ L.length ≤ 64 then r3 L else 6
def r1 (x : List UInt8) (L : List En) : Int := if L.all p2 then r2 x L else 2
end Go.Proofs.YtgekngfnhhdamaaI
set_option linter.unusedVariables false
set_option linter.unusedSimpArgs false
set_option maxRecDepth 100000
set_option maxHeartbeats 4000000
namespace Go.Proofs.YtgekngfnhhdamaaI
open Go Go.Proofs.YtgekngfnhhdamaaM
attribute [local go_sem] aop ev fg_slc fg_slk fg_ptr fg_bool fg_int fg_str fg_iface fg_func fg_agg fg_tup fg_nils fg_nilp fg_nilI fg_nilF fg_und aboundsK alen_nils alen_slc alen_slk aslice_nils aslice_slc aslice_slk awanted abin aun aint aeqn aeqc aeqs apart abounds abnd amaxi amaxiGo cells_agg cells_slc cells_slk cells_ptr cells_bool cells_int cells_str cells_iface cells_func cells_tup cells_nils cells_nilp cells_nilI cells_nilF cells_und sc_slc sc_slk sc_ptr sc_bool sc_int sc_str sc_iface sc_func sc_nils sc_nilp sc_nilI sc_nilF gd_zero gd_succ List.all_cons List.all_nil Bool.and_self Bool.and_true Bool.true_and List.length_cons List.length_nil Option.map_some Option.some.injEq cell_same cell_ne cell_ne' cellsAt_same cellsAt_ne cellsAt_ne' put_same put_of set_same set_ne set_ne' List.getElem?_cons_zero List.getElem?_cons_succ if_true if_false and_self and_true true_and ne_eq not_true_eq_false not_false_eq_true decide_true decide_false Bool.false_eq_true Bool.true_eq_false beq_self_eq_true bne_self_eq_false beq_true beq_false Bool.not_true Bool.not_false List.map_cons List.map_nil putL List.set_cons_zero List.set_cons_succ afill Nat.zero_le Nat.le_refl Nat.zero_add Nat.add_zero List.drop_zero List.drop_succ_cons List.take_zero List.take_succ_cons Bool.not_eq_true Bool.not_eq_false decide_eq_true_eq decide_eq_false_iff_not Int.toNat_zero Nat.sub_zero Int.toNat_natCast Bool.bne_true Bool.bne_false AH.cell AH.cellsAt AH.put Nat.mul_one Nat.one_mul Int.natCast_nonneg List.length_set bs_append bs_size bs_toList bs_extract bs_get List.cons_append List.nil_append List.append_nil Nat.sub_zero bne_self_eq_false beq_self_eq_true azeros Int.le_refl
/-- The document's Check. -/
def chk (k1 k2 k3 k4 : Int) (C : Nat) (n1 s1 s2 : Int) (x : List UInt8) (L : List En) : Int :=
  if decide (1 ≤ k1 ∧ k1 ≤ 13) then (if decide (0 ≤ k2 ∧ k2 ≤ 11) then (if decide (0 ≤ k3 ∧ k3 ≤ 11) then (if decide (0 ≤ k4 ∧ k4 ≤ 3) then (if snd C n1 then (if decide (0 ≤ s1 ∧ s1 ≤ 1099511627776) then (if decide (0 ≤ s2 ∧ s2 ≤ 1099511627776) then r1 x L else 2) else 2) else 2) else 2) else 2) else 2) else 1
end Go.Proofs.YtgekngfnhhdamaaI
set_option linter.unusedVariables false
set_option linter.unusedSimpArgs false
set_option maxRecDepth 100000
set_option maxHeartbeats 4000000
namespace Go.Proofs.YtgekngfnhhdamaaI
open Go Go.Proofs.YtgekngfnhhdamaaM
attribute [local go_sem] aop ev fg_slc fg_slk fg_ptr fg_bool fg_int fg_str fg_iface fg_func fg_agg fg_tup fg_nils fg_nilp fg_nilI fg_nilF fg_und aboundsK alen_nils alen_slc alen_slk aslice_nils aslice_slc aslice_slk awanted abin aun aint aeqn aeqc aeqs apart abounds abnd amaxi amaxiGo cells_agg cells_slc cells_slk cells_ptr cells_bool cells_int cells_str cells_iface cells_func cells_tup cells_nils cells_nilp cells_nilI cells_nilF cells_und sc_slc sc_slk sc_ptr sc_bool sc_int sc_str sc_iface sc_func sc_nils sc_nilp sc_nilI sc_nilF gd_zero gd_succ List.all_cons List.all_nil Bool.and_self Bool.and_true Bool.true_and List.length_cons List.length_nil Option.map_some Option.some.injEq cell_same cell_ne cell_ne' cellsAt_same cellsAt_ne cellsAt_ne' put_same put_of set_same set_ne set_ne' List.getElem?_cons_zero List.getElem?_cons_succ if_true if_false and_self and_true true_and ne_eq not_true_eq_false not_false_eq_true decide_true decide_false Bool.false_eq_true Bool.true_eq_false beq_self_eq_true bne_self_eq_false beq_true beq_false Bool.not_true Bool.not_false List.map_cons List.map_nil putL List.set_cons_zero List.set_cons_succ afill Nat.zero_le Nat.le_refl Nat.zero_add Nat.add_zero List.drop_zero List.drop_succ_cons List.take_zero List.take_succ_cons Bool.not_eq_true Bool.not_eq_false decide_eq_true_eq decide_eq_false_iff_not Int.toNat_zero Nat.sub_zero Int.toNat_natCast Bool.bne_true Bool.bne_false AH.cell AH.cellsAt AH.put Nat.mul_one Nat.one_mul Int.natCast_nonneg List.length_set bs_append bs_size bs_toList bs_extract bs_get List.append_nil Nat.sub_zero bne_self_eq_false beq_self_eq_true azeros Int.le_refl
end Go.Proofs.YtgekngfnhhdamaaI
set_option linter.unusedVariables false
set_option linter.unusedSimpArgs false
set_option maxRecDepth 100000
set_option maxHeartbeats 4000000
namespace Go.Proofs.YtgekngfnhhdamaaI
open Go Go.Proofs.YtgekngfnhhdamaaM
attribute [local go_sem] aop ev fg_slc fg_slk fg_ptr fg_bool fg_int fg_str fg_iface fg_func fg_agg fg_tup fg_nils fg_nilp fg_nilI fg_nilF fg_und aboundsK alen_nils alen_slc alen_slk aslice_nils aslice_slc aslice_slk awanted abin aun aint aeqn aeqc aeqs apart abounds abnd amaxi amaxiGo cells_agg cells_slc cells_slk cells_ptr cells_bool cells_int cells_str cells_iface cells_func cells_tup cells_nils cells_nilp cells_nilI cells_nilF cells_und sc_slc sc_slk sc_ptr sc_bool sc_int sc_str sc_iface sc_func sc_nils sc_nilp sc_nilI sc_nilF gd_zero gd_succ List.all_cons List.all_nil Bool.and_self Bool.and_true Bool.true_and List.length_cons List.length_nil Option.map_some Option.some.injEq cell_same cell_ne cell_ne' cellsAt_same cellsAt_ne cellsAt_ne' put_same put_of set_same set_ne set_ne' List.getElem?_cons_zero List.getElem?_cons_succ if_true if_false and_self and_true true_and ne_eq not_true_eq_false not_false_eq_true decide_true decide_false Bool.false_eq_true Bool.true_eq_false beq_self_eq_true bne_self_eq_false beq_true beq_false Bool.not_true Bool.not_false List.map_cons List.map_nil putL List.set_cons_zero List.set_cons_succ afill Nat.zero_le Nat.le_refl Nat.zero_add Nat.add_zero List.drop_zero List.drop_succ_cons List.take_zero List.take_succ_cons Bool.not_eq_true Bool.not_eq_false decide_eq_true_eq decide_eq_false_iff_not Int.toNat_zero Nat.sub_zero Int.toNat_natCast Bool.bne_true Bool.bne_false AH.cell AH.cellsAt AH.put Nat.mul_one Nat.one_mul Int.natCast_nonneg List.length_set bs_append bs_size bs_toList bs_extract bs_get List.append_nil Nat.sub_zero bne_self_eq_false beq_self_eq_true azeros Int.le_refl
def enE (y : En) : List UInt8 := encN y.1 ++ (encU y.2.1 ++ encN y.2.2.1) ++ encS y.2.2.2
def okE (y : En) : Prop := y.1 ≤ 9223372036854775807 ∧ y.2.1 ≤ 18446744073709551615 ∧ y.2.2.1 ≤ 9223372036854775807 ∧ y.2.2.2.length ≤ 1000
theorem encS_len (s : List UInt8) : (encS s).length ≤ 9 + s.length := by
  have a := encU_length ((s.length : Int).toNat)
  have e : (encS s).length = (encN (s.length : Int)).length + s.length := by show (encN _ ++ _).length = _; rw [List.length_append]
  have f : (encN (s.length : Int)).length ≤ 9 := a
  omega
theorem enE_len {y : En} (h : okE y) : (enE y).length ≤ 1036 := by
  have a := encU_length y.1.toNat
  have b := encU_length y.2.1
  have c := encU_length y.2.2.1.toNat
  have d := encS_len y.2.2.2
  have e := h.2.2.2
  have f : (encN y.1).length ≤ 9 := a
  have i : (encN y.2.2.1).length ≤ 9 := c
  unfold enE
  rw [List.length_append, List.length_append, List.length_append]; omega
theorem enL_len {L : List En} (h : ∀ y ∈ L, okE y) : (L.flatMap enE).length ≤ 1036 * L.length := by
  induction L with
  | nil => simp
  | cons y L ih =>
    have a := enE_len (h y (by simp))
    have b := ih (fun z hz => h z (by simp [hz]))
    rw [List.flatMap_cons, List.length_append, List.length_cons]; omega
def hdI (k2 k3 k4 : Int) (C : Nat) (n1 s1 s2 : Int) (ok : Bool) (x : List UInt8) (n : Nat) : List UInt8 := ((((((((encN k2 ++ encN k3) ++ encN k4) ++ (encU C ++ encN n1)) ++ encN s1) ++ encN s2) ++ encB ok) ++ encS x) ++ encN (n : Int))
def inI (k2 k3 k4 : Int) (C : Nat) (n1 s1 s2 : Int) (ok : Bool) (x : List UInt8) (L : List En) : List UInt8 := hdI k2 k3 k4 C n1 s1 s2 ok x L.length ++ L.flatMap enE
end Go.Proofs.YtgekngfnhhdamaaI
set_option linter.unusedVariables false
set_option linter.unusedSimpArgs false
set_option maxRecDepth 100000
set_option maxHeartbeats 4000000
namespace Go.Proofs.YtgekngfnhhdamaaI
open Go Go.Proofs.YtgekngfnhhdamaaM
attribute [local go_sem] aop ev fg_slc fg_slk fg_ptr fg_bool fg_int fg_str fg_iface fg_func fg_agg fg_tup fg_nils fg_nilp fg_nilI fg_nilF fg_und aboundsK alen_nils alen_slc alen_slk aslice_nils aslice_slc aslice_slk awanted abin aun aint aeqn aeqc aeqs apart abounds abnd amaxi amaxiGo cells_agg cells_slc cells_slk cells_ptr cells_bool cells_int cells_str cells_iface cells_func cells_tup cells_nils cells_nilp cells_nilI cells_nilF cells_und sc_slc sc_slk sc_ptr sc_bool sc_int sc_str sc_iface sc_func sc_nils sc_nilp sc_nilI sc_nilF gd_zero gd_succ List.all_cons List.all_nil Bool.and_self Bool.and_true Bool.true_and List.length_cons List.length_nil Option.map_some Option.some.injEq cell_same cell_ne cell_ne' cellsAt_same cellsAt_ne cellsAt_ne' put_same put_of set_same set_ne set_ne' List.getElem?_cons_zero List.getElem?_cons_succ if_true if_false and_self and_true true_and ne_eq not_true_eq_false not_false_eq_true decide_true decide_false Bool.false_eq_true Bool.true_eq_false beq_self_eq_true bne_self_eq_false beq_true beq_false Bool.not_true Bool.not_false List.map_cons List.map_nil putL List.set_cons_zero List.set_cons_succ afill Nat.zero_le Nat.le_refl Nat.zero_add Nat.add_zero List.drop_zero List.drop_succ_cons List.take_zero List.take_succ_cons Bool.not_eq_true Bool.not_eq_false decide_eq_true_eq decide_eq_false_iff_not Int.toNat_zero Nat.sub_zero Int.toNat_natCast Bool.bne_true Bool.bne_false AH.cell AH.cellsAt AH.put Nat.mul_one Nat.one_mul Int.natCast_nonneg List.length_set bs_append bs_size bs_toList bs_extract bs_get List.append_nil Nat.sub_zero bne_self_eq_false beq_self_eq_true azeros Int.le_refl
end Go.Proofs.YtgekngfnhhdamaaI
set_option linter.unusedVariables false
set_option linter.unusedSimpArgs false
set_option maxRecDepth 100000
set_option maxHeartbeats 4000000
namespace Go.Proofs.YtgekngfnhhdamaaI
open Go Go.Proofs.YtgekngfnhhdamaaM
attribute [local go_sem] aop ev fg_slc fg_slk fg_ptr fg_bool fg_int fg_str fg_iface fg_func fg_agg fg_tup fg_nils fg_nilp fg_nilI fg_nilF fg_und aboundsK alen_nils alen_slc alen_slk aslice_nils aslice_slc aslice_slk awanted abin aun aint aeqn aeqc aeqs apart abounds abnd amaxi amaxiGo cells_agg cells_slc cells_slk cells_ptr cells_bool cells_int cells_str cells_iface cells_func cells_tup cells_nils cells_nilp cells_nilI cells_nilF cells_und sc_slc sc_slk sc_ptr sc_bool sc_int sc_str sc_iface sc_func sc_nils sc_nilp sc_nilI sc_nilF gd_zero gd_succ List.all_cons List.all_nil Bool.and_self Bool.and_true Bool.true_and List.length_cons List.length_nil Option.map_some Option.some.injEq cell_same cell_ne cell_ne' cellsAt_same cellsAt_ne cellsAt_ne' put_same put_of set_same set_ne set_ne' List.getElem?_cons_zero List.getElem?_cons_succ if_true if_false and_self and_true true_and ne_eq not_true_eq_false not_false_eq_true decide_true decide_false Bool.false_eq_true Bool.true_eq_false beq_self_eq_true bne_self_eq_false beq_true beq_false Bool.not_true Bool.not_false List.map_cons List.map_nil putL List.set_cons_zero List.set_cons_succ afill Nat.zero_le Nat.le_refl Nat.zero_add Nat.add_zero List.drop_zero List.drop_succ_cons List.take_zero List.take_succ_cons Bool.not_eq_true Bool.not_eq_false decide_eq_true_eq decide_eq_false_iff_not Int.toNat_zero Nat.sub_zero Int.toNat_natCast Bool.bne_true Bool.bne_false AH.cell AH.cellsAt AH.put Nat.mul_one Nat.one_mul Int.natCast_nonneg List.length_set
/-- In range. -/
def inE (y : En) : Prop := okE y ∧ 0 ≤ y.1 ∧ 0 ≤ y.2.2.1
/-- Numbers in range. -/
def rgN (n : Int) : Prop := 0 ≤ n ∧ n ≤ 9223372036854775807
end Go.Proofs.YtgekngfnhhdamaaI
set_option linter.unusedVariables false
set_option linter.unusedSimpArgs false
set_option maxRecDepth 100000
set_option maxHeartbeats 4000000
namespace Go.Proofs.YtgekngfnhhdamaaI
open Go Go.Proofs.YtgekngfnhhdamaaM
attribute [local go_sem] aop ev fg_slc fg_slk fg_ptr fg_bool fg_int fg_str fg_iface fg_func fg_agg fg_tup fg_nils fg_nilp fg_nilI fg_nilF fg_und aboundsK alen_nils alen_slc alen_slk aslice_nils aslice_slc aslice_slk awanted abin aun aint aeqn aeqc aeqs apart abounds abnd amaxi amaxiGo cells_agg cells_slc cells_slk cells_ptr cells_bool cells_int cells_str cells_iface cells_func cells_tup cells_nils cells_nilp cells_nilI cells_nilF cells_und sc_slc sc_slk sc_ptr sc_bool sc_int sc_str sc_iface sc_func sc_nils sc_nilp sc_nilI sc_nilF gd_zero gd_succ List.all_cons List.all_nil Bool.and_self Bool.and_true Bool.true_and List.length_cons List.length_nil Option.map_some Option.some.injEq cell_same cell_ne cell_ne' cellsAt_same cellsAt_ne cellsAt_ne' put_same put_of set_same set_ne set_ne' List.getElem?_cons_zero List.getElem?_cons_succ if_true if_false and_self and_true true_and ne_eq not_true_eq_false not_false_eq_true decide_true decide_false Bool.false_eq_true Bool.true_eq_false beq_self_eq_true bne_self_eq_false beq_true beq_false Bool.not_true Bool.not_false List.map_cons List.map_nil putL List.set_cons_zero List.set_cons_succ afill Nat.zero_le Nat.le_refl Nat.zero_add Nat.add_zero List.drop_zero List.drop_succ_cons List.take_zero List.take_succ_cons Bool.not_eq_true Bool.not_eq_false decide_eq_true_eq decide_eq_false_iff_not Int.toNat_zero Nat.sub_zero Int.toNat_natCast Bool.bne_true Bool.bne_false AH.cell AH.cellsAt AH.put Nat.mul_one Nat.one_mul Int.natCast_nonneg List.length_set bs_append bs_size bs_toList bs_extract bs_get List.append_nil Nat.sub_zero bne_self_eq_false beq_self_eq_true azeros Int.le_refl
theorem sameB_refl (k1 k2 k3 k4 : Int) (C : Nat) (n1 s1 s2 : Int) (ok : Bool) (x : List UInt8) (L : List En) : sameB k1 k2 k3 k4 C n1 s1 s2 ok x L k1 k2 k3 k4 C n1 s1 s2 ok x L = true := by
  unfold sameB; simp
theorem chk_zero (k1 k2 k3 k4 : Int) (C : Nat) (n1 s1 s2 : Int) (ok : Bool) (x : List UInt8) (L : List En) (h : chk k1 k2 k3 k4 C n1 s1 s2 x L = 0) : (1 ≤ k1 ∧ k1 ≤ 13) ∧ (0 ≤ k2 ∧ k2 ≤ 11) ∧ (0 ≤ k3 ∧ k3 ≤ 11) ∧ (0 ≤ k4 ∧ k4 ≤ 3) ∧ snd C n1 = true ∧ (0 ≤ s1 ∧ s1 ≤ 1099511627776) ∧ (0 ≤ s2 ∧ s2 ≤ 1099511627776) ∧ x.length ≤ 131072 ∧ L.length ≤ 64 ∧ ris (-1) L = true ∧ (∀ y ∈ L, p2 y = true) ∧ ∀ y ∈ L, y.2.2.2.length ≤ 400 := by
  unfold chk r1 r2 r3 r4 at h
  repeat' (split at h)
  all_goals first | (exfalso; revert h; decide) | skip
  simp_all [p4]
  assumption
theorem snd_rg {C : Nat} {n : Int} (h : snd C n = true) : rgN n := by
  have := of_decide_eq_true h
  unfold rgN; omega
theorem p2_rg {y : En} (h : p2 y = true) (h4 : y.2.2.2.length ≤ 400) (h2 : y.2.1 ≤ 18446744073709551615) : inE y := by
  unfold p2 at h
  rw [Bool.and_eq_true] at h
  have a := of_decide_eq_true h.1
  have c := of_decide_eq_true h.2
  exact ⟨⟨by omega, h2, by omega, by omega⟩, by omega, by omega⟩
end Go.Proofs.YtgekngfnhhdamaaI
set_option linter.unusedVariables false
set_option linter.unusedSimpArgs false
set_option maxRecDepth 100000
set_option maxHeartbeats 4000000
namespace Go.Proofs.YtgekngfnhhdamaaI
open Go Go.Proofs.YtgekngfnhhdamaaM
attribute [local go_sem] aop ev fg_slc fg_slk fg_ptr fg_bool fg_int fg_str fg_iface fg_func fg_agg fg_tup fg_nils fg_nilp fg_nilI fg_nilF fg_und aboundsK alen_nils alen_slc alen_slk aslice_nils aslice_slc aslice_slk awanted abin aun aint aeqn aeqc aeqs apart abounds abnd amaxi amaxiGo cells_agg cells_slc cells_slk cells_ptr cells_bool cells_int cells_str cells_iface cells_func cells_tup cells_nils cells_nilp cells_nilI cells_nilF cells_und sc_slc sc_slk sc_ptr sc_bool sc_int sc_str sc_iface sc_func sc_nils sc_nilp sc_nilI sc_nilF gd_zero gd_succ List.all_cons List.all_nil Bool.and_self Bool.and_true Bool.true_and List.length_cons List.length_nil Option.map_some Option.some.injEq cell_same cell_ne cell_ne' cellsAt_same cellsAt_ne cellsAt_ne' put_same put_of set_same set_ne set_ne' List.getElem?_cons_zero List.getElem?_cons_succ if_true if_false and_self and_true true_and ne_eq not_true_eq_false not_false_eq_true decide_true decide_false Bool.false_eq_true Bool.true_eq_false beq_self_eq_true bne_self_eq_false beq_true beq_false Bool.not_true Bool.not_false List.map_cons List.map_nil putL List.set_cons_zero List.set_cons_succ afill Nat.zero_le Nat.le_refl Nat.zero_add Nat.add_zero List.drop_zero List.drop_succ_cons List.take_zero List.take_succ_cons Bool.not_eq_true Bool.not_eq_false decide_eq_true_eq decide_eq_false_iff_not Int.toNat_zero Nat.sub_zero Int.toNat_natCast Bool.bne_true Bool.bne_false AH.cell AH.cellsAt AH.put Nat.mul_one Nat.one_mul Int.natCast_nonneg List.length_set bs_append bs_size bs_toList bs_extract bs_get List.append_nil Nat.sub_zero bne_self_eq_false beq_self_eq_true azeros Int.le_refl
def Fa (h : AH) (S : AV) (L : List En) : Prop := S = .nils ∧ L = [] ∨ ∃ i, S = .slc i 0 L.length 4 ∧ h i = some ⟨false, L.flatMap eM⟩
theorem Fa.up {h h' : AH} {S : AV} {L : List En} (hP : Fa h S L) (hu : Up h h') : Fa h' S L := by
  rcases hP with h | ⟨i, h1, h2⟩
  · exact .inl h
  · exact .inr ⟨i, h1, hu _ _ h2⟩
end Go.Proofs.YtgekngfnhhdamaaI
set_option linter.unusedVariables false
set_option linter.unusedSimpArgs false
set_option maxRecDepth 100000
set_option maxHeartbeats 4000000
namespace Go.Proofs.YtgekngfnhhdamaaI
open Go Go.Proofs.YtgekngfnhhdamaaM
attribute [local go_sem] aop ev fg_slc fg_slk fg_ptr fg_bool fg_int fg_str fg_iface fg_func fg_agg fg_tup fg_nils fg_nilp fg_nilI fg_nilF fg_und aboundsK alen_nils alen_slc alen_slk aslice_nils aslice_slc aslice_slk awanted abin aun aint aeqn aeqc aeqs apart abounds abnd amaxi amaxiGo cells_agg cells_slc cells_slk cells_ptr cells_bool cells_int cells_str cells_iface cells_func cells_tup cells_nils cells_nilp cells_nilI cells_nilF cells_und sc_slc sc_slk sc_ptr sc_bool sc_int sc_str sc_iface sc_func sc_nils sc_nilp sc_nilI sc_nilF gd_zero gd_succ List.all_cons List.all_nil Bool.and_self Bool.and_true Bool.true_and List.length_cons List.length_nil Option.map_some Option.some.injEq cell_same cell_ne cell_ne' cellsAt_same cellsAt_ne cellsAt_ne' put_same put_of set_same set_ne set_ne' List.getElem?_cons_zero List.getElem?_cons_succ if_true if_false and_self and_true true_and ne_eq not_true_eq_false not_false_eq_true decide_true decide_false Bool.false_eq_true Bool.true_eq_false beq_self_eq_true bne_self_eq_false beq_true beq_false Bool.not_true Bool.not_false List.map_cons List.map_nil putL List.set_cons_zero List.set_cons_succ afill Nat.zero_le Nat.le_refl Nat.zero_add Nat.add_zero List.drop_zero List.drop_succ_cons List.take_zero List.take_succ_cons Bool.not_eq_true Bool.not_eq_false decide_eq_true_eq decide_eq_false_iff_not Int.toNat_zero Nat.sub_zero Int.toNat_natCast Bool.bne_true Bool.bne_false AH.cell AH.cellsAt AH.put Nat.mul_one Nat.one_mul Int.natCast_nonneg List.length_set aslice azeros bs_append bs_size bs_toList bs_extract bs_get List.cons_append List.nil_append List.append_nil AV.scalar Int.le_refl List.length_append
end Go.Proofs.YtgekngfnhhdamaaI
set_option linter.unusedVariables false
set_option linter.unusedSimpArgs false
set_option maxRecDepth 100000
set_option maxHeartbeats 4000000
namespace Go.Proofs.YtgekngfnhhdamaaI
open Go Go.Proofs.YtgekngfnhhdamaaM
attribute [local go_sem] aop ev fg_slc fg_slk fg_ptr fg_bool fg_int fg_str fg_iface fg_func fg_agg fg_tup fg_nils fg_nilp fg_nilI fg_nilF fg_und aboundsK alen_nils alen_slc alen_slk aslice_nils aslice_slc aslice_slk awanted abin aun aint aeqn aeqc aeqs apart abounds abnd amaxi amaxiGo cells_agg cells_slc cells_slk cells_ptr cells_bool cells_int cells_str cells_iface cells_func cells_tup cells_nils cells_nilp cells_nilI cells_nilF cells_und sc_slc sc_slk sc_ptr sc_bool sc_int sc_str sc_iface sc_func sc_nils sc_nilp sc_nilI sc_nilF gd_zero gd_succ List.all_cons List.all_nil Bool.and_self Bool.and_true Bool.true_and List.length_cons List.length_nil Option.map_some Option.some.injEq cell_same cell_ne cell_ne' cellsAt_same cellsAt_ne cellsAt_ne' put_same put_of set_same set_ne set_ne' List.getElem?_cons_zero List.getElem?_cons_succ if_true if_false and_self and_true true_and ne_eq not_true_eq_false not_false_eq_true decide_true decide_false Bool.false_eq_true Bool.true_eq_false beq_self_eq_true bne_self_eq_false beq_true beq_false Bool.not_true Bool.not_false List.map_cons List.map_nil putL List.set_cons_zero List.set_cons_succ afill Nat.zero_le Nat.le_refl Nat.zero_add Nat.add_zero List.drop_zero List.drop_succ_cons List.take_zero List.take_succ_cons Bool.not_eq_true Bool.not_eq_false decide_eq_true_eq decide_eq_false_iff_not Int.toNat_zero Nat.sub_zero Int.toNat_natCast Bool.bne_true Bool.bne_false AH.cell AH.cellsAt AH.put Nat.mul_one Nat.one_mul Int.natCast_nonneg List.length_set bs_append bs_size bs_toList bs_extract bs_get List.append_nil Nat.sub_zero bne_self_eq_false beq_self_eq_true azeros Int.le_refl
/-- As Right leaves them. -/
def Rt (A : List En) : Prop := ∀ (i : Nat) (y : En), A[i]? = some y → (1000 * ((i : Nat) : Int) ≤ y.1 ∧ y.1 ≤ 1000 * (i : Int) + 999) ∧ snd y.2.1 y.2.2.1 = true ∧ y.2.2.2.length ≤ 400 ∧ y.2.1 ≤ 18446744073709551615
theorem Rt.mem {A : List En} (hA : Rt A) (hl : A.length ≤ 64) : ∀ y ∈ A, (0 ≤ y.1 ∧ y.1 ≤ 1000000) ∧ snd y.2.1 y.2.2.1 = true ∧ y.2.2.2.length ≤ 400 ∧ y.2.1 ≤ 18446744073709551615 := by
  intro y hy
  obtain ⟨i, hi⟩ := List.getElem?_of_mem hy
  have hil : i < A.length := (List.getElem?_eq_some_iff.1 hi).1
  obtain ⟨⟨a, b⟩, c⟩ := hA i y hi
  exact ⟨⟨by omega, by omega⟩, c⟩
theorem Rt.ok {A : List En} (hA : Rt A) (hl : A.length ≤ 64) : ∀ y ∈ A, okE y := by
  intro y hy
  obtain ⟨⟨b1, b2⟩, b3, b4, b5⟩ := hA.mem hl y hy
  have := snd_rg b3
  unfold rgN at this
  exact ⟨by omega, b5, by omega, by omega⟩
end Go.Proofs.YtgekngfnhhdamaaI
set_option linter.unusedVariables false
set_option linter.unusedSimpArgs false
set_option maxRecDepth 100000
set_option maxHeartbeats 4000000
namespace Go.Proofs.YtgekngfnhhdamaaI
open Go Go.Proofs.YtgekngfnhhdamaaM
attribute [local go_sem] aop ev fg_slc fg_slk fg_ptr fg_bool fg_int fg_str fg_iface fg_func fg_agg fg_tup fg_nils fg_nilp fg_nilI fg_nilF fg_und aboundsK alen_nils alen_slc alen_slk aslice_nils aslice_slc aslice_slk awanted abin aun aint aeqn aeqc aeqs apart abounds abnd amaxi amaxiGo cells_agg cells_slc cells_slk cells_ptr cells_bool cells_int cells_str cells_iface cells_func cells_tup cells_nils cells_nilp cells_nilI cells_nilF cells_und sc_slc sc_slk sc_ptr sc_bool sc_int sc_str sc_iface sc_func sc_nils sc_nilp sc_nilI sc_nilF gd_zero gd_succ List.all_cons List.all_nil Bool.and_self Bool.and_true Bool.true_and List.length_cons List.length_nil Option.map_some Option.some.injEq cell_same cell_ne cell_ne' cellsAt_same cellsAt_ne cellsAt_ne' put_same put_of set_same set_ne set_ne' List.getElem?_cons_zero List.getElem?_cons_succ if_true if_false and_self and_true true_and ne_eq not_true_eq_false not_false_eq_true decide_true decide_false Bool.false_eq_true Bool.true_eq_false beq_self_eq_true bne_self_eq_false beq_true beq_false Bool.not_true Bool.not_false List.map_cons List.map_nil putL List.set_cons_zero List.set_cons_succ afill Nat.zero_le Nat.le_refl Nat.zero_add Nat.add_zero List.drop_zero List.drop_succ_cons List.take_zero List.take_succ_cons Bool.not_eq_true Bool.not_eq_false decide_eq_true_eq decide_eq_false_iff_not Int.toNat_zero Nat.sub_zero Int.toNat_natCast Bool.bne_true Bool.bne_false AH.cell AH.cellsAt AH.put Nat.mul_one Nat.one_mul Int.natCast_nonneg List.length_set bs_append bs_size bs_toList bs_extract bs_get List.cons_append List.nil_append List.append_nil Nat.sub_zero bne_self_eq_false beq_self_eq_true azeros Int.le_refl
/-- within -/
theorem sp82 (n hi : Int) (h : AH) : Sp T 82 [.int .i64 n, .int .i64 hi] h (fun v h' => v = .bool (decide (0 ≤ n ∧ n ≤ hi)) ∧ h' = h) := by
  by_cases c1 : n ≥ 0
  · by_cases c2 : n ≤ hi
    · refine Sp_of (fn := f82) rfl (show W T b82 [.int .i64 n, .int .i64 hi, .tup [], .tup [], .tup [], .tup [], .tup [], .tup [], .tup [], .tup [], .tup [], .tup []] _ _ from ?_)
      unfold b82
      repeat' (first | (refine wNil ?_) | (refine xPure ?_) | (refine xMk ?_; intro id hid; (try simp only [set_none_iff] at hid); refine mkDo ?_) | (refine xChk ?_) | (refine xChkF ?_) | (refine xSkip ?_) | (refine cSeq ?_) | (refine cNorm ?_) | (refine cRet ?_) | (refine cExit ?_) | (refine W_reg rfl ?_) | (refine W_block ?_) | (refine W_ret ?_) | (refine W_skip ?_) | (refine W_exit ?_) | (refine bNorm ?_) | (refine bRet ?_) | (refine bExit ?_) | (refine bExitN rfl ?_) | (refine xMask ?_) | (refine xT ?_) | (refine xF ?_) | (refine xRet ?_) | (refine xNorm ?_) | (refine xSplit ?_ ?_ <;> intro hb <;> (try exact False.elim hb)) | (refine xCond ?_ ?_ <;> intro hb <;> (try exact False.elim hb)))
      all_goals exact ⟨by rw [decide_eq_true (show 0 ≤ n ∧ n ≤ hi from ⟨c1, c2⟩)]; rfl, rfl⟩
    · refine Sp_of (fn := f82) rfl (show W T b82 [.int .i64 n, .int .i64 hi, .tup [], .tup [], .tup [], .tup [], .tup [], .tup [], .tup [], .tup [], .tup [], .tup []] _ _ from ?_)
      unfold b82
      repeat' (first | (refine wNil ?_) | (refine xPure ?_) | (refine xMk ?_; intro id hid; (try simp only [set_none_iff] at hid); refine mkDo ?_) | (refine xChk ?_) | (refine xChkF ?_) | (refine xSkip ?_) | (refine cSeq ?_) | (refine cNorm ?_) | (refine cRet ?_) | (refine cExit ?_) | (refine W_reg rfl ?_) | (refine W_block ?_) | (refine W_ret ?_) | (refine W_skip ?_) | (refine W_exit ?_) | (refine bNorm ?_) | (refine bRet ?_) | (refine bExit ?_) | (refine bExitN rfl ?_) | (refine xMask ?_) | (refine xT ?_) | (refine xF ?_) | (refine xRet ?_) | (refine xNorm ?_) | (refine xSplit ?_ ?_ <;> intro hb <;> (try exact False.elim hb)) | (refine xCond ?_ ?_ <;> intro hb <;> (try exact False.elim hb)))
      all_goals exact ⟨by rw [decide_eq_false (fun hh : 0 ≤ n ∧ n ≤ hi => c2 hh.2)]; rfl, rfl⟩
  · refine Sp_of (fn := f82) rfl (show W T b82 [.int .i64 n, .int .i64 hi, .tup [], .tup [], .tup [], .tup [], .tup [], .tup [], .tup [], .tup [], .tup [], .tup []] _ _ from ?_)
    unfold b82
    repeat' (first | (refine wNil ?_) | (refine xPure ?_) | (refine xMk ?_; intro id hid; (try simp only [set_none_iff] at hid); refine mkDo ?_) | (refine xChk ?_) | (refine xChkF ?_) | (refine xSkip ?_) | (refine cSeq ?_) | (refine cNorm ?_) | (refine cRet ?_) | (refine cExit ?_) | (refine W_reg rfl ?_) | (refine W_block ?_) | (refine W_ret ?_) | (refine W_skip ?_) | (refine W_exit ?_) | (refine bNorm ?_) | (refine bRet ?_) | (refine bExit ?_) | (refine bExitN rfl ?_) | (refine xMask ?_) | (refine xT ?_) | (refine xF ?_) | (refine xRet ?_) | (refine xNorm ?_) | (refine xSplit ?_ ?_ <;> intro hb <;> (try exact False.elim hb)) | (refine xCond ?_ ?_ <;> intro hb <;> (try exact False.elim hb)))
    all_goals exact ⟨by rw [decide_eq_false (fun hh : 0 ≤ n ∧ n ≤ hi => c1 hh.1)]; rfl, rfl⟩
/-- sound -/
theorem sp83 (C : Nat) (n : Int) (h : AH) : Sp T 83 [.agg [.int .u64 C, .int .i64 n]] h (fun v h' => v = .bool (snd C n) ∧ Up h h') := by
  by_cases c1 : 0 ≤ n ∧ n ≤ 11
  · have K0 := decide_eq_true c1
    by_cases c3 : 0 < C
    · have c3' : (C : Int) > 0 := by omega
      have e : snd C n = true := decide_eq_true ⟨c1, .inr c3⟩
      rw [e]
      clear e c1
      refine Sp_of (fn := f83) rfl (show W T b83 [.agg [.int .u64 C, .int .i64 n], .tup [], .tup [], .tup [], .tup [], .tup [], .tup [], .tup [], .tup [], .tup [], .tup [], .tup [], .tup [], .tup [], .tup [], .tup []] _ _ from ?_)
      unfold b83
      repeat' (first | (refine wNil ?_) | (refine xPure ?_) | (refine xMk ?_; intro id hid; (try simp only [set_none_iff] at hid); refine mkDo ?_) | (refine xChk ?_) | (refine xChkF ?_) | (refine xSkip ?_) | (refine xCall rfl rfl (sp82 n 11 _) ?_; rintro v h' ⟨rfl, hx⟩; cases hx; rw [K0]; refine nTm ?_) | (refine cSeq ?_) | (refine cNorm ?_) | (refine cRet ?_) | (refine cExit ?_) | (refine W_reg rfl ?_) | (refine W_block ?_) | (refine W_ret ?_) | (refine W_skip ?_) | (refine W_exit ?_) | (refine bNorm ?_) | (refine bRet ?_) | (refine bExit ?_) | (refine bExitN rfl ?_) | (refine xMask ?_) | (refine xT ?_) | (refine xF ?_) | (refine xRet ?_) | (refine xNorm ?_) | (refine xSplit ?_ ?_ <;> intro hb <;> (try exact False.elim hb)) | (refine xCond ?_ ?_ <;> intro hb <;> (try exact False.elim hb)))
      all_goals exact ⟨rfl, Up.new (Up.refl h) (by assumption)⟩
    · have c3' : ¬ (C : Int) > 0 := by omega
      by_cases c2 : n = 0
      · have c2' : (n == 0) = true := by simpa using c2
        have e : snd C n = true := decide_eq_true ⟨c1, .inl c2⟩
        rw [e]
        clear e c2 c1
        refine Sp_of (fn := f83) rfl (show W T b83 [.agg [.int .u64 C, .int .i64 n], .tup [], .tup [], .tup [], .tup [], .tup [], .tup [], .tup [], .tup [], .tup [], .tup [], .tup [], .tup [], .tup [], .tup [], .tup []] _ _ from ?_)
        unfold b83
        repeat' (first | (refine wNil ?_) | (refine xPure ?_) | (refine xMk ?_; intro id hid; (try simp only [set_none_iff] at hid); refine mkDo ?_) | (refine xChk ?_) | (refine xChkF ?_) | (refine xSkip ?_) | (refine xCall rfl rfl (sp82 n 11 _) ?_; rintro v h' ⟨rfl, hx⟩; cases hx; rw [K0]; refine nTm ?_) | (refine cSeq ?_) | (refine cNorm ?_) | (refine cRet ?_) | (refine cExit ?_) | (refine W_reg rfl ?_) | (refine W_block ?_) | (refine W_ret ?_) | (refine W_skip ?_) | (refine W_exit ?_) | (refine bNorm ?_) | (refine bRet ?_) | (refine bExit ?_) | (refine bExitN rfl ?_) | (refine xMask ?_) | (refine xT ?_) | (refine xF ?_) | (refine xRet ?_) | (refine xNorm ?_) | (refine xSplit ?_ ?_ <;> intro hb <;> (try exact False.elim hb)) | (refine xCond ?_ ?_ <;> intro hb <;> (try exact False.elim hb)))
        all_goals exact ⟨rfl, Up.new (Up.refl h) (by assumption)⟩
      · have c2' : (n == 0) = false := by simpa using c2
        have e : snd C n = false := decide_eq_false (fun hh => hh.2.elim c2 c3)
        rw [e]
        clear e c2 c1
        refine Sp_of (fn := f83) rfl (show W T b83 [.agg [.int .u64 C, .int .i64 n], .tup [], .tup [], .tup [], .tup [], .tup [], .tup [], .tup [], .tup [], .tup [], .tup [], .tup [], .tup [], .tup [], .tup [], .tup []] _ _ from ?_)
        unfold b83
        repeat' (first | (refine wNil ?_) | (refine xPure ?_) | (refine xMk ?_; intro id hid; (try simp only [set_none_iff] at hid); refine mkDo ?_) | (refine xChk ?_) | (refine xChkF ?_) | (refine xSkip ?_) | (refine xCall rfl rfl (sp82 n 11 _) ?_; rintro v h' ⟨rfl, hx⟩; cases hx; rw [K0]; refine nTm ?_) | (refine cSeq ?_) | (refine cNorm ?_) | (refine cRet ?_) | (refine cExit ?_) | (refine W_reg rfl ?_) | (refine W_block ?_) | (refine W_ret ?_) | (refine W_skip ?_) | (refine W_exit ?_) | (refine bNorm ?_) | (refine bRet ?_) | (refine bExit ?_) | (refine bExitN rfl ?_) | (refine xMask ?_) | (refine xT ?_) | (refine xF ?_) | (refine xRet ?_) | (refine xNorm ?_) | (refine xSplit ?_ ?_ <;> intro hb <;> (try exact False.elim hb)) | (refine xCond ?_ ?_ <;> intro hb <;> (try exact False.elim hb)))
        all_goals exact ⟨rfl, Up.new (Up.refl h) (by assumption)⟩
  · have K0 := decide_eq_false c1
    have e : snd C n = false := decide_eq_false (fun hh => c1 hh.1)
    rw [e]
    clear e c1
    refine Sp_of (fn := f83) rfl (show W T b83 [.agg [.int .u64 C, .int .i64 n], .tup [], .tup [], .tup [], .tup [], .tup [], .tup [], .tup [], .tup [], .tup [], .tup [], .tup [], .tup [], .tup [], .tup [], .tup []] _ _ from ?_)
    unfold b83
    repeat' (first | (refine wNil ?_) | (refine xPure ?_) | (refine xMk ?_; intro id hid; (try simp only [set_none_iff] at hid); refine mkDo ?_) | (refine xChk ?_) | (refine xChkF ?_) | (refine xSkip ?_) | (refine xCall rfl rfl (sp82 n 11 _) ?_; rintro v h' ⟨rfl, hx⟩; cases hx; rw [K0]; refine nTm ?_) | (refine cSeq ?_) | (refine cNorm ?_) | (refine cRet ?_) | (refine cExit ?_) | (refine W_reg rfl ?_) | (refine W_block ?_) | (refine W_ret ?_) | (refine W_skip ?_) | (refine W_exit ?_) | (refine bNorm ?_) | (refine bRet ?_) | (refine bExit ?_) | (refine bExitN rfl ?_) | (refine xMask ?_) | (refine xT ?_) | (refine xF ?_) | (refine xRet ?_) | (refine xNorm ?_) | (refine xSplit ?_ ?_ <;> intro hb <;> (try exact False.elim hb)) | (refine xCond ?_ ?_ <;> intro hb <;> (try exact False.elim hb)))
    all_goals exact ⟨rfl, Up.new (Up.refl h) (by assumption)⟩
/-- great's -/
theorem sp84 (y1 : Int) (y2 : Nat) (y3 : Int) (y4 : List UInt8) (h : AH) : Sp T 84 [.agg [.int .i64 y1, .int .u64 (y2 : Int), .int .i64 y3, .str (bs y4)]] h (fun v h' => v = .bool (!(p4 (y1, y2, y3, y4))) ∧ Up h h') := by
  have e : (!(p4 (y1, y2, y3, y4))) = decide ((y4.length : Int) > 400) := by
    by_cases hh : y4.length ≤ 400
    · rw [show p4 (y1, y2, y3, y4) = true from decide_eq_true hh, decide_eq_false (by omega)]; rfl
    · rw [show p4 (y1, y2, y3, y4) = false from decide_eq_false hh, decide_eq_true (by omega)]; rfl
  rw [e]
  clear e
  refine Sp_of (fn := f84) rfl (show W T b84 [.agg [.int .i64 y1, .int .u64 (y2 : Int), .int .i64 y3, .str (bs y4)], .tup [], .tup [], .tup [], .tup [], .tup [], .tup []] _ _ from ?_)
  unfold b84
  repeat' (first | (refine wNil ?_) | (refine xPure ?_) | (refine xMk ?_; intro id hid; (try simp only [set_none_iff] at hid); refine mkDo ?_) | (refine xChk ?_) | (refine xChkF ?_) | (refine xSkip ?_) | (refine cSeq ?_) | (refine cNorm ?_) | (refine cRet ?_) | (refine cExit ?_) | (refine W_reg rfl ?_) | (refine W_block ?_) | (refine W_ret ?_) | (refine W_skip ?_) | (refine W_exit ?_) | (refine bNorm ?_) | (refine bRet ?_) | (refine bExit ?_) | (refine bExitN rfl ?_) | (refine xMask ?_) | (refine xT ?_) | (refine xF ?_) | (refine xRet ?_) | (refine xNorm ?_) | (refine xSplit ?_ ?_ <;> intro hb <;> (try exact False.elim hb)) | (refine xCond ?_ ?_ <;> intro hb <;> (try exact False.elim hb)))
  all_goals exact ⟨rfl, Up.new (Up.refl h) (by assumption)⟩
/-- slices.IndexFunc -/
theorem sp89 (S : AV) (L : List En) (h : AH) (hS : Le h S L) (hl : L.length ≤ 1000) : Sp T 89 [S, .func 84 [] []] h (fun v h' => ∃ r : Int, v = .int .i64 r ∧ decide (r ≥ 0) = (!(L.all p4)) ∧ Up h h') := by
  have hSl := hS.len
  refine Sp_of (fn := f89) rfl (show W T b89 [S, .func 84 [] [], .tup [], .tup [], .tup [], .tup [], .tup [], .tup [], .tup [], .tup [], .tup [], .tup [], .tup [], .tup [], .tup [], .tup [], .tup [], .tup [], .tup []] _ _ from ?_)
  unfold b89
  repeat' (first | (refine wNil ?_) | (refine xPure ?_) | (refine xMk ?_; intro id hid; (try simp only [set_none_iff] at hid); refine mkDo ?_) | (refine xChk ?_) | (refine xChkF ?_) | (refine xSkip ?_) | (refine cSeq ?_) | (refine cNorm ?_) | (refine cRet ?_) | (refine cExit ?_) | (refine W_reg rfl ?_) | (refine W_block ?_) | (refine W_ret ?_) | (refine W_skip ?_) | (refine W_exit ?_) | (refine bNorm ?_) | (refine bRet ?_) | (refine bExit ?_) | (refine bExitN rfl ?_) | (refine xMask ?_) | (refine xT ?_) | (refine xF ?_) | (refine xRet ?_) | (refine xNorm ?_) | (refine xSplit ?_ ?_ <;> intro hb <;> (try exact False.elim hb)) | (refine xCond ?_ ?_ <;> intro hb <;> (try exact False.elim hb)))
  refine W_loop (fun m tm g => ∃ k : Nat, k + m = L.length ∧ Up h g ∧ L.all p4 = (L.drop k).all p4 ∧ keep [0, 1, 7, 8] 0 tm = [S, .func 84 [] [], .und, .und, .und, .und, .und, .int .i64 (L.length : Int), .int .i64 (k : Int), .und, .und, .und, .und, .und, .und, .und, .und, .und, .und]) L.length ⟨0, by omega, Up.refl h, by rw [List.drop_zero], rfl⟩ ?_
  rintro m tm g ⟨k, hk, hu, hr, htm⟩
  refine cSeq (cMask (cNorm ?_))
  rw [htm]; clear htm
  by_cases hkl : k < L.length
  · have d1 : (k : Int) < (L.length : Int) := by omega
    have d2 : (0 : Int) ≤ (k : Int) := by omega
    have w1 : IntKind.i64.wrap ((k : Int) + 1) = ((k + 1 : Nat) : Int) := by rw [wrap64 (by omega) (by omega)]; rfl
    obtain ⟨⟨y1, y2, y3, y4⟩, hy⟩ : ∃ y, L[k]? = some y := ⟨_, List.getElem?_eq_getElem hkl⟩
    have hdr : L.drop k = (y1, y2, y3, y4) :: L.drop (k + 1) := by rw [List.drop_eq_getElem_cons hkl, (List.getElem?_eq_some_iff.1 hy).2]
    rw [hdr, List.all_cons] at hr
    rcases hS with ⟨rfl, rfl⟩ | ⟨iL, ow, rfl, hL⟩
    · simp at hkl
    have hLg := hu _ _ hL
    obtain ⟨g1, g2⟩ := flat_get eMz hy []
    rw [List.append_nil] at g1 g2
    simp only [eM] at g2
    clear hdr hy
    cases B1 : (!(p4 (y1, y2, y3, y4))) with
    | true =>
      have e : (!(L.all p4)) = true := by rw [hr]; rw [Bool.not_eq_true'] at B1; rw [B1]; rfl
      clear hr
      repeat' (first | (refine wNil ?_) | (refine xPure ?_) | (refine xMk ?_; intro id hid; (try simp only [set_none_iff] at hid); refine mkDo ?_) | (refine xChk ?_) | (refine xChkF ?_) | (refine xSkip ?_) | (refine wCallV rfl (by (first | (simp only [awanted, gd_zero, gd_succ, beq_self_eq_true, beq_true, beq_false, Bool.not_true, Bool.not_false, *]; done) | rfl)) rfl (by (first | rfl | (simp only [go_sem, *]; done))) (Sp.mono (sp84 y1 y2 y3 y4 _) ?_); rintro v j1 ⟨rfl, hu1⟩; rw [B1]; have HU : Up h j1 := hu.trans hu1; dsimp only [putT, ev, Int.toNat_zero, Nat.sub_zero, Int.toNat_natCast,  gd_zero, gd_succ, Nat.zero_add, Nat.add_zero, Nat.reduceAdd, Nat.reduceMul, List.set_cons_zero, List.set_cons_succ, keep, List.contains_cons, List.contains_nil]) | (refine cSeq ?_) | (refine cNorm ?_) | (refine cRet ?_) | (refine cExit ?_) | (refine W_reg rfl ?_) | (refine W_block ?_) | (refine W_ret ?_) | (refine W_skip ?_) | (refine W_exit ?_) | (refine bNorm ?_) | (refine bRet ?_) | (refine bExit ?_) | (refine bExitN rfl ?_) | (refine xMask ?_) | (refine xT ?_) | (refine xF ?_) | (refine xRet ?_) | (refine xNorm ?_) | (refine xSplit ?_ ?_ <;> intro hb <;> (try exact False.elim hb)) | (refine xCond ?_ ?_ <;> intro hb <;> (try exact False.elim hb)))
      all_goals exact ⟨_, rfl, by rw [e]; exact decide_eq_true d2, HU⟩
    | false =>
      have e : L.all p4 = (L.drop (k + 1)).all p4 := by rw [hr]; rw [Bool.not_eq_false'] at B1; rw [B1]; rfl
      clear hr
      repeat' (first | (refine wNil ?_) | (refine xPure ?_) | (refine xMk ?_; intro id hid; (try simp only [set_none_iff] at hid); refine mkDo ?_) | (refine xChk ?_) | (refine xChkF ?_) | (refine xSkip ?_) | (refine wCallV rfl (by (first | (simp only [awanted, gd_zero, gd_succ, beq_self_eq_true, beq_true, beq_false, Bool.not_true, Bool.not_false, *]; done) | rfl)) rfl (by (first | rfl | (simp only [go_sem, *]; done))) (Sp.mono (sp84 y1 y2 y3 y4 _) ?_); rintro v j1 ⟨rfl, hu1⟩; rw [B1]; have HU : Up h j1 := hu.trans hu1; dsimp only [putT, ev, Int.toNat_zero, Nat.sub_zero, Int.toNat_natCast,  gd_zero, gd_succ, Nat.zero_add, Nat.add_zero, Nat.reduceAdd, Nat.reduceMul, List.set_cons_zero, List.set_cons_succ, keep, List.contains_cons, List.contains_nil]) | (refine cSeq ?_) | (refine cNorm ?_) | (refine cRet ?_) | (refine cExit ?_) | (refine W_reg rfl ?_) | (refine W_block ?_) | (refine W_ret ?_) | (refine W_skip ?_) | (refine W_exit ?_) | (refine bNorm ?_) | (refine bRet ?_) | (refine bExit ?_) | (refine bExitN rfl ?_) | (refine xMask ?_) | (refine xT ?_) | (refine xF ?_) | (refine xRet ?_) | (refine xNorm ?_) | (refine xSplit ?_ ?_ <;> intro hb <;> (try exact False.elim hb)) | (refine xCond ?_ ?_ <;> intro hb <;> (try exact False.elim hb)))
      all_goals exact ⟨m - 1, by omega, k + 1, by omega, HU, e, by simp only [keep, List.contains_cons, List.contains_nil, Nat.reduceBEq, Bool.or_true, Bool.true_or, Bool.or_false, Bool.false_or, if_true, if_false, Bool.false_eq_true, beq_self_eq_true, Nat.zero_add, Nat.reduceAdd, eq_self]⟩
  · have d1 : ¬ (k : Int) < (L.length : Int) := by omega
    rw [List.drop_of_length_le (by omega), List.all_nil] at hr
    have e : (!(L.all p4)) = false := by rw [hr]; rfl
    clear hr
    repeat' (first | (refine wNil ?_) | (refine xPure ?_) | (refine xMk ?_; intro id hid; (try simp only [set_none_iff] at hid); refine mkDo ?_) | (refine xChk ?_) | (refine xChkF ?_) | (refine xSkip ?_) | (refine cSeq ?_) | (refine cNorm ?_) | (refine cRet ?_) | (refine cExit ?_) | (refine W_reg rfl ?_) | (refine W_block ?_) | (refine W_ret ?_) | (refine W_skip ?_) | (refine W_exit ?_) | (refine bNorm ?_) | (refine bRet ?_) | (refine bExit ?_) | (refine bExitN rfl ?_) | (refine xMask ?_) | (refine xT ?_) | (refine xF ?_) | (refine xRet ?_) | (refine xNorm ?_) | (refine xSplit ?_ ?_ <;> intro hb <;> (try exact False.elim hb)) | (refine xCond ?_ ?_ <;> intro hb <;> (try exact False.elim hb)))
    all_goals exact ⟨-1, rfl, by rw [e]; rfl, hu⟩
/-- slices.ContainsFunc -/
theorem sp85 (S : AV) (L : List En) (h : AH) (hS : Le h S L) (hl : L.length ≤ 1000) : Sp T 85 [S, .func 84 [] []] h (fun v h' => v = .bool (!(L.all p4)) ∧ Up h h') := by
  refine Sp_of (fn := f85) rfl (show W T b85 [S, .func 84 [] [], .tup [], .tup [], .tup [], .tup [], .tup [], .tup [], .tup []] _ _ from ?_)
  unfold b85
  repeat' (first | (refine wNil ?_) | (refine xPure ?_) | (refine xMk ?_; intro id hid; (try simp only [set_none_iff] at hid); refine mkDo ?_) | (refine xChk ?_) | (refine xChkF ?_) | (refine xSkip ?_) | (refine xCall rfl rfl (sp89 S L _ hS hl) ?_; rintro v j ⟨r, rfl, hr, hu⟩; refine nTm ?_) | (refine cSeq ?_) | (refine cNorm ?_) | (refine cRet ?_) | (refine cExit ?_) | (refine W_reg rfl ?_) | (refine W_block ?_) | (refine W_ret ?_) | (refine W_skip ?_) | (refine W_exit ?_) | (refine bNorm ?_) | (refine bRet ?_) | (refine bExit ?_) | (refine bExitN rfl ?_) | (refine xMask ?_) | (refine xT ?_) | (refine xF ?_) | (refine xRet ?_) | (refine xNorm ?_) | (refine xSplit ?_ ?_ <;> intro hb <;> (try exact False.elim hb)) | (refine xCond ?_ ?_ <;> intro hb <;> (try exact False.elim hb)))
  all_goals exact ⟨by rw [← hr]; rfl, hu⟩
def grB (x : List UInt8) (L : List En) : Bool := !(decide (x.length ≤ 131072 ∧ L.length ≤ 64) && L.all p4)
/-- great -/
theorem sp73 (k1 k2 k3 k4 : Int) (C : Nat) (n1 s1 s2 : Int) (ok : Bool) (x : List UInt8) (S : AV) (L : List En) (h : AH) (hS : Le h S L) (hl : L.length ≤ 1000) :
    Sp T 73 [.agg [.int .i64 k1, .int .i64 k2, .int .i64 k3, .int .i64 k4, .int .u64 (C : Int), .int .i64 n1, .int .i64 s1, .int .i64 s2, .bool ok, .str (bs x), S]] h (fun v h' => v = .bool (grB x L) ∧ Up h h') := by
  have hSl := hS.len
  have hu0 := Up.refl h
  have hSc : S.scalar = true := by rcases hS with ⟨rfl, rfl⟩ | ⟨i, _, rfl, _⟩ <;> rfl
  by_cases c1 : x.length ≤ 131072
  · have d1 : ¬ (x.length : Int) > 131072 := by omega
    by_cases c2 : L.length ≤ 64
    · have d2 : ¬ (L.length : Int) > 64 := by omega
      have e : grB x L = (!(L.all p4)) := by unfold grB; rw [decide_eq_true ⟨c1, c2⟩]; rfl
      rw [e]
      clear e
      refine Sp_of (fn := f73) rfl (show W T b73 [.agg [.int .i64 k1, .int .i64 k2, .int .i64 k3, .int .i64 k4, .int .u64 (C : Int), .int .i64 n1, .int .i64 s1, .int .i64 s2, .bool ok, .str (bs x), S], .tup [], .tup [], .tup [], .tup [], .tup [], .tup [], .tup [], .tup [], .tup [], .tup [], .tup [], .tup [], .tup [], .tup [], .tup [], .tup [], .tup [], .tup [], .tup []] _ _ from ?_)
      unfold b73
      repeat' (first | (refine wNil ?_) | (refine xPure ?_) | (refine xMk ?_; intro id hid; (try simp only [set_none_iff] at hid); have hz := hid; (repeat (replace hz := hz.2)); (try have := Up.none hu0 hz); refine mkDo ?_) | (refine xChk ?_) | (refine xChkF ?_) | (refine xSkip ?_) | (refine xCall rfl rfl (sp85 S L _ (hS.up (by repeat' (first | assumption | exact Up.refl _ | refine Up.new ?_ ?_))) hl) ?_; rintro v j ⟨rfl, hu⟩; have HU := Up.trans (show Up h _ from (by repeat' (first | assumption | exact Up.refl _ | refine Up.new ?_ ?_))) hu; refine nTm ?_) | (refine cSeq ?_) | (refine cNorm ?_) | (refine cRet ?_) | (refine cExit ?_) | (refine W_reg rfl ?_) | (refine W_block ?_) | (refine W_ret ?_) | (refine W_skip ?_) | (refine W_exit ?_) | (refine bNorm ?_) | (refine bRet ?_) | (refine bExit ?_) | (refine bExitN rfl ?_) | (refine xMask ?_) | (refine xT ?_) | (refine xF ?_) | (refine xRet ?_) | (refine xNorm ?_) | (refine xSplit ?_ ?_ <;> intro hb <;> (try exact False.elim hb)) | (refine xCond ?_ ?_ <;> intro hb <;> (try exact False.elim hb)))
      all_goals exact ⟨rfl, HU⟩
    · have d2 : (L.length : Int) > 64 := by omega
      have e : grB x L = true := by unfold grB; rw [decide_eq_false (fun hh => c2 hh.2)]; rfl
      rw [e]
      clear e
      refine Sp_of (fn := f73) rfl (show W T b73 [.agg [.int .i64 k1, .int .i64 k2, .int .i64 k3, .int .i64 k4, .int .u64 (C : Int), .int .i64 n1, .int .i64 s1, .int .i64 s2, .bool ok, .str (bs x), S], .tup [], .tup [], .tup [], .tup [], .tup [], .tup [], .tup [], .tup [], .tup [], .tup [], .tup [], .tup [], .tup [], .tup [], .tup [], .tup [], .tup [], .tup [], .tup []] _ _ from ?_)
      unfold b73
      repeat' (first | (refine wNil ?_) | (refine xPure ?_) | (refine xMk ?_; intro id hid; (try simp only [set_none_iff] at hid); have hz := hid; (repeat (replace hz := hz.2)); (try have := Up.none hu0 hz); refine mkDo ?_) | (refine xChk ?_) | (refine xChkF ?_) | (refine xSkip ?_) | (refine cSeq ?_) | (refine cNorm ?_) | (refine cRet ?_) | (refine cExit ?_) | (refine W_reg rfl ?_) | (refine W_block ?_) | (refine W_ret ?_) | (refine W_skip ?_) | (refine W_exit ?_) | (refine bNorm ?_) | (refine bRet ?_) | (refine bExit ?_) | (refine bExitN rfl ?_) | (refine xMask ?_) | (refine xT ?_) | (refine xF ?_) | (refine xRet ?_) | (refine xNorm ?_) | (refine xSplit ?_ ?_ <;> intro hb <;> (try exact False.elim hb)) | (refine xCond ?_ ?_ <;> intro hb <;> (try exact False.elim hb)))
      all_goals exact ⟨rfl, (by repeat' (first | assumption | exact Up.refl _ | refine Up.new ?_ ?_))⟩
  · have d1 : (x.length : Int) > 131072 := by omega
    have e : grB x L = true := by unfold grB; rw [decide_eq_false (fun hh => c1 hh.1)]; rfl
    rw [e]
    clear e
    refine Sp_of (fn := f73) rfl (show W T b73 [.agg [.int .i64 k1, .int .i64 k2, .int .i64 k3, .int .i64 k4, .int .u64 (C : Int), .int .i64 n1, .int .i64 s1, .int .i64 s2, .bool ok, .str (bs x), S], .tup [], .tup [], .tup [], .tup [], .tup [], .tup [], .tup [], .tup [], .tup [], .tup [], .tup [], .tup [], .tup [], .tup [], .tup [], .tup [], .tup [], .tup [], .tup []] _ _ from ?_)
    unfold b73
    repeat' (first | (refine wNil ?_) | (refine xPure ?_) | (refine xMk ?_; intro id hid; (try simp only [set_none_iff] at hid); have hz := hid; (repeat (replace hz := hz.2)); (try have := Up.none hu0 hz); refine mkDo ?_) | (refine xChk ?_) | (refine xChkF ?_) | (refine xSkip ?_) | (refine cSeq ?_) | (refine cNorm ?_) | (refine cRet ?_) | (refine cExit ?_) | (refine W_reg rfl ?_) | (refine W_block ?_) | (refine W_ret ?_) | (refine W_skip ?_) | (refine W_exit ?_) | (refine bNorm ?_) | (refine bRet ?_) | (refine bExit ?_) | (refine bExitN rfl ?_) | (refine xMask ?_) | (refine xT ?_) | (refine xF ?_) | (refine xRet ?_) | (refine xNorm ?_) | (refine xSplit ?_ ?_ <;> intro hb <;> (try exact False.elim hb)) | (refine xCond ?_ ?_ <;> intro hb <;> (try exact False.elim hb)))
    all_goals exact ⟨rfl, (by repeat' (first | assumption | exact Up.refl _ | refine Up.new ?_ ?_))⟩
end Go.Proofs.YtgekngfnhhdamaaI
set_option linter.unusedVariables false
set_option linter.unusedSimpArgs false
set_option maxRecDepth 100000
set_option maxHeartbeats 4000000
namespace Go.Proofs.YtgekngfnhhdamaaI
open Go Go.Proofs.YtgekngfnhhdamaaM
attribute [local go_sem] aop ev fg_slc fg_slk fg_ptr fg_bool fg_int fg_str fg_iface fg_func fg_agg fg_tup fg_nils fg_nilp fg_nilI fg_nilF fg_und aboundsK alen_nils alen_slc alen_slk aslice_nils aslice_slc aslice_slk awanted abin aun aint aeqn aeqc aeqs apart abounds abnd amaxi amaxiGo cells_agg cells_slc cells_slk cells_ptr cells_bool cells_int cells_str cells_iface cells_func cells_tup cells_nils cells_nilp cells_nilI cells_nilF cells_und sc_slc sc_slk sc_ptr sc_bool sc_int sc_str sc_iface sc_func sc_nils sc_nilp sc_nilI sc_nilF gd_zero gd_succ List.all_cons List.all_nil Bool.and_self Bool.and_true Bool.true_and List.length_cons List.length_nil Option.map_some Option.some.injEq cell_same cell_ne cell_ne' cellsAt_same cellsAt_ne cellsAt_ne' put_same put_of set_same set_ne set_ne' List.getElem?_cons_zero List.getElem?_cons_succ if_true if_false and_self and_true true_and ne_eq not_true_eq_false not_false_eq_true decide_true decide_false Bool.false_eq_true Bool.true_eq_false beq_self_eq_true bne_self_eq_false beq_true beq_false Bool.not_true Bool.not_false List.map_cons List.map_nil putL List.set_cons_zero List.set_cons_succ afill Nat.zero_le Nat.le_refl Nat.zero_add Nat.add_zero List.drop_zero List.drop_succ_cons List.take_zero List.take_succ_cons Bool.not_eq_true Bool.not_eq_false decide_eq_true_eq decide_eq_false_iff_not Int.toNat_zero Nat.sub_zero Int.toNat_natCast Bool.bne_true Bool.bne_false AH.cell AH.cellsAt AH.put Nat.mul_one Nat.one_mul Int.natCast_nonneg List.length_set bs_append bs_size bs_toList bs_extract bs_get List.cons_append List.nil_append List.append_nil Nat.sub_zero bne_self_eq_false beq_self_eq_true azeros Int.le_refl
def risP : List En → Bool
  | [] => true
  | y :: L => ris y.1 L
theorem risP_eq {L : List En} (h : ∀ y ∈ L, 0 ≤ y.1) : risP L = ris (-1) L := by
  cases L with
  | nil => rfl
  | cons y L =>
    have := h y (by simp)
    show ris y.1 L = (decide ((-1 : Int) < y.1) && ris y.1 L)
    rw [decide_eq_true (by omega)]; rfl
theorem flat0 (L : List En) (k : Nat) (y1 : Int) (y2 : Nat) (y3 : Int) (y4 : List UInt8) (hy : L[k]? = some (y1, y2, y3, y4)) : (L.flatMap eM)[k * 4]? = some (.int .i64 y1) := by
  obtain ⟨_, g2⟩ := flat_get eMz hy []
  rw [List.append_nil] at g2
  have := congrArg (·[0]?) g2
  simpa [List.getElem?_take, List.getElem?_drop, eM] using this
/-- rising -/
theorem sp74 (k1 k2 k3 k4 : Int) (C : Nat) (n1 s1 s2 : Int) (ok : Bool) (x : List UInt8) (S : AV) (L : List En) (h : AH) (hS : Le h S L) (hl : L.length ≤ 1000) :
    Sp T 74 [.agg [.int .i64 k1, .int .i64 k2, .int .i64 k3, .int .i64 k4, .int .u64 (C : Int), .int .i64 n1, .int .i64 s1, .int .i64 s2, .bool ok, .str (bs x), S]] h (fun v h' => v = .bool (risP L) ∧ Up h h') := by
  have hSl := hS.len
  have hu0 := Up.refl h
  have hSc : S.scalar = true := by rcases hS with ⟨rfl, rfl⟩ | ⟨i, _, rfl, _⟩ <;> rfl
  refine Sp_of (fn := f74) rfl (show W T b74 [.agg [.int .i64 k1, .int .i64 k2, .int .i64 k3, .int .i64 k4, .int .u64 (C : Int), .int .i64 n1, .int .i64 s1, .int .i64 s2, .bool ok, .str (bs x), S], .tup [], .tup [], .tup [], .tup [], .tup [], .tup [], .tup [], .tup [], .tup [], .tup [], .tup [], .tup [], .tup [], .tup [], .tup [], .tup [], .tup [], .tup [], .tup [], .tup [], .tup [], .tup [], .tup [], .tup []] _ _ from ?_)
  unfold b74
  repeat' (first | (refine wNil ?_) | (refine xPure ?_) | (refine xMk ?_; intro id hid; (try simp only [set_none_iff] at hid); have hz := hid; (repeat (replace hz := hz.2)); (try have := Up.none hu0 hz); refine mkDo ?_) | (refine xChk ?_) | (refine xChkF ?_) | (refine xSkip ?_) | (refine cSeq ?_) | (refine cNorm ?_) | (refine cRet ?_) | (refine cExit ?_) | (refine W_reg rfl ?_) | (refine W_block ?_) | (refine W_ret ?_) | (refine W_skip ?_) | (refine W_exit ?_) | (refine bNorm ?_) | (refine bRet ?_) | (refine bExit ?_) | (refine bExitN rfl ?_) | (refine xMask ?_) | (refine xT ?_) | (refine xF ?_) | (refine xRet ?_) | (refine xNorm ?_) | (refine xSplit ?_ ?_ <;> intro hb <;> (try exact False.elim hb)) | (refine xCond ?_ ?_ <;> intro hb <;> (try exact False.elim hb)))
  obtain ⟨b1, rfl⟩ : ∃ x, x = id := ⟨_, rfl⟩
  have hb := hz
  refine W_loop (fun m tm g => ∃ k : Nat, k + m = L.length ∧ Up h g ∧ g b1 = some ⟨true, [.int .i64 k1, .int .i64 k2, .int .i64 k3, .int .i64 k4, .int .u64 (C : Int), .int .i64 n1, .int .i64 s1, .int .i64 s2, .bool ok, .str (bs x), S]⟩ ∧ (L = [] ∨ ∃ y, L[k]? = some y ∧ risP L = ris y.1 (L.drop (k + 1))) ∧ keep [1, 3] 0 tm = [.und, .ptr b1 0, .und, .int .i64 ((k + 1 : Nat) : Int), .und, .und, .und, .und, .und, .und, .und, .und, .und, .und, .und, .und, .und, .und, .und, .und, .und, .und, .und, .und, .und]) L.length ⟨0, by omega, Up.new hu0 hb, set_same, ?_, rfl⟩ ?_
  · cases L with
    | nil => exact .inl rfl
    | cons y L => exact .inr ⟨y, rfl, rfl⟩
  clear hid hz this hu0
  rintro m tm g ⟨k, hk, hu, h1, hr, htm⟩
  refine cSeq (cMask (cNorm ?_))
  rw [htm]; clear htm
  by_cases hkl : k + 1 < L.length
  · have d1 : ((k + 1 : Nat) : Int) < (L.length : Int) := by omega
    have d2 : (0 : Int) ≤ (k : Int) := by omega
    have d3 : (k : Int) < (L.length : Int) := by omega
    have d4 : (0 : Int) ≤ ((k + 1 : Nat) : Int) := by omega
    have w1 : IntKind.i64.wrap (((k + 1 : Nat) : Int) + 1) = ((k + 1 + 1 : Nat) : Int) := by rw [wrap64 (by omega) (by omega)]; rfl
    have w2 : IntKind.i64.wrap (((k + 1 : Nat) : Int) - 1) = (k : Int) := by rw [wrap64 (by omega) (by omega)]; omega
    rcases hr with rfl | ⟨⟨z1, z2, z3, z4⟩, hz, hr⟩
    · simp at hkl
    obtain ⟨⟨y1, y2, y3, y4⟩, hy⟩ : ∃ y, L[k + 1]? = some y := ⟨_, List.getElem?_eq_getElem hkl⟩
    have hdr : L.drop (k + 1) = (y1, y2, y3, y4) :: L.drop (k + 1 + 1) := by rw [List.drop_eq_getElem_cons hkl, (List.getElem?_eq_some_iff.1 hy).2]
    rw [hdr, ris] at hr
    rcases hS with ⟨rfl, rfl⟩ | ⟨iL, ow, rfl, hL⟩
    · simp at hkl
    have hLg := hu _ _ hL
    have g3 : (L.flatMap eM)[(k + 1) * 4]? = some (.int .i64 y1) := flat0 L (k + 1) y1 y2 y3 y4 hy
    have g4 : (L.flatMap eM)[k * 4]? = some (.int .i64 z1) := flat0 L k z1 z2 z3 z4 hz
    have hy' := hy
    clear hdr hy hz
    by_cases hy1 : y1 ≤ z1
    · have e : risP L = false := by rw [hr, decide_eq_false (by simp only; omega)]; rfl
      rw [e]
      clear hr e
      repeat' (first | (refine wNil ?_) | (refine xPure ?_) | (refine xMk ?_; intro id hid; (try simp only [set_none_iff] at hid); have hz := hid; (repeat (replace hz := hz.2)); (try have := nei hLg hz); (try have := Up.none hu hz); refine mkDo ?_) | (refine xChk ?_) | (refine xChkF ?_) | (refine xSkip ?_) | (refine cSeq ?_) | (refine cNorm ?_) | (refine cRet ?_) | (refine cExit ?_) | (refine W_reg rfl ?_) | (refine W_block ?_) | (refine W_ret ?_) | (refine W_skip ?_) | (refine W_exit ?_) | (refine bNorm ?_) | (refine bRet ?_) | (refine bExit ?_) | (refine bExitN rfl ?_) | (refine xMask ?_) | (refine xT ?_) | (refine xF ?_) | (refine xRet ?_) | (refine xNorm ?_) | (refine xSplit ?_ ?_ <;> intro hb <;> (try exact False.elim hb)) | (refine xCond ?_ ?_ <;> intro hb <;> (try exact False.elim hb)))
      all_goals exact ⟨rfl, hu⟩
    · have e : risP L = ris y1 (L.drop (k + 1 + 1)) := by rw [hr, decide_eq_true (by simp only; omega)]; rfl
      clear hr
      repeat' (first | (refine wNil ?_) | (refine xPure ?_) | (refine xMk ?_; intro id hid; (try simp only [set_none_iff] at hid); have hz := hid; (repeat (replace hz := hz.2)); (try have := nei hLg hz); (try have := Up.none hu hz); refine mkDo ?_) | (refine xChk ?_) | (refine xChkF ?_) | (refine xSkip ?_) | (refine cSeq ?_) | (refine cNorm ?_) | (refine cRet ?_) | (refine cExit ?_) | (refine W_reg rfl ?_) | (refine W_block ?_) | (refine W_ret ?_) | (refine W_skip ?_) | (refine W_exit ?_) | (refine bNorm ?_) | (refine bRet ?_) | (refine bExit ?_) | (refine bExitN rfl ?_) | (refine xMask ?_) | (refine xT ?_) | (refine xF ?_) | (refine xRet ?_) | (refine xNorm ?_) | (refine xSplit ?_ ?_ <;> intro hb <;> (try exact False.elim hb)) | (refine xCond ?_ ?_ <;> intro hb <;> (try exact False.elim hb)))
      all_goals exact ⟨m - 1, by omega, k + 1, by omega, hu, h1, .inr ⟨_, hy', e⟩, by simp only [keep, List.contains_cons, List.contains_nil, Nat.reduceBEq, Bool.or_true, Bool.true_or, Bool.or_false, Bool.false_or, if_true, if_false, Bool.false_eq_true, beq_self_eq_true, Nat.zero_add, Nat.reduceAdd, eq_self]⟩
  · have d1 : ¬ ((k + 1 : Nat) : Int) < (L.length : Int) := by omega
    have e : risP L = true := by
      rcases hr with rfl | ⟨y, _, hr⟩
      · rfl
      · rw [hr, List.drop_of_length_le (by omega)]; rfl
    rw [e]
    clear hr e
    repeat' (first | (refine wNil ?_) | (refine xPure ?_) | (refine xMk ?_; intro id hid; (try simp only [set_none_iff] at hid); refine mkDo ?_) | (refine xChk ?_) | (refine xChkF ?_) | (refine xSkip ?_) | (refine cSeq ?_) | (refine cNorm ?_) | (refine cRet ?_) | (refine cExit ?_) | (refine W_reg rfl ?_) | (refine W_block ?_) | (refine W_ret ?_) | (refine W_skip ?_) | (refine W_exit ?_) | (refine bNorm ?_) | (refine bRet ?_) | (refine bExit ?_) | (refine bExitN rfl ?_) | (refine xMask ?_) | (refine xT ?_) | (refine xF ?_) | (refine xRet ?_) | (refine xNorm ?_) | (refine xSplit ?_ ?_ <;> intro hb <;> (try exact False.elim hb)) | (refine xCond ?_ ?_ <;> intro hb <;> (try exact False.elim hb)))
    all_goals exact ⟨rfl, hu⟩
def rgB (k2 k3 k4 : Int) (C : Nat) (n1 s1 s2 : Int) (L : List En) : Bool := (decide (0 ≤ k2 ∧ k2 ≤ 11) && (decide (0 ≤ k3 ∧ k3 ≤ 11) && (decide (0 ≤ k4 ∧ k4 ≤ 3) && (snd C n1 && (L.all p2 && (decide (0 ≤ s1 ∧ s1 ≤ 1099511627776) && decide (0 ≤ s2 ∧ s2 ≤ 1099511627776)))))))
def L72c : ICode := (.seq (.block 0 (.loop (.seq (.mask [1, 28, 29, 30]) (.seq (.reg [(0, false)] r72_4)
 (.seq (.cond (.t 31) .skip
 (.exit 0))
 (.seq (.seq (.block 1 (.seq (.reg [(0, false), (1, false), (2, false), (3, false)] r72_5)
 (.seq (.reg [(0, false), (1, false), (2, false), (3, false), (4, false), (5, false), (6, false), (7, false), (8, false), (9, false)] r72_6)
 (.cond (.t 43) (.seq (.reg [(0, false)] r72_7)
 .ret)
 .skip)))) (.mask [1, 28, 29, 30]))
 (.reg [(0, false), (1, false)] r72_8))))))) (.mask [1]))
def R72c : ICode := (.seq (.reg [(0, false), (1, false), (2, false), (3, false), (4, false), (5, false), (6, false), (7, false), (8, false)] r72_9)
 .ret)
theorem loop72 (k1 k2 k3 k4 : Int) (C : Nat) (n1 s1 s2 : Int) (ok : Bool) (x : List UInt8) (S : AV) (L : List En) (h g : AH) (b1 : List Nat) (hS : Le h S L) (hl : L.length ≤ 1000) (hu : Up h g) (h1 : g b1 = some ⟨true, [.int .i64 k1, .int .i64 k2, .int .i64 k3, .int .i64 k4, .int .u64 (C : Int), .int .i64 n1, .int .i64 s1, .int .i64 s2, .bool ok, .str (bs x), S]⟩)
    (Q : AV → AH → Prop) (hQ : ∀ g', Up h g' → Q (.bool (L.all p2 && (decide (0 ≤ s1 ∧ s1 ≤ 1099511627776) && decide (0 ≤ s2 ∧ s2 ≤ 1099511627776)))) g') (tm : List AV) (htm : keep [1, 28, 29, 30] 0 tm = [.und, .ptr b1 0, .und, .und, .und, .und, .und, .und, .und, .und, .und, .und, .und, .und, .und, .und, .und, .und, .und, .und, .und, .und, .und, .und, .und, .und, .und, .und, S, .int .i64 (L.length : Int), .int .i64 0, .und, .und, .und, .und, .und, .und, .und, .und, .und, .und, .und, .und, .und, .und, .und, .und, .und, .und, .und, .und, .und, .und]) :
    W T L72c tm g (Then (fun tm' h' => W T R72c tm' h' (Rets f72 Q)) (Rets f72 Q)) := by
  unfold L72c
  refine cSeq ?_
  refine W_block ?_
  refine W_loop (fun m tm g => ∃ k : Nat, k + m = L.length ∧ Up h g ∧ g b1 = some ⟨true, [.int .i64 k1, .int .i64 k2, .int .i64 k3, .int .i64 k4, .int .u64 (C : Int), .int .i64 n1, .int .i64 s1, .int .i64 s2, .bool ok, .str (bs x), S]⟩ ∧ L.all p2 = (L.drop k).all p2 ∧ keep [1, 28, 29, 30] 0 tm = [.und, .ptr b1 0, .und, .und, .und, .und, .und, .und, .und, .und, .und, .und, .und, .und, .und, .und, .und, .und, .und, .und, .und, .und, .und, .und, .und, .und, .und, .und, S, .int .i64 (L.length : Int), .int .i64 (k : Int), .und, .und, .und, .und, .und, .und, .und, .und, .und, .und, .und, .und, .und, .und, .und, .und, .und, .und, .und, .und, .und, .und]) L.length ⟨0, by omega, hu, h1, by rw [List.drop_zero], htm⟩ ?_
  clear htm h1 hu
  rintro m tm g ⟨k, hk, hu, h1, hr, htm⟩
  refine cSeq (cMask (cNorm ?_))
  rw [htm]; clear htm
  by_cases hkl : k < L.length
  · have d1 : (k : Int) < (L.length : Int) := by omega
    have d2 : (0 : Int) ≤ (k : Int) := by omega
    have w1 : IntKind.i64.wrap ((k : Int) + 1) = ((k + 1 : Nat) : Int) := by rw [wrap64 (by omega) (by omega)]; rfl
    obtain ⟨⟨y1, y2, y3, y4⟩, hy⟩ : ∃ y, L[k]? = some y := ⟨_, List.getElem?_eq_getElem hkl⟩
    have hdr : L.drop k = (y1, y2, y3, y4) :: L.drop (k + 1) := by rw [List.drop_eq_getElem_cons hkl, (List.getElem?_eq_some_iff.1 hy).2]
    rw [hdr, List.all_cons] at hr
    rcases hS with ⟨rfl, rfl⟩ | ⟨iL, ow, rfl, hL⟩
    · simp at hkl
    have hLg := hu _ _ hL
    obtain ⟨g1, g2⟩ := flat_get eMz hy []
    rw [List.append_nil] at g1 g2
    simp only [eM] at g2
    clear hdr hy
    cases B1 : snd y2 y3 with
    | false =>
      have e : L.all p2 = false := by rw [hr]; unfold p2; rw [B1]; rfl
      rw [e] at hQ
      clear hr e
      repeat' (first | (refine wNil ?_) | (refine xPure ?_) | (refine xMk ?_; intro id hid; (try simp only [set_none_iff] at hid); have hz := hid; (repeat (replace hz := hz.2)); (try have := nei hLg hz); (try have := nei h1 hz); (try have := Up.none hu hz); refine mkDo ?_) | (refine xChk ?_) | (refine xChkF ?_) | (refine xSkip ?_) | (refine xCall rfl rfl (sp83 y2 y3 _) ?_; rintro v j3 ⟨rfl, hu3⟩; rw [B1]; have hid3 := hu3 _ _ set_same; have h13 := hu3 b1 _ (by simp only [set_ne (nei h1 hid)]; exact h1); have HU : Up h j3 := (fun z b e => hu3 z b (by simp only [set_ne (nei (hu z b e) hid)]; exact hu z b e)); refine nTm ?_) | (refine cSeq ?_) | (refine cNorm ?_) | (refine cRet ?_) | (refine cExit ?_) | (refine W_reg rfl ?_) | (refine W_block ?_) | (refine W_ret ?_) | (refine W_skip ?_) | (refine W_exit ?_) | (refine bNorm ?_) | (refine bRet ?_) | (refine bExit ?_) | (refine bExitN rfl ?_) | (refine xMask ?_) | (refine xT ?_) | (refine xF ?_) | (refine xRet ?_) | (refine xNorm ?_) | (refine xSplit ?_ ?_ <;> intro hb <;> (try exact False.elim hb)) | (refine xCond ?_ ?_ <;> intro hb <;> (try exact False.elim hb)))
      all_goals exact hQ _ HU
    | true =>
      cases B2 : decide (0 ≤ y1 ∧ y1 ≤ 1099511627776) with
      | false =>
        have e : L.all p2 = false := by rw [hr]; unfold p2; rw [B1, B2]; rfl
        rw [e] at hQ
        clear hr e
        repeat' (first | (refine wNil ?_) | (refine xPure ?_) | (refine xMk ?_; intro id hid; (try simp only [set_none_iff] at hid); have hz := hid; (repeat (replace hz := hz.2)); (try have := nei hLg hz); (try have := nei h1 hz); (try have := Up.none hu hz); refine mkDo ?_) | (refine xChk ?_) | (refine xChkF ?_) | (refine xSkip ?_) | (refine xCall rfl rfl (sp83 y2 y3 _) ?_; rintro v j3 ⟨rfl, hu3⟩; rw [B1]; have hid3 := hu3 _ _ set_same; have h13 := hu3 b1 _ (by simp only [set_ne (nei h1 hid)]; exact h1); have HU : Up h j3 := (fun z b e => hu3 z b (by simp only [set_ne (nei (hu z b e) hid)]; exact hu z b e)); refine nTm ?_) | (refine xCall rfl rfl (sp82 y1 1099511627776 _) ?_; rintro v j4 ⟨rfl, hx⟩; cases hx; rw [B2]; refine nTm ?_) | (refine cSeq ?_) | (refine cNorm ?_) | (refine cRet ?_) | (refine cExit ?_) | (refine W_reg rfl ?_) | (refine W_block ?_) | (refine W_ret ?_) | (refine W_skip ?_) | (refine W_exit ?_) | (refine bNorm ?_) | (refine bRet ?_) | (refine bExit ?_) | (refine bExitN rfl ?_) | (refine xMask ?_) | (refine xT ?_) | (refine xF ?_) | (refine xRet ?_) | (refine xNorm ?_) | (refine xSplit ?_ ?_ <;> intro hb <;> (try exact False.elim hb)) | (refine xCond ?_ ?_ <;> intro hb <;> (try exact False.elim hb)))
        all_goals exact hQ _ HU
      | true =>
        have hp : (p2 (y1, y2, y3, y4) && (L.drop (k + 1)).all p2) = (L.drop (k + 1)).all p2 := by unfold p2; rw [B1, B2]; rfl
        repeat' (first | (refine wNil ?_) | (refine xPure ?_) | (refine xMk ?_; intro id hid; (try simp only [set_none_iff] at hid); have hz := hid; (repeat (replace hz := hz.2)); (try have := nei hLg hz); (try have := nei h1 hz); (try have := Up.none hu hz); refine mkDo ?_) | (refine xChk ?_) | (refine xChkF ?_) | (refine xSkip ?_) | (refine xCall rfl rfl (sp83 y2 y3 _) ?_; rintro v j3 ⟨rfl, hu3⟩; rw [B1]; have hid3 := hu3 _ _ set_same; have h13 := hu3 b1 _ (by simp only [set_ne (nei h1 hid)]; exact h1); have HU : Up h j3 := (fun z b e => hu3 z b (by simp only [set_ne (nei (hu z b e) hid)]; exact hu z b e)); refine nTm ?_) | (refine xCall rfl rfl (sp82 y1 1099511627776 _) ?_; rintro v j4 ⟨rfl, hx⟩; cases hx; rw [B2]; refine nTm ?_) | (refine cSeq ?_) | (refine cNorm ?_) | (refine cRet ?_) | (refine cExit ?_) | (refine W_reg rfl ?_) | (refine W_block ?_) | (refine W_ret ?_) | (refine W_skip ?_) | (refine W_exit ?_) | (refine bNorm ?_) | (refine bRet ?_) | (refine bExit ?_) | (refine bExitN rfl ?_) | (refine xMask ?_) | (refine xT ?_) | (refine xF ?_) | (refine xRet ?_) | (refine xNorm ?_) | (refine xSplit ?_ ?_ <;> intro hb <;> (try exact False.elim hb)) | (refine xCond ?_ ?_ <;> intro hb <;> (try exact False.elim hb)))
        all_goals exact ⟨m - 1, by omega, k + 1, by omega, HU, h13, by rw [hr]; exact hp, by simp only [keep, List.contains_cons, List.contains_nil, Nat.reduceBEq, Bool.or_true, Bool.true_or, Bool.or_false, Bool.false_or, if_true, if_false, Bool.false_eq_true, beq_self_eq_true, Nat.zero_add, Nat.reduceAdd, eq_self]⟩
  · have d1 : ¬ (k : Int) < (L.length : Int) := by omega
    rw [List.drop_of_length_le (by omega), List.all_nil] at hr
    rw [hr, Bool.true_and] at hQ
    unfold R72c
    cases B5 : decide (0 ≤ s1 ∧ s1 ≤ 1099511627776) with
    | false =>
      rw [B5, Bool.false_and] at hQ
      repeat' (first | (refine wNil ?_) | (refine xPure ?_) | (refine xMk ?_; intro id hid; (try simp only [set_none_iff] at hid); refine mkDo ?_) | (refine xChk ?_) | (refine xChkF ?_) | (refine xSkip ?_) | (refine xCall rfl rfl (sp82 s1 1099511627776 _) ?_; rintro v h' ⟨rfl, hx⟩; cases hx; rw [B5]; refine nTm ?_) | (refine xCall rfl rfl (sp82 s2 1099511627776 _) ?_; rintro v h' ⟨rfl, hx⟩; cases hx; refine nTm ?_) | (refine cSeq ?_) | (refine cNorm ?_) | (refine cRet ?_) | (refine cExit ?_) | (refine W_reg rfl ?_) | (refine W_block ?_) | (refine W_ret ?_) | (refine W_skip ?_) | (refine W_exit ?_) | (refine bNorm ?_) | (refine bRet ?_) | (refine bExit ?_) | (refine bExitN rfl ?_) | (refine xMask ?_) | (refine xT ?_) | (refine xF ?_) | (refine xRet ?_) | (refine xNorm ?_) | (refine xSplit ?_ ?_ <;> intro hb <;> (try exact False.elim hb)) | (refine xCond ?_ ?_ <;> intro hb <;> (try exact False.elim hb)))
      all_goals exact hQ _ hu
    | true =>
      rw [B5, Bool.true_and] at hQ
      repeat' (first | (refine wNil ?_) | (refine xPure ?_) | (refine xMk ?_; intro id hid; (try simp only [set_none_iff] at hid); refine mkDo ?_) | (refine xChk ?_) | (refine xChkF ?_) | (refine xSkip ?_) | (refine xCall rfl rfl (sp82 s1 1099511627776 _) ?_; rintro v h' ⟨rfl, hx⟩; cases hx; rw [B5]; refine nTm ?_) | (refine xCall rfl rfl (sp82 s2 1099511627776 _) ?_; rintro v h' ⟨rfl, hx⟩; cases hx; refine nTm ?_) | (refine cSeq ?_) | (refine cNorm ?_) | (refine cRet ?_) | (refine cExit ?_) | (refine W_reg rfl ?_) | (refine W_block ?_) | (refine W_ret ?_) | (refine W_skip ?_) | (refine W_exit ?_) | (refine bNorm ?_) | (refine bRet ?_) | (refine bExit ?_) | (refine bExitN rfl ?_) | (refine xMask ?_) | (refine xT ?_) | (refine xF ?_) | (refine xRet ?_) | (refine xNorm ?_) | (refine xSplit ?_ ?_ <;> intro hb <;> (try exact False.elim hb)) | (refine xCond ?_ ?_ <;> intro hb <;> (try exact False.elim hb)))
      all_goals exact hQ _ hu
/-- ranged -/
theorem sp72 (k1 k2 k3 k4 : Int) (C : Nat) (n1 s1 s2 : Int) (ok : Bool) (x : List UInt8) (S : AV) (L : List En) (h : AH) (hS : Le h S L) (hl : L.length ≤ 1000) :
    Sp T 72 [.agg [.int .i64 k1, .int .i64 k2, .int .i64 k3, .int .i64 k4, .int .u64 (C : Int), .int .i64 n1, .int .i64 s1, .int .i64 s2, .bool ok, .str (bs x), S]] h (fun v h' => v = .bool (rgB k2 k3 k4 C n1 s1 s2 L) ∧ Up h h') := by
  have hSl := hS.len
  have hSc : S.scalar = true := by rcases hS with ⟨rfl, rfl⟩ | ⟨i, _, rfl, _⟩ <;> rfl
  cases B0 : decide (0 ≤ k2 ∧ k2 ≤ 11) with
  | false =>
    have e : rgB k2 k3 k4 C n1 s1 s2 L = false := by unfold rgB; rw [B0]; simp only [Bool.true_and, Bool.false_and]
    rw [e]
    clear e
    refine Sp_of (fn := f72) rfl (show W T b72 [.agg [.int .i64 k1, .int .i64 k2, .int .i64 k3, .int .i64 k4, .int .u64 (C : Int), .int .i64 n1, .int .i64 s1, .int .i64 s2, .bool ok, .str (bs x), S], .tup [], .tup [], .tup [], .tup [], .tup [], .tup [], .tup [], .tup [], .tup [], .tup [], .tup [], .tup [], .tup [], .tup [], .tup [], .tup [], .tup [], .tup [], .tup [], .tup [], .tup [], .tup [], .tup [], .tup [], .tup [], .tup [], .tup [], .tup [], .tup [], .tup [], .tup [], .tup [], .tup [], .tup [], .tup [], .tup [], .tup [], .tup [], .tup [], .tup [], .tup [], .tup [], .tup [], .tup [], .tup [], .tup [], .tup [], .tup [], .tup [], .tup [], .tup [], .tup []] _ _ from ?_)
    unfold b72
    repeat' (first | (refine wNil ?_) | (refine xPure ?_) | (refine xMk ?_; intro id hid; (try simp only [set_none_iff] at hid); refine mkDo ?_) | (refine xChk ?_) | (refine xChkF ?_) | (refine xSkip ?_) | (refine xCall rfl rfl (sp82 k2 11 _) ?_; rintro v h' ⟨rfl, hx⟩; cases hx; rw [B0]; refine nTm ?_) | (refine cSeq ?_) | (refine cNorm ?_) | (refine cRet ?_) | (refine cExit ?_) | (refine W_reg rfl ?_) | (refine W_block ?_) | (refine W_ret ?_) | (refine W_skip ?_) | (refine W_exit ?_) | (refine bNorm ?_) | (refine bRet ?_) | (refine bExit ?_) | (refine bExitN rfl ?_) | (refine xMask ?_) | (refine xT ?_) | (refine xF ?_) | (refine xRet ?_) | (refine xNorm ?_) | (refine xSplit ?_ ?_ <;> intro hb <;> (try exact False.elim hb)) | (refine xCond ?_ ?_ <;> intro hb <;> (try exact False.elim hb)))
    all_goals exact ⟨rfl, Up.new (Up.refl h) (by assumption)⟩
  | true =>
    cases B1 : decide (0 ≤ k3 ∧ k3 ≤ 11) with
    | false =>
      have e : rgB k2 k3 k4 C n1 s1 s2 L = false := by unfold rgB; rw [B0, B1]; simp only [Bool.true_and, Bool.false_and]
      rw [e]
      clear e
      refine Sp_of (fn := f72) rfl (show W T b72 [.agg [.int .i64 k1, .int .i64 k2, .int .i64 k3, .int .i64 k4, .int .u64 (C : Int), .int .i64 n1, .int .i64 s1, .int .i64 s2, .bool ok, .str (bs x), S], .tup [], .tup [], .tup [], .tup [], .tup [], .tup [], .tup [], .tup [], .tup [], .tup [], .tup [], .tup [], .tup [], .tup [], .tup [], .tup [], .tup [], .tup [], .tup [], .tup [], .tup [], .tup [], .tup [], .tup [], .tup [], .tup [], .tup [], .tup [], .tup [], .tup [], .tup [], .tup [], .tup [], .tup [], .tup [], .tup [], .tup [], .tup [], .tup [], .tup [], .tup [], .tup [], .tup [], .tup [], .tup [], .tup [], .tup [], .tup [], .tup [], .tup [], .tup [], .tup []] _ _ from ?_)
      unfold b72
      repeat' (first | (refine wNil ?_) | (refine xPure ?_) | (refine xMk ?_; intro id hid; (try simp only [set_none_iff] at hid); refine mkDo ?_) | (refine xChk ?_) | (refine xChkF ?_) | (refine xSkip ?_) | (refine xCall rfl rfl (sp82 k2 11 _) ?_; rintro v h' ⟨rfl, hx⟩; cases hx; rw [B0]; refine nTm ?_) | (refine xCall rfl rfl (sp82 k3 11 _) ?_; rintro v h' ⟨rfl, hx⟩; cases hx; rw [B1]; refine nTm ?_) | (refine cSeq ?_) | (refine cNorm ?_) | (refine cRet ?_) | (refine cExit ?_) | (refine W_reg rfl ?_) | (refine W_block ?_) | (refine W_ret ?_) | (refine W_skip ?_) | (refine W_exit ?_) | (refine bNorm ?_) | (refine bRet ?_) | (refine bExit ?_) | (refine bExitN rfl ?_) | (refine xMask ?_) | (refine xT ?_) | (refine xF ?_) | (refine xRet ?_) | (refine xNorm ?_) | (refine xSplit ?_ ?_ <;> intro hb <;> (try exact False.elim hb)) | (refine xCond ?_ ?_ <;> intro hb <;> (try exact False.elim hb)))
      all_goals exact ⟨rfl, Up.new (Up.refl h) (by assumption)⟩
    | true =>
      cases B2 : decide (0 ≤ k4 ∧ k4 ≤ 3) with
      | false =>
        have e : rgB k2 k3 k4 C n1 s1 s2 L = false := by unfold rgB; rw [B0, B1, B2]; simp only [Bool.true_and, Bool.false_and]
        rw [e]
        clear e
        refine Sp_of (fn := f72) rfl (show W T b72 [.agg [.int .i64 k1, .int .i64 k2, .int .i64 k3, .int .i64 k4, .int .u64 (C : Int), .int .i64 n1, .int .i64 s1, .int .i64 s2, .bool ok, .str (bs x), S], .tup [], .tup [], .tup [], .tup [], .tup [], .tup [], .tup [], .tup [], .tup [], .tup [], .tup [], .tup [], .tup [], .tup [], .tup [], .tup [], .tup [], .tup [], .tup [], .tup [], .tup [], .tup [], .tup [], .tup [], .tup [], .tup [], .tup [], .tup [], .tup [], .tup [], .tup [], .tup [], .tup [], .tup [], .tup [], .tup [], .tup [], .tup [], .tup [], .tup [], .tup [], .tup [], .tup [], .tup [], .tup [], .tup [], .tup [], .tup [], .tup [], .tup [], .tup [], .tup []] _ _ from ?_)
        unfold b72
        repeat' (first | (refine wNil ?_) | (refine xPure ?_) | (refine xMk ?_; intro id hid; (try simp only [set_none_iff] at hid); refine mkDo ?_) | (refine xChk ?_) | (refine xChkF ?_) | (refine xSkip ?_) | (refine xCall rfl rfl (sp82 k2 11 _) ?_; rintro v h' ⟨rfl, hx⟩; cases hx; rw [B0]; refine nTm ?_) | (refine xCall rfl rfl (sp82 k3 11 _) ?_; rintro v h' ⟨rfl, hx⟩; cases hx; rw [B1]; refine nTm ?_) | (refine xCall rfl rfl (sp82 k4 3 _) ?_; rintro v h' ⟨rfl, hx⟩; cases hx; rw [B2]; refine nTm ?_) | (refine cSeq ?_) | (refine cNorm ?_) | (refine cRet ?_) | (refine cExit ?_) | (refine W_reg rfl ?_) | (refine W_block ?_) | (refine W_ret ?_) | (refine W_skip ?_) | (refine W_exit ?_) | (refine bNorm ?_) | (refine bRet ?_) | (refine bExit ?_) | (refine bExitN rfl ?_) | (refine xMask ?_) | (refine xT ?_) | (refine xF ?_) | (refine xRet ?_) | (refine xNorm ?_) | (refine xSplit ?_ ?_ <;> intro hb <;> (try exact False.elim hb)) | (refine xCond ?_ ?_ <;> intro hb <;> (try exact False.elim hb)))
        all_goals exact ⟨rfl, Up.new (Up.refl h) (by assumption)⟩
      | true =>
        cases B3 : snd C n1 with
        | false =>
          have e : rgB k2 k3 k4 C n1 s1 s2 L = false := by unfold rgB; rw [B0, B1, B2, B3]; simp only [Bool.true_and, Bool.false_and]
          rw [e]
          clear e
          refine Sp_of (fn := f72) rfl (show W T b72 [.agg [.int .i64 k1, .int .i64 k2, .int .i64 k3, .int .i64 k4, .int .u64 (C : Int), .int .i64 n1, .int .i64 s1, .int .i64 s2, .bool ok, .str (bs x), S], .tup [], .tup [], .tup [], .tup [], .tup [], .tup [], .tup [], .tup [], .tup [], .tup [], .tup [], .tup [], .tup [], .tup [], .tup [], .tup [], .tup [], .tup [], .tup [], .tup [], .tup [], .tup [], .tup [], .tup [], .tup [], .tup [], .tup [], .tup [], .tup [], .tup [], .tup [], .tup [], .tup [], .tup [], .tup [], .tup [], .tup [], .tup [], .tup [], .tup [], .tup [], .tup [], .tup [], .tup [], .tup [], .tup [], .tup [], .tup [], .tup [], .tup [], .tup [], .tup []] _ _ from ?_)
          unfold b72
          repeat' (first | (refine wNil ?_) | (refine xPure ?_) | (refine xMk ?_; intro id hid; (try simp only [set_none_iff] at hid); refine mkDo ?_) | (refine xChk ?_) | (refine xChkF ?_) | (refine xSkip ?_) | (refine xCall rfl rfl (sp82 k2 11 _) ?_; rintro v h' ⟨rfl, hx⟩; cases hx; rw [B0]; refine nTm ?_) | (refine xCall rfl rfl (sp82 k3 11 _) ?_; rintro v h' ⟨rfl, hx⟩; cases hx; rw [B1]; refine nTm ?_) | (refine xCall rfl rfl (sp82 k4 3 _) ?_; rintro v h' ⟨rfl, hx⟩; cases hx; rw [B2]; refine nTm ?_) | (refine xCall rfl rfl (sp83 C n1 _) ?_; rintro v j3 ⟨rfl, hu3⟩; rw [B3]; have hb3 := hu3 _ _ set_same; have HU : Up h j3 := (fun z b e => hu3 z b (by rw [set_ne (nei e hid)]; exact e)); refine nTm ?_) | (refine cSeq ?_) | (refine cNorm ?_) | (refine cRet ?_) | (refine cExit ?_) | (refine W_reg rfl ?_) | (refine W_block ?_) | (refine W_ret ?_) | (refine W_skip ?_) | (refine W_exit ?_) | (refine bNorm ?_) | (refine bRet ?_) | (refine bExit ?_) | (refine bExitN rfl ?_) | (refine xMask ?_) | (refine xT ?_) | (refine xF ?_) | (refine xRet ?_) | (refine xNorm ?_) | (refine xSplit ?_ ?_ <;> intro hb <;> (try exact False.elim hb)) | (refine xCond ?_ ?_ <;> intro hb <;> (try exact False.elim hb)))
          all_goals exact ⟨rfl, HU⟩
        | true =>
          have e : rgB k2 k3 k4 C n1 s1 s2 L = (L.all p2 && (decide (0 ≤ s1 ∧ s1 ≤ 1099511627776) && decide (0 ≤ s2 ∧ s2 ≤ 1099511627776))) := by unfold rgB; rw [B0, B1, B2, B3]; simp only [Bool.true_and]
          rw [e]
          clear e
          refine Sp_of (fn := f72) rfl (show W T b72 [.agg [.int .i64 k1, .int .i64 k2, .int .i64 k3, .int .i64 k4, .int .u64 (C : Int), .int .i64 n1, .int .i64 s1, .int .i64 s2, .bool ok, .str (bs x), S], .tup [], .tup [], .tup [], .tup [], .tup [], .tup [], .tup [], .tup [], .tup [], .tup [], .tup [], .tup [], .tup [], .tup [], .tup [], .tup [], .tup [], .tup [], .tup [], .tup [], .tup [], .tup [], .tup [], .tup [], .tup [], .tup [], .tup [], .tup [], .tup [], .tup [], .tup [], .tup [], .tup [], .tup [], .tup [], .tup [], .tup [], .tup [], .tup [], .tup [], .tup [], .tup [], .tup [], .tup [], .tup [], .tup [], .tup [], .tup [], .tup [], .tup [], .tup [], .tup []] _ _ from ?_)
          unfold b72
          repeat' (first | (refine wNil ?_) | (refine xPure ?_) | (refine xMk ?_; intro id hid; (try simp only [set_none_iff] at hid); refine mkDo ?_) | (refine xChk ?_) | (refine xChkF ?_) | (refine xSkip ?_) | (refine xCall rfl rfl (sp82 k2 11 _) ?_; rintro v h' ⟨rfl, hx⟩; cases hx; rw [B0]; refine nTm ?_) | (refine xCall rfl rfl (sp82 k3 11 _) ?_; rintro v h' ⟨rfl, hx⟩; cases hx; rw [B1]; refine nTm ?_) | (refine xCall rfl rfl (sp82 k4 3 _) ?_; rintro v h' ⟨rfl, hx⟩; cases hx; rw [B2]; refine nTm ?_) | (refine xCall rfl rfl (sp83 C n1 _) ?_; rintro v j3 ⟨rfl, hu3⟩; rw [B3]; have hb3 := hu3 _ _ set_same; have HU : Up h j3 := (fun z b e => hu3 z b (by rw [set_ne (nei e hid)]; exact e)); refine nTm ?_) | (exact loop72 k1 k2 k3 k4 C n1 s1 s2 ok x S L h j3 id hS hl HU hb3 _ (fun g' hu' => ⟨rfl, hu'⟩) _ rfl) | (refine cSeq ?_) | (refine cNorm ?_) | (refine cRet ?_) | (refine cExit ?_) | (refine W_reg rfl ?_) | (refine W_block ?_) | (refine W_ret ?_) | (refine W_skip ?_) | (refine W_exit ?_) | (refine bNorm ?_) | (refine bRet ?_) | (refine bExit ?_) | (refine bExitN rfl ?_) | (refine xMask ?_) | (refine xT ?_) | (refine xF ?_) | (refine xRet ?_) | (refine xNorm ?_) | (refine xSplit ?_ ?_ <;> intro hb <;> (try exact False.elim hb)) | (refine xCond ?_ ?_ <;> intro hb <;> (try exact False.elim hb)))
end Go.Proofs.YtgekngfnhhdamaaI
set_option linter.unusedVariables false
set_option linter.unusedSimpArgs false
set_option maxRecDepth 100000
set_option maxHeartbeats 4000000
namespace Go.Proofs.YtgekngfnhhdamaaI
open Go Go.Proofs.YtgekngfnhhdamaaM
attribute [local go_sem] aop ev fg_slc fg_slk fg_ptr fg_bool fg_int fg_str fg_iface fg_func fg_agg fg_tup fg_nils fg_nilp fg_nilI fg_nilF fg_und aboundsK alen_nils alen_slc alen_slk aslice_nils aslice_slc aslice_slk awanted abin aun aint aeqn aeqc aeqs apart abounds abnd amaxi amaxiGo cells_agg cells_slc cells_slk cells_ptr cells_bool cells_int cells_str cells_iface cells_func cells_tup cells_nils cells_nilp cells_nilI cells_nilF cells_und sc_slc sc_slk sc_ptr sc_bool sc_int sc_str sc_iface sc_func sc_nils sc_nilp sc_nilI sc_nilF gd_zero gd_succ List.all_cons List.all_nil Bool.and_self Bool.and_true Bool.true_and List.length_cons List.length_nil Option.map_some Option.some.injEq cell_same cell_ne cell_ne' cellsAt_same cellsAt_ne cellsAt_ne' put_same put_of set_same set_ne set_ne' List.getElem?_cons_zero List.getElem?_cons_succ if_true if_false and_self and_true true_and ne_eq not_true_eq_false not_false_eq_true decide_true decide_false Bool.false_eq_true Bool.true_eq_false beq_self_eq_true bne_self_eq_false beq_true beq_false Bool.not_true Bool.not_false List.map_cons List.map_nil putL List.set_cons_zero List.set_cons_succ afill Nat.zero_le Nat.le_refl Nat.zero_add Nat.add_zero List.drop_zero List.drop_succ_cons List.take_zero List.take_succ_cons Bool.not_eq_true Bool.not_eq_false decide_eq_true_eq decide_eq_false_iff_not Int.toNat_zero Nat.sub_zero Int.toNat_natCast Bool.bne_true Bool.bne_false AH.cell AH.cellsAt AH.put Nat.mul_one Nat.one_mul Int.natCast_nonneg List.length_set bs_append bs_size bs_toList bs_extract bs_get List.cons_append List.nil_append List.append_nil Nat.sub_zero bne_self_eq_false beq_self_eq_true azeros Int.le_refl
theorem chk_eq (k1 k2 k3 k4 : Int) (C : Nat) (n1 s1 s2 : Int) (ok : Bool) (x : List UInt8) (L : List En) : chk k1 k2 k3 k4 C n1 s1 s2 x L = (if decide (1 ≤ k1 ∧ k1 ≤ 13) then (if rgB k2 k3 k4 C n1 s1 s2 L then (if grB x L then 6 else if risP L then 0 else 4) else 2) else 1) := by
  unfold chk rgB r1 r2 r3 r4 grB
  cases decide (1 ≤ k1 ∧ k1 ≤ 13)
  · rfl
  cases decide (0 ≤ k2 ∧ k2 ≤ 11)
  · rfl
  cases decide (0 ≤ k3 ∧ k3 ≤ 11)
  · rfl
  cases decide (0 ≤ k4 ∧ k4 ≤ 3)
  · rfl
  cases snd C n1
  · rfl
  cases hp : L.all p2
  · cases decide (0 ≤ s1 ∧ s1 ≤ 1099511627776) <;> cases decide (0 ≤ s2 ∧ s2 ≤ 1099511627776) <;> rfl
  cases decide (0 ≤ s1 ∧ s1 ≤ 1099511627776)
  · rfl
  cases decide (0 ≤ s2 ∧ s2 ≤ 1099511627776)
  · rfl
  rw [risP_eq (fun y hy => by
    have := List.all_eq_true.1 hp y hy
    unfold p2 at this
    rw [Bool.and_eq_true] at this
    exact (of_decide_eq_true this.2).1)]
  by_cases c : x.length ≤ 131072 ∧ L.length ≤ 64
  · rw [decide_eq_true c, if_pos c]
    cases L.all p4 <;> rfl
  · rw [decide_eq_false c, if_neg c]; rfl
/-- Check -/
theorem sp49 (k1 k2 k3 k4 : Int) (C : Nat) (n1 s1 s2 : Int) (ok : Bool) (x : List UInt8) (S : AV) (L : List En) (h : AH) (hS : Le h S L) (hl : L.length ≤ 1000) :
    Sp T 49 [.agg [.int .i64 k1, .int .i64 k2, .int .i64 k3, .int .i64 k4, .int .u64 (C : Int), .int .i64 n1, .int .i64 s1, .int .i64 s2, .bool ok, .str (bs x), S]] h (fun v h' => v = .int .i64 (chk k1 k2 k3 k4 C n1 s1 s2 x L) ∧ Up h h') := by
  have hu0 := Up.refl h
  have hSc : S.scalar = true := by rcases hS with ⟨rfl, rfl⟩ | ⟨i, _, rfl, _⟩ <;> rfl
  by_cases c1 : k1 < 1
  · have B0 := decide_eq_false (show ¬ (1 ≤ k1 ∧ k1 ≤ 13) by omega)
    have e : chk k1 k2 k3 k4 C n1 s1 s2 x L = 1 := by rw [chk_eq k1 k2 k3 k4 C n1 s1 s2 ok, B0]; rfl
    rw [e]
    clear e
    refine Sp_of (fn := f49) rfl (show W T b49 [.agg [.int .i64 k1, .int .i64 k2, .int .i64 k3, .int .i64 k4, .int .u64 (C : Int), .int .i64 n1, .int .i64 s1, .int .i64 s2, .bool ok, .str (bs x), S], .tup [], .tup [], .tup [], .tup [], .tup [], .tup [], .tup [], .tup [], .tup [], .tup [], .tup [], .tup [], .tup [], .tup [], .tup [], .tup [], .tup [], .tup [], .tup [], .tup [], .tup [], .tup []] _ _ from ?_)
    unfold b49
    repeat' (first | (refine wNil ?_) | (refine xPure ?_) | (refine xMk ?_; intro id hid; (try simp only [set_none_iff] at hid); have hz := hid; (repeat (replace hz := hz.2)); (try have := Up.none hu0 hz); refine mkDo ?_) | (refine xChk ?_) | (refine xChkF ?_) | (refine xSkip ?_) | (refine cSeq ?_) | (refine cNorm ?_) | (refine cRet ?_) | (refine cExit ?_) | (refine W_reg rfl ?_) | (refine W_block ?_) | (refine W_ret ?_) | (refine W_skip ?_) | (refine W_exit ?_) | (refine bNorm ?_) | (refine bRet ?_) | (refine bExit ?_) | (refine bExitN rfl ?_) | (refine xMask ?_) | (refine xT ?_) | (refine xF ?_) | (refine xRet ?_) | (refine xNorm ?_) | (refine xSplit ?_ ?_ <;> intro hb <;> (try exact False.elim hb)) | (refine xCond ?_ ?_ <;> intro hb <;> (try exact False.elim hb)))
    all_goals exact ⟨rfl, (by repeat' (first | assumption | exact Up.refl _ | refine Up.new ?_ ?_))⟩
  · by_cases c2 : k1 > 13
    · have B0 := decide_eq_false (show ¬ (1 ≤ k1 ∧ k1 ≤ 13) by omega)
      have e : chk k1 k2 k3 k4 C n1 s1 s2 x L = 1 := by rw [chk_eq k1 k2 k3 k4 C n1 s1 s2 ok, B0]; rfl
      rw [e]
      clear e
      refine Sp_of (fn := f49) rfl (show W T b49 [.agg [.int .i64 k1, .int .i64 k2, .int .i64 k3, .int .i64 k4, .int .u64 (C : Int), .int .i64 n1, .int .i64 s1, .int .i64 s2, .bool ok, .str (bs x), S], .tup [], .tup [], .tup [], .tup [], .tup [], .tup [], .tup [], .tup [], .tup [], .tup [], .tup [], .tup [], .tup [], .tup [], .tup [], .tup [], .tup [], .tup [], .tup [], .tup [], .tup [], .tup []] _ _ from ?_)
      unfold b49
      repeat' (first | (refine wNil ?_) | (refine xPure ?_) | (refine xMk ?_; intro id hid; (try simp only [set_none_iff] at hid); have hz := hid; (repeat (replace hz := hz.2)); (try have := Up.none hu0 hz); refine mkDo ?_) | (refine xChk ?_) | (refine xChkF ?_) | (refine xSkip ?_) | (refine cSeq ?_) | (refine cNorm ?_) | (refine cRet ?_) | (refine cExit ?_) | (refine W_reg rfl ?_) | (refine W_block ?_) | (refine W_ret ?_) | (refine W_skip ?_) | (refine W_exit ?_) | (refine bNorm ?_) | (refine bRet ?_) | (refine bExit ?_) | (refine bExitN rfl ?_) | (refine xMask ?_) | (refine xT ?_) | (refine xF ?_) | (refine xRet ?_) | (refine xNorm ?_) | (refine xSplit ?_ ?_ <;> intro hb <;> (try exact False.elim hb)) | (refine xCond ?_ ?_ <;> intro hb <;> (try exact False.elim hb)))
      all_goals exact ⟨rfl, (by repeat' (first | assumption | exact Up.refl _ | refine Up.new ?_ ?_))⟩
    · have B0 := decide_eq_true (show (1 ≤ k1 ∧ k1 ≤ 13) by omega)
      cases B1 : rgB k2 k3 k4 C n1 s1 s2 L with
      | false =>
        have e : chk k1 k2 k3 k4 C n1 s1 s2 x L = 2 := by rw [chk_eq k1 k2 k3 k4 C n1 s1 s2 ok, B0, B1]; rfl
        rw [e]
        clear e
        refine Sp_of (fn := f49) rfl (show W T b49 [.agg [.int .i64 k1, .int .i64 k2, .int .i64 k3, .int .i64 k4, .int .u64 (C : Int), .int .i64 n1, .int .i64 s1, .int .i64 s2, .bool ok, .str (bs x), S], .tup [], .tup [], .tup [], .tup [], .tup [], .tup [], .tup [], .tup [], .tup [], .tup [], .tup [], .tup [], .tup [], .tup [], .tup [], .tup [], .tup [], .tup [], .tup [], .tup [], .tup [], .tup []] _ _ from ?_)
        unfold b49
        repeat' (first | (refine wNil ?_) | (refine xPure ?_) | (refine xMk ?_; intro id hid; (try simp only [set_none_iff] at hid); have hz := hid; (repeat (replace hz := hz.2)); (try have := Up.none hu0 hz); refine mkDo ?_) | (refine xChk ?_) | (refine xChkF ?_) | (refine xSkip ?_) | (refine xCall rfl rfl (sp72 k1 k2 k3 k4 C n1 s1 s2 ok x S L _ (hS.up (by repeat' (first | assumption | exact Up.refl _ | refine Up.new ?_ ?_))) hl) ?_; rintro v j1 ⟨rfl, hu⟩; rw [B1]; have HU1 : Up h j1 := Up.trans (show Up h _ from (by repeat' (first | assumption | exact Up.refl _ | refine Up.new ?_ ?_))) hu; have hb := hu _ _ set_same; clear hu; refine nTm ?_) | (refine cSeq ?_) | (refine cNorm ?_) | (refine cRet ?_) | (refine cExit ?_) | (refine W_reg rfl ?_) | (refine W_block ?_) | (refine W_ret ?_) | (refine W_skip ?_) | (refine W_exit ?_) | (refine bNorm ?_) | (refine bRet ?_) | (refine bExit ?_) | (refine bExitN rfl ?_) | (refine xMask ?_) | (refine xT ?_) | (refine xF ?_) | (refine xRet ?_) | (refine xNorm ?_) | (refine xSplit ?_ ?_ <;> intro hb <;> (try exact False.elim hb)) | (refine xCond ?_ ?_ <;> intro hb <;> (try exact False.elim hb)))
        all_goals exact ⟨rfl, HU1⟩
      | true =>
        cases B2 : grB x L with
        | true =>
          have e : chk k1 k2 k3 k4 C n1 s1 s2 x L = 6 := by rw [chk_eq k1 k2 k3 k4 C n1 s1 s2 ok, B0, B1, B2]; rfl
          rw [e]
          clear e
          refine Sp_of (fn := f49) rfl (show W T b49 [.agg [.int .i64 k1, .int .i64 k2, .int .i64 k3, .int .i64 k4, .int .u64 (C : Int), .int .i64 n1, .int .i64 s1, .int .i64 s2, .bool ok, .str (bs x), S], .tup [], .tup [], .tup [], .tup [], .tup [], .tup [], .tup [], .tup [], .tup [], .tup [], .tup [], .tup [], .tup [], .tup [], .tup [], .tup [], .tup [], .tup [], .tup [], .tup [], .tup [], .tup []] _ _ from ?_)
          unfold b49
          repeat' (first | (refine wNil ?_) | (refine xPure ?_) | (refine xMk ?_; intro id hid; (try simp only [set_none_iff] at hid); have hz := hid; (repeat (replace hz := hz.2)); (try have := Up.none hu0 hz); refine mkDo ?_) | (refine xChk ?_) | (refine xChkF ?_) | (refine xSkip ?_) | (refine xCall rfl rfl (sp72 k1 k2 k3 k4 C n1 s1 s2 ok x S L _ (hS.up (by repeat' (first | assumption | exact Up.refl _ | refine Up.new ?_ ?_))) hl) ?_; rintro v j1 ⟨rfl, hu⟩; rw [B1]; have HU1 : Up h j1 := Up.trans (show Up h _ from (by repeat' (first | assumption | exact Up.refl _ | refine Up.new ?_ ?_))) hu; have hb := hu _ _ set_same; clear hu; refine nTm ?_) | (refine xCall rfl rfl (sp73 k1 k2 k3 k4 C n1 s1 s2 ok x S L _ (hS.up HU1) hl) ?_; rintro v j2 ⟨rfl, hu⟩; rw [B2]; have HU2 := HU1.trans hu; have hb2 := hu _ _ hb; clear hu; refine nTm ?_) | (refine cSeq ?_) | (refine cNorm ?_) | (refine cRet ?_) | (refine cExit ?_) | (refine W_reg rfl ?_) | (refine W_block ?_) | (refine W_ret ?_) | (refine W_skip ?_) | (refine W_exit ?_) | (refine bNorm ?_) | (refine bRet ?_) | (refine bExit ?_) | (refine bExitN rfl ?_) | (refine xMask ?_) | (refine xT ?_) | (refine xF ?_) | (refine xRet ?_) | (refine xNorm ?_) | (refine xSplit ?_ ?_ <;> intro hb <;> (try exact False.elim hb)) | (refine xCond ?_ ?_ <;> intro hb <;> (try exact False.elim hb)))
          all_goals exact ⟨rfl, HU2⟩
        | false =>
          cases B3 : risP L with
          | false =>
            have e : chk k1 k2 k3 k4 C n1 s1 s2 x L = 4 := by rw [chk_eq k1 k2 k3 k4 C n1 s1 s2 ok, B0, B1, B2, B3]; rfl
            rw [e]
            clear e
            refine Sp_of (fn := f49) rfl (show W T b49 [.agg [.int .i64 k1, .int .i64 k2, .int .i64 k3, .int .i64 k4, .int .u64 (C : Int), .int .i64 n1, .int .i64 s1, .int .i64 s2, .bool ok, .str (bs x), S], .tup [], .tup [], .tup [], .tup [], .tup [], .tup [], .tup [], .tup [], .tup [], .tup [], .tup [], .tup [], .tup [], .tup [], .tup [], .tup [], .tup [], .tup [], .tup [], .tup [], .tup [], .tup []] _ _ from ?_)
            unfold b49
            repeat' (first | (refine wNil ?_) | (refine xPure ?_) | (refine xMk ?_; intro id hid; (try simp only [set_none_iff] at hid); have hz := hid; (repeat (replace hz := hz.2)); (try have := Up.none hu0 hz); refine mkDo ?_) | (refine xChk ?_) | (refine xChkF ?_) | (refine xSkip ?_) | (refine xCall rfl rfl (sp72 k1 k2 k3 k4 C n1 s1 s2 ok x S L _ (hS.up (by repeat' (first | assumption | exact Up.refl _ | refine Up.new ?_ ?_))) hl) ?_; rintro v j1 ⟨rfl, hu⟩; rw [B1]; have HU1 : Up h j1 := Up.trans (show Up h _ from (by repeat' (first | assumption | exact Up.refl _ | refine Up.new ?_ ?_))) hu; have hb := hu _ _ set_same; clear hu; refine nTm ?_) | (refine xCall rfl rfl (sp73 k1 k2 k3 k4 C n1 s1 s2 ok x S L _ (hS.up HU1) hl) ?_; rintro v j2 ⟨rfl, hu⟩; rw [B2]; have HU2 := HU1.trans hu; have hb2 := hu _ _ hb; clear hu; refine nTm ?_) | (refine xCall rfl rfl (sp74 k1 k2 k3 k4 C n1 s1 s2 ok x S L _ (hS.up HU2) hl) ?_; rintro v j3 ⟨rfl, hu⟩; rw [B3]; have HU3 := HU2.trans hu; clear hu; refine nTm ?_) | (refine cSeq ?_) | (refine cNorm ?_) | (refine cRet ?_) | (refine cExit ?_) | (refine W_reg rfl ?_) | (refine W_block ?_) | (refine W_ret ?_) | (refine W_skip ?_) | (refine W_exit ?_) | (refine bNorm ?_) | (refine bRet ?_) | (refine bExit ?_) | (refine bExitN rfl ?_) | (refine xMask ?_) | (refine xT ?_) | (refine xF ?_) | (refine xRet ?_) | (refine xNorm ?_) | (refine xSplit ?_ ?_ <;> intro hb <;> (try exact False.elim hb)) | (refine xCond ?_ ?_ <;> intro hb <;> (try exact False.elim hb)))
            all_goals exact ⟨rfl, HU3⟩
          | true =>
            have e : chk k1 k2 k3 k4 C n1 s1 s2 x L = 0 := by rw [chk_eq k1 k2 k3 k4 C n1 s1 s2 ok, B0, B1, B2, B3]; rfl
            rw [e]
            clear e
            refine Sp_of (fn := f49) rfl (show W T b49 [.agg [.int .i64 k1, .int .i64 k2, .int .i64 k3, .int .i64 k4, .int .u64 (C : Int), .int .i64 n1, .int .i64 s1, .int .i64 s2, .bool ok, .str (bs x), S], .tup [], .tup [], .tup [], .tup [], .tup [], .tup [], .tup [], .tup [], .tup [], .tup [], .tup [], .tup [], .tup [], .tup [], .tup [], .tup [], .tup [], .tup [], .tup [], .tup [], .tup [], .tup []] _ _ from ?_)
            unfold b49
            repeat' (first | (refine wNil ?_) | (refine xPure ?_) | (refine xMk ?_; intro id hid; (try simp only [set_none_iff] at hid); have hz := hid; (repeat (replace hz := hz.2)); (try have := Up.none hu0 hz); refine mkDo ?_) | (refine xChk ?_) | (refine xChkF ?_) | (refine xSkip ?_) | (refine xCall rfl rfl (sp72 k1 k2 k3 k4 C n1 s1 s2 ok x S L _ (hS.up (by repeat' (first | assumption | exact Up.refl _ | refine Up.new ?_ ?_))) hl) ?_; rintro v j1 ⟨rfl, hu⟩; rw [B1]; have HU1 : Up h j1 := Up.trans (show Up h _ from (by repeat' (first | assumption | exact Up.refl _ | refine Up.new ?_ ?_))) hu; have hb := hu _ _ set_same; clear hu; refine nTm ?_) | (refine xCall rfl rfl (sp73 k1 k2 k3 k4 C n1 s1 s2 ok x S L _ (hS.up HU1) hl) ?_; rintro v j2 ⟨rfl, hu⟩; rw [B2]; have HU2 := HU1.trans hu; have hb2 := hu _ _ hb; clear hu; refine nTm ?_) | (refine xCall rfl rfl (sp74 k1 k2 k3 k4 C n1 s1 s2 ok x S L _ (hS.up HU2) hl) ?_; rintro v j3 ⟨rfl, hu⟩; rw [B3]; have HU3 := HU2.trans hu; clear hu; refine nTm ?_) | (refine cSeq ?_) | (refine cNorm ?_) | (refine cRet ?_) | (refine cExit ?_) | (refine W_reg rfl ?_) | (refine W_block ?_) | (refine W_ret ?_) | (refine W_skip ?_) | (refine W_exit ?_) | (refine bNorm ?_) | (refine bRet ?_) | (refine bExit ?_) | (refine bExitN rfl ?_) | (refine xMask ?_) | (refine xT ?_) | (refine xF ?_) | (refine xRet ?_) | (refine xNorm ?_) | (refine xSplit ?_ ?_ <;> intro hb <;> (try exact False.elim hb)) | (refine xCond ?_ ?_ <;> intro hb <;> (try exact False.elim hb)))
            all_goals exact ⟨rfl, HU3⟩
end Go.Proofs.YtgekngfnhhdamaaI
set_option linter.unusedVariables false
set_option linter.unusedSimpArgs false
set_option maxRecDepth 100000
set_option maxHeartbeats 4000000
namespace Go.Proofs.YtgekngfnhhdamaaI
open Go Go.Proofs.YtgekngfnhhdamaaM
attribute [local go_sem] aop ev fg_slc fg_slk fg_ptr fg_bool fg_int fg_str fg_iface fg_func fg_agg fg_tup fg_nils fg_nilp fg_nilI fg_nilF fg_und aboundsK alen_nils alen_slc alen_slk aslice_nils aslice_slc aslice_slk awanted abin aun aint aeqn aeqc aeqs apart abounds abnd amaxi amaxiGo cells_agg cells_slc cells_slk cells_ptr cells_bool cells_int cells_str cells_iface cells_func cells_tup cells_nils cells_nilp cells_nilI cells_nilF cells_und sc_slc sc_slk sc_ptr sc_bool sc_int sc_str sc_iface sc_func sc_nils sc_nilp sc_nilI sc_nilF gd_zero gd_succ List.all_cons List.all_nil Bool.and_self Bool.and_true Bool.true_and List.length_cons List.length_nil Option.map_some Option.some.injEq cell_same cell_ne cell_ne' cellsAt_same cellsAt_ne cellsAt_ne' put_same put_of set_same set_ne set_ne' List.getElem?_cons_zero List.getElem?_cons_succ if_true if_false and_self and_true true_and ne_eq not_true_eq_false not_false_eq_true decide_true decide_false Bool.false_eq_true Bool.true_eq_false beq_self_eq_true bne_self_eq_false beq_true beq_false Bool.not_true Bool.not_false List.map_cons List.map_nil putL List.set_cons_zero List.set_cons_succ afill Nat.zero_le Nat.le_refl Nat.zero_add Nat.add_zero List.drop_zero List.drop_succ_cons List.take_zero List.take_succ_cons Bool.not_eq_true Bool.not_eq_false decide_eq_true_eq decide_eq_false_iff_not Int.toNat_zero Nat.sub_zero Int.toNat_natCast Bool.bne_true Bool.bne_false AH.cell AH.cellsAt AH.put Nat.mul_one Nat.one_mul Int.natCast_nonneg List.length_set bs_append bs_size bs_toList bs_extract bs_get List.append_nil Nat.sub_zero bne_self_eq_false beq_self_eq_true azeros Int.le_refl
/-- Put -/
theorem sp35 (h0 : AH) (w : List Nat) (l : List UInt8) (C : Nat) (n : Int) (h : AH) (hw : Wr h0 w h l) (hl : l.length ≤ 1000000000) (hn : n ≤ 9223372036854775807) : Sp T 35 [.agg [.int .u64 C, .int .i64 n], .ptr w 0] h (fun r h' => Wr h0 w h' (l ++ encU C ++ encN n)) := by
  have b1 := encU_length C
  have b2 : (encN n).length ≤ 9 := encU_length n.toNat
  have gb : ∀ v ∈ [n], v ≤ 9223372036854775807 := by simp; omega
  refine Sp_of (fn := f35) rfl (show W T b35 [.agg [.int .u64 C, .int .i64 n], .ptr w 0, .tup [], .tup [], .tup [], .tup [], .tup [], .tup [], .tup [], .tup [], .tup [], .tup [], .tup []] _ _ from ?_)
  unfold b35
  repeat' (first | (refine wNil ?_) | (refine xPure ?_) | (refine xMk ?_; intro id hid; (try simp only [set_none_iff] at hid); have hz := hid; (repeat (replace hz := hz.2)); (try have := nei g1 hz); refine mkDo ?_) | (refine xChk ?_) | (refine xChkF ?_) | (refine xSkip ?_) | (refine xCall rfl rfl (sp30 ((h0.set _ (some ⟨true, _⟩)).set id (some ⟨true, [C].map fun (v : Nat) => AV.int .u64 (v : Int)⟩)) w id true l [C] _ (Wr.new (hw.new (by assumption)) (by simp only [set_none_iff]; assumption)) set_same (by simp only [List.flatMap_cons, List.flatMap_nil, List.append_nil, List.length_append]; omega) (by simp)) ?_; rintro r h2 ⟨rfl, hW2⟩; have hw2 := Wr.drop hW2 (by rw [set_ne hid.1]; exact hw.1.no hid.2); have g1 := hw2.get set_same; simp only [List.flatMap_cons, List.flatMap_nil, List.append_nil] at hw2; refine nTm ?_) | (refine xCall rfl rfl (sp40 ((h0.set _ (some ⟨true, _⟩)).set id (some ⟨true, [n].map fun (v : Int) => AV.int .i64 v⟩)) w id true _ [n] _ (hw2.new hid) set_same gb (by simp only [List.flatMap_cons, List.flatMap_nil, List.append_nil, List.length_append]; omega) (by simp)) ?_; rintro r h3 ⟨rfl, hW3⟩; have hw3 := Wr.drop hW3 (hw2.1.no hid); simp only [List.flatMap_cons, List.flatMap_nil, List.append_nil] at hw3; refine nTm ?_) | (refine cSeq ?_) | (refine cNorm ?_) | (refine cRet ?_) | (refine cExit ?_) | (refine W_reg rfl ?_) | (refine W_block ?_) | (refine W_ret ?_) | (refine W_skip ?_) | (refine W_exit ?_) | (refine bNorm ?_) | (refine bRet ?_) | (refine bExit ?_) | (refine bExitN rfl ?_) | (refine xMask ?_) | (refine xT ?_) | (refine xF ?_) | (refine xRet ?_) | (refine xNorm ?_) | (refine xSplit ?_ ?_ <;> intro hb <;> (try exact False.elim hb)) | (refine xCond ?_ ?_ <;> intro hb <;> (try exact False.elim hb)))
  all_goals exact Wr.drop hw3 (hw.1.no (by assumption))
theorem encB_length (b : Bool) : (encB b).length = 1 := by cases b <;> rfl
theorem hdI_len (k2 k3 k4 : Int) (C : Nat) (n1 s1 s2 : Int) (ok : Bool) (x : List UInt8) (n : Nat) : (hdI k2 k3 k4 C n1 s1 s2 ok x n).length ≤ 200 + x.length := by
  have l1 : (encN k2).length ≤ 9 := encU_length k2.toNat
  have l2 : (encN k3).length ≤ 9 := encU_length k3.toNat
  have l3 : (encN k4).length ≤ 9 := encU_length k4.toNat
  have l4 : (encN s1).length ≤ 9 := encU_length s1.toNat
  have l5 : (encN s2).length ≤ 9 := encU_length s2.toNat
  have l6 : (encN (n : Int)).length ≤ 9 := encU_length (n : Int).toNat
  have l7 := encS_len x
  have l8 := encB_length ok
  have l9 := encU_length C
  have l10 : (encN n1).length ≤ 9 := encU_length n1.toNat
  unfold hdI
  simp only [List.length_append]
  omega
theorem inI_len (k2 k3 k4 : Int) (C : Nat) (n1 s1 s2 : Int) (ok : Bool) (x : List UInt8) (L : List En) (hL : ∀ y ∈ L, okE y) : (inI k2 k3 k4 C n1 s1 s2 ok x L).length ≤ 200 + x.length + 1036 * L.length := by
  have a := hdI_len k2 k3 k4 C n1 s1 s2 ok x L.length
  have b := enL_len hL
  unfold inI
  rw [List.length_append]; omega
end Go.Proofs.YtgekngfnhhdamaaI
set_option linter.unusedVariables false
set_option linter.unusedSimpArgs false
set_option maxRecDepth 100000
set_option maxHeartbeats 4000000
namespace Go.Proofs.YtgekngfnhhdamaaI
open Go Go.Proofs.YtgekngfnhhdamaaM
attribute [local go_sem] aop ev fg_slc fg_slk fg_ptr fg_bool fg_int fg_str fg_iface fg_func fg_agg fg_tup fg_nils fg_nilp fg_nilI fg_nilF fg_und aboundsK alen_nils alen_slc alen_slk aslice_nils aslice_slc aslice_slk awanted abin aun aint aeqn aeqc aeqs apart abounds abnd amaxi amaxiGo cells_agg cells_slc cells_slk cells_ptr cells_bool cells_int cells_str cells_iface cells_func cells_tup cells_nils cells_nilp cells_nilI cells_nilF cells_und sc_slc sc_slk sc_ptr sc_bool sc_int sc_str sc_iface sc_func sc_nils sc_nilp sc_nilI sc_nilF gd_zero gd_succ List.all_cons List.all_nil Bool.and_self Bool.and_true Bool.true_and List.length_cons List.length_nil Option.map_some Option.some.injEq cell_same cell_ne cell_ne' cellsAt_same cellsAt_ne cellsAt_ne' put_same put_of set_same set_ne set_ne' List.getElem?_cons_zero List.getElem?_cons_succ if_true if_false and_self and_true true_and ne_eq not_true_eq_false not_false_eq_true decide_true decide_false Bool.false_eq_true Bool.true_eq_false beq_self_eq_true bne_self_eq_false beq_true beq_false Bool.not_true Bool.not_false List.map_cons List.map_nil putL List.set_cons_zero List.set_cons_succ afill Nat.zero_le Nat.le_refl Nat.zero_add Nat.add_zero List.drop_zero List.drop_succ_cons List.take_zero List.take_succ_cons Bool.not_eq_true Bool.not_eq_false decide_eq_true_eq decide_eq_false_iff_not Int.toNat_zero Nat.sub_zero Int.toNat_natCast Bool.bne_true Bool.bne_false AH.cell AH.cellsAt AH.put Nat.mul_one Nat.one_mul Int.natCast_nonneg List.length_set bs_append bs_size bs_toList bs_extract bs_get List.append_nil Nat.sub_zero bne_self_eq_false beq_self_eq_true azeros Int.le_refl
theorem encT_bs (l : List UInt8) : encT (bs l) = encS l := by unfold encT; rfl
theorem Wr.new' {h0 h : AH} {p q : List Nat} {l : List UInt8} {a b : Option Blk} (hw : Wr h0 p h l) (hq : h q = none) : Wr (h0.set q b) p ((h.set q a).set q b) l := by
  rw [set_set]; exact hw.new hq
def L50c : ICode := (.seq (.block 0 (.loop (.seq (.mask [1, 3, 45, 46, 47]) (.seq (.reg [(0, false)] r50_8)
 (.seq (.cond (.t 48) .skip
 (.exit 0))
 (.seq (.seq (.block 1 (.seq (.reg [(0, false), (1, false), (2, false), (3, false)] r50_9)
 (.seq (.reg [(0, false), (1, false), (2, false), (3, false), (4, false)] r50_10)
 (.seq (.reg [(0, false), (1, false), (2, false), (3, false)] r50_11)
 (.reg [(0, false), (1, false), (2, false), (3, false), (4, false)] r50_12))))) (.mask [1, 3, 45, 46, 47]))
 (.reg [(0, false), (1, false)] r50_13))))))) (.mask [1, 3]))
def R50c : ICode := (.seq (.reg [(0, false), (1, false), (2, false), (3, false), (4, false), (1, true), (5, false), (6, false)] r50_14)
 .ret)
theorem tail50 (k1 k2 k3 k4 : Int) (C : Nat) (n1 s1 s2 : Int) (ok : Bool) (x : List UInt8) (S : AV) (L : List En) (h j1 g : AH) (b1 w : List Nat) (hS : Le h S L) (hk : 1 ≤ k1 ∧ k1 ≤ 13) (hl : L.length ≤ 64) (hx : x.length ≤ 131072) (hL : ∀ y ∈ L, okE y) (HU1 : Up h j1) (hb : j1 b1 = some ⟨true, [.int .i64 k1, .int .i64 k2, .int .i64 k3, .int .i64 k4, .int .u64 (C : Int), .int .i64 n1, .int .i64 s1, .int .i64 s2, .bool ok, .str (bs x), S]⟩) (hw : Wr j1 w g (hdI k2 k3 k4 C n1 s1 s2 ok x L.length))
    (tm : List AV) (htm : keep [1, 3, 45, 46, 47] 0 tm = [.und, .ptr b1 0, .und, .ptr w 0, .und, .und, .und, .und, .und, .und, .und, .und, .und, .und, .und, .und, .und, .und, .und, .und, .und, .und, .und, .und, .und, .und, .und, .und, .und, .und, .und, .und, .und, .und, .und, .und, .und, .und, .und, .und, .und, .und, .und, .und, .und, S, .int .i64 (L.length : Int), .int .i64 0, .und, .und, .und, .und, .und, .und, .und, .und, .und, .und, .und, .und, .und, .und, .und, .und, .und, .und, .und, .und, .und, .und, .und, .und]) :
    W T L50c tm g (Then (fun tm' h' => W T R50c tm' h' (Rets f50 fun v h' => v = .str (bs (fr k1.toNat (inI k2 k3 k4 C n1 s1 s2 ok x L))) ∧ Up h h')) (Rets f50 fun v h' => v = .str (bs (fr k1.toNat (inI k2 k3 k4 C n1 s1 s2 ok x L))) ∧ Up h h')) := by
  have hHl := hdI_len k2 k3 k4 C n1 s1 s2 ok x L.length
  have hInl := inI_len k2 k3 k4 C n1 s1 s2 ok x L hL
  have w0 : IntKind.u8.wrap k1 = ((k1.toNat : Nat) : Int) := by rw [wrapU8]; omega
  unfold L50c
  refine cSeq ?_
  refine W_block ?_
  refine W_loop (fun m tm g => ∃ k : Nat, k + m = L.length ∧ Wr j1 w g (hdI k2 k3 k4 C n1 s1 s2 ok x L.length ++ (L.take k).flatMap enE) ∧ keep [1, 3, 45, 46, 47] 0 tm = [.und, .ptr b1 0, .und, .ptr w 0, .und, .und, .und, .und, .und, .und, .und, .und, .und, .und, .und, .und, .und, .und, .und, .und, .und, .und, .und, .und, .und, .und, .und, .und, .und, .und, .und, .und, .und, .und, .und, .und, .und, .und, .und, .und, .und, .und, .und, .und, .und, S, .int .i64 (L.length : Int), .int .i64 (k : Int), .und, .und, .und, .und, .und, .und, .und, .und, .und, .und, .und, .und, .und, .und, .und, .und, .und, .und, .und, .und, .und, .und, .und, .und]) L.length ⟨0, by omega, by simpa using hw, htm⟩ ?_
  clear htm hw
  rintro m tm g ⟨k, hk, hw, htm⟩
  refine cSeq (cMask (cNorm ?_))
  rw [htm]; clear htm
  have hbg := hw.get hb
  by_cases hkl : k < L.length
  · have d1 : (k : Int) < (L.length : Int) := by omega
    have d2 : (0 : Int) ≤ (k : Int) := by omega
    have w1 : IntKind.i64.wrap ((k : Int) + 1) = ((k + 1 : Nat) : Int) := by rw [wrap64 (by omega) (by omega)]; rfl
    obtain ⟨⟨y1, y2, y3, y4⟩, hy⟩ : ∃ y, L[k]? = some y := ⟨_, List.getElem?_eq_getElem hkl⟩
    obtain ⟨c1, c2, c3, c4⟩ := hL _ (List.mem_of_getElem? hy)
    simp only at c1 c2 c3 c4
    have htk : (L.take (k + 1)).flatMap enE = (L.take k).flatMap enE ++ enE (y1, y2, y3, y4) := by rw [List.take_add_one, hy, List.flatMap_append]; simp
    have hPl := enL_len (L := L.take k) (fun z hz => hL z (List.mem_of_mem_take hz))
    have hlk : (L.take k).length ≤ 1000 := by rw [List.length_take]; omega
    rcases hS with ⟨rfl, rfl⟩ | ⟨iL, ow, rfl, hLL⟩
    · simp at hkl
    have hLj := HU1 _ _ hLL
    have hLg := hw.get hLj
    obtain ⟨g1, g2⟩ := flat_get eMz hy []
    rw [List.append_nil] at g1 g2
    simp only [eM] at g2
    have l1 : (encN y1).length ≤ 9 := encU_length y1.toNat
    have l2 := encU_length y2
    have l3 : (encN y3).length ≤ 9 := encU_length y3.toNat
    have l4 := encS_len y4
    rw [← encT_bs] at l4
    have gy1 : ∀ v ∈ [y1], v ≤ 9223372036854775807 := by simp; omega
    have hnew : (hdI k2 k3 k4 C n1 s1 s2 ok x L.length ++ (L.take (k + 1)).flatMap enE) = (hdI k2 k3 k4 C n1 s1 s2 ok x L.length ++ (L.take k).flatMap enE) ++ (encN y1 ++ (encU y2 ++ encN y3) ++ encS y4) := by rw [htk, ← List.append_assoc]; rfl
    have hPl2 : ((hdI k2 k3 k4 C n1 s1 s2 ok x L.length ++ (L.take k).flatMap enE)).length ≤ 2000000 := by rw [List.length_append]; omega
    obtain ⟨P, hP⟩ : ∃ P, (hdI k2 k3 k4 C n1 s1 s2 ok x L.length ++ (L.take k).flatMap enE) = P := ⟨_, rfl⟩
    rw [hP] at hnew hw hPl2
    clear hP htk hPl hlk hy hHl hInl hL c1 c2
    repeat' (first | (refine wNil ?_) | (refine xPure ?_) | (refine xMk ?_; intro id hid; (try simp only [set_none_iff] at hid); have hz := hid; (repeat (replace hz := hz.2)); (try have := nei hLg hz); (try have := nei hbA hz); (try have := nei hbB hz); refine mkDo ?_) | (refine xChk ?_) | (refine xChkF ?_) | (refine xSkip ?_) | (refine xCall rfl rfl (sp40 ((j1.set _ (some ⟨true, [.int .i64 y1, .int .u64 (y2 : Int), .int .i64 y3, .str (bs y4)]⟩)).set id (some ⟨true, [y1].map fun (v : Int) => AV.int .i64 v⟩)) _ id true _ [y1] _ (Wr.new (Wr.new' hw (by assumption)) (by simp only [set_none_iff]; assumption)) set_same gy1 (by simp only [List.flatMap_cons, List.flatMap_nil, List.append_nil, List.nil_append, List.length_append]; omega) (by simp)) ?_; rintro r gA ⟨rfl, hWn⟩; have hwA := Wr.drop hWn (by rw [set_ne hid.1]; exact hw.1.no (by first | exact hid.2.2 | exact hid.2)); clear hWn; simp only [List.flatMap_cons, List.flatMap_nil, List.append_nil, List.nil_append] at hwA; have hbA := hwA.get set_same; refine nTm ?_) | (refine xCall rfl rfl (sp35 (j1.set _ (some ⟨true, [.int .i64 y1, .int .u64 (y2 : Int), .int .i64 y3, .str (bs y4)]⟩)) _ _ y2 y3 _ hwA (by simp only [List.length_append]; omega) c3) ?_; rintro r gB hwB; have hbB := hwB.get set_same; refine nTm ?_) | (refine xCall rfl rfl (sp41 ((j1.set _ (some ⟨true, [.int .i64 y1, .int .u64 (y2 : Int), .int .i64 y3, .str (bs y4)]⟩)).set id (some ⟨true, [(bs y4)].map fun (v : ByteArray) => AV.str v⟩)) _ id true _ [(bs y4)] _ (hwB.new hid) set_same  (by simp only [List.flatMap_cons, List.flatMap_nil, List.append_nil, List.nil_append, List.length_append]; omega) (by simp)) ?_; rintro r gC ⟨rfl, hWn⟩; have hwC := Wr.drop hWn (hwB.1.no hid); clear hWn; simp only [List.flatMap_cons, List.flatMap_nil, List.append_nil, List.nil_append] at hwC; have hbC := hwC.get set_same; rw [encT_bs] at hwC; refine nTm ?_) | (refine cSeq ?_) | (refine cNorm ?_) | (refine cRet ?_) | (refine cExit ?_) | (refine W_reg rfl ?_) | (refine W_block ?_) | (refine W_ret ?_) | (refine W_skip ?_) | (refine W_exit ?_) | (refine bNorm ?_) | (refine bRet ?_) | (refine bExit ?_) | (refine bExitN rfl ?_) | (refine xMask ?_) | (refine xT ?_) | (refine xF ?_) | (refine xRet ?_) | (refine xNorm ?_) | (refine xSplit ?_ ?_ <;> intro hb <;> (try exact False.elim hb)) | (refine xCond ?_ ?_ <;> intro hb <;> (try exact False.elim hb)))
    have hwZ := Wr.drop hwC (hw.1.no (by assumption))
    exact ⟨m - 1, by omega, k + 1, by omega, by rw [hnew]; simp only [List.append_assoc] at hwZ ⊢; exact hwZ, by simp only [keep, List.contains_cons, List.contains_nil, Nat.reduceBEq, Bool.or_true, Bool.true_or, Bool.or_false, Bool.false_or, if_true, if_false, Bool.false_eq_true, beq_self_eq_true, Nat.zero_add, Nat.reduceAdd, eq_self]⟩
  · have d1 : ¬ (k : Int) < (L.length : Int) := by omega
    rw [List.take_of_length_le (by omega)] at hw
    rw [show hdI k2 k3 k4 C n1 s1 s2 ok x L.length ++ L.flatMap enE = inI k2 k3 k4 C n1 s1 s2 ok x L from rfl] at hw
    unfold R50c
    repeat' (first | (refine wNil ?_) | (refine xPure ?_) | (refine xMk ?_; intro id hid; (try simp only [set_none_iff] at hid); refine mkDo ?_) | (refine xChk ?_) | (refine xChkF ?_) | (refine xSkip ?_) | (refine xCall rfl rfl (sp31 j1 _ _ _ hw) ?_; rintro r q6 ⟨rfl, hx⟩; cases hx; refine nTm ?_) | (refine xCall rfl rfl (sp39 k1.toNat (inI k2 k3 k4 C n1 s1 s2 ok x L) _ ⟨by omega, by omega⟩ (by omega)) ?_; rintro r g8 ⟨rfl, hu8⟩; refine nTm ?_) | (refine cSeq ?_) | (refine cNorm ?_) | (refine cRet ?_) | (refine cExit ?_) | (refine W_reg rfl ?_) | (refine W_block ?_) | (refine W_ret ?_) | (refine W_skip ?_) | (refine W_exit ?_) | (refine bNorm ?_) | (refine bRet ?_) | (refine bExit ?_) | (refine bExitN rfl ?_) | (refine xMask ?_) | (refine xT ?_) | (refine xF ?_) | (refine xRet ?_) | (refine xNorm ?_) | (refine xSplit ?_ ?_ <;> intro hb <;> (try exact False.elim hb)) | (refine xCond ?_ ?_ <;> intro hb <;> (try exact False.elim hb)))
    all_goals exact ⟨rfl, fun z b e => hu8 z b (hw.1 z b (HU1 z b e))⟩
/-- Bytes -/
theorem sp50 (k1 k2 k3 k4 : Int) (C : Nat) (n1 s1 s2 : Int) (ok : Bool) (x : List UInt8) (S : AV) (L : List En) (h : AH) (hS : Le h S L) (hl : L.length ≤ 1000) (hx : x.length ≤ 1000) (bC : C ≤ 18446744073709551615) (b1 : k2 ≤ 9223372036854775807) (b2 : k3 ≤ 9223372036854775807) (b3 : k4 ≤ 9223372036854775807) (b4 : n1 ≤ 9223372036854775807) (b5 : s1 ≤ 9223372036854775807) (b6 : s2 ≤ 9223372036854775807) (hL : ∀ y ∈ L, okE y) :
    Sp T 50 [.agg [.int .i64 k1, .int .i64 k2, .int .i64 k3, .int .i64 k4, .int .u64 (C : Int), .int .i64 n1, .int .i64 s1, .int .i64 s2, .bool ok, .str (bs x), S]] h (fun v h' => v = .str (bs (if chk k1 k2 k3 k4 C n1 s1 s2 x L = 0 then fr k1.toNat (inI k2 k3 k4 C n1 s1 s2 ok x L) else [])) ∧ Up h h') := by
  have hu0 := Up.refl h
  have hSl := hS.len
  have hSc : S.scalar = true := by rcases hS with ⟨rfl, rfl⟩ | ⟨i, _, rfl, _⟩ <;> rfl
  obtain ⟨ck, hck⟩ : ∃ c, chk k1 k2 k3 k4 C n1 s1 s2 x L = c := ⟨_, rfl⟩
  by_cases hz : ck = 0
  · subst hz
    rw [if_pos hck]
    obtain ⟨a1, a2, a3, a4, a5, a6, a7, a8, a9, a10, a11, a12⟩ := chk_zero _ _ _ _ _ _ _ _ ok _ _ hck
    have gb1 : ∀ v ∈ [k2, k3, k4], v ≤ 9223372036854775807 := by simp; omega
    have gb2 : ∀ v ∈ [s1, s2], v ≤ 9223372036854775807 := by simp; omega
    have gb3 : ∀ v ∈ [(L.length : Int)], v ≤ 9223372036854775807 := by simp; omega
    have l1 : (encN k2).length ≤ 9 := encU_length k2.toNat
    have l2 : (encN k3).length ≤ 9 := encU_length k3.toNat
    have l3 : (encN k4).length ≤ 9 := encU_length k4.toNat
    have l4 : (encN s1).length ≤ 9 := encU_length s1.toNat
    have l5 : (encN s2).length ≤ 9 := encU_length s2.toNat
    have l6 : (encN (L.length : Int)).length ≤ 9 := encU_length (L.length : Int).toNat
    have l7 := encS_len x
    have l7' := encS_len x
    rw [← encT_bs] at l7'
    have l8 := encB_length ok
    have l9 := encU_length C
    have l10 : (encN n1).length ≤ 9 := encU_length n1.toNat
    have ehd : encN k2 ++ (encN k3 ++ encN k4) ++ encU C ++ encN n1 ++ (encN s1 ++ encN s2) ++ encB ok ++ encS x ++ encN (L.length : Int) = hdI k2 k3 k4 C n1 s1 s2 ok x L.length := by
      unfold hdI; simp only [List.append_assoc]
    clear a2 a3 a4 a5 a6 a7 a10 a11 a12
    refine Sp_of (fn := f50) rfl (show W T b50 [.agg [.int .i64 k1, .int .i64 k2, .int .i64 k3, .int .i64 k4, .int .u64 (C : Int), .int .i64 n1, .int .i64 s1, .int .i64 s2, .bool ok, .str (bs x), S], .tup [], .tup [], .tup [], .tup [], .tup [], .tup [], .tup [], .tup [], .tup [], .tup [], .tup [], .tup [], .tup [], .tup [], .tup [], .tup [], .tup [], .tup [], .tup [], .tup [], .tup [], .tup [], .tup [], .tup [], .tup [], .tup [], .tup [], .tup [], .tup [], .tup [], .tup [], .tup [], .tup [], .tup [], .tup [], .tup [], .tup [], .tup [], .tup [], .tup [], .tup [], .tup [], .tup [], .tup [], .tup [], .tup [], .tup [], .tup [], .tup [], .tup [], .tup [], .tup [], .tup [], .tup [], .tup [], .tup [], .tup [], .tup [], .tup [], .tup [], .tup [], .tup [], .tup [], .tup [], .tup [], .tup [], .tup [], .tup [], .tup [], .tup [], .tup []] _ _ from ?_)
    unfold b50
    repeat' (first | (refine wNil ?_) | (refine xPure ?_) | (refine xMk ?_; intro id hid; (try simp only [set_none_iff] at hid); have hz := hid; (repeat (replace hz := hz.2)); (try have := nei hb hz); (try have := nei hb2 hz); (try have := nei hb3 hz); (try have := nei hb4 hz); (try have := nei hb5 hz); (try have := nei hb6 hz); (try have := nei hb7 hz); (try have := Up.none hu0 hz); refine mkDo ?_) | (refine xChk ?_) | (refine xChkF ?_) | (refine xSkip ?_) | (refine xCall rfl rfl (sp49 k1 k2 k3 k4 C n1 s1 s2 ok x S L _ (hS.up (by repeat' (first | assumption | exact Up.refl _ | refine Up.new ?_ ?_))) (by omega)) ?_; rintro v j1 ⟨rfl, hu1⟩; rw [hck]; have hb := hu1 _ _ set_same; have HU1 : Up h j1 := Up.trans (show Up h _ from (by repeat' (first | assumption | exact Up.refl _ | refine Up.new ?_ ?_))) hu1; clear hu1; refine nTm ?_) | (refine xCall rfl rfl (sp40 ((j1).set id (some ⟨true, [k2, k3, k4].map fun (v : Int) => AV.int .i64 v⟩)) _ id true _ [k2, k3, k4] _ (Wr.new (Wr.start Sub.rfl' (by assumption)) (set_none_iff.2 hid)) set_same gb1 (by simp only [List.flatMap_cons, List.flatMap_nil, List.append_nil, List.nil_append, List.length_append]; omega) (by simp)) ?_; rintro r g2 ⟨rfl, hWn⟩; have hw2 := Wr.drop hWn (hid.2); clear hWn; simp only [List.flatMap_cons, List.flatMap_nil, List.append_nil, List.nil_append] at hw2; have hb2 := hw2.get hb; refine nTm ?_) | (refine xCall rfl rfl (sp35 j1 _ _ C n1 _ hw2 (by simp only [List.length_append]; omega) b4) ?_; rintro r g3 hw3; have hb3 := hw3.get hb; refine nTm ?_) | (refine xCall rfl rfl (sp40 ((j1).set id (some ⟨true, [s1, s2].map fun (v : Int) => AV.int .i64 v⟩)) _ id true _ [s1, s2] _ (hw3.new hid) set_same gb2 (by simp only [List.flatMap_cons, List.flatMap_nil, List.append_nil, List.nil_append, List.length_append]; omega) (by simp)) ?_; rintro r g4 ⟨rfl, hWn⟩; have hw4 := Wr.drop hWn (hw3.1.no hid); clear hWn; simp only [List.flatMap_cons, List.flatMap_nil, List.append_nil, List.nil_append] at hw4; have hb4 := hw4.get hb; refine nTm ?_) | (refine xCall rfl rfl (sp42 ((j1).set id (some ⟨true, [ok].map fun (v : Bool) => AV.bool v⟩)) _ id true _ [ok] _ (hw4.new hid) set_same  (by simp only [List.flatMap_cons, List.flatMap_nil, List.append_nil, List.nil_append, List.length_append]; omega) (by simp)) ?_; rintro r g5 ⟨rfl, hWn⟩; have hw5 := Wr.drop hWn (hw4.1.no hid); clear hWn; simp only [List.flatMap_cons, List.flatMap_nil, List.append_nil, List.nil_append] at hw5; have hb5 := hw5.get hb; refine nTm ?_) | (refine xCall rfl rfl (sp41 ((j1).set id (some ⟨true, [(bs x)].map fun (v : ByteArray) => AV.str v⟩)) _ id true _ [(bs x)] _ (hw5.new hid) set_same  (by simp only [List.flatMap_cons, List.flatMap_nil, List.append_nil, List.nil_append, List.length_append]; omega) (by simp)) ?_; rintro r g6 ⟨rfl, hWn⟩; have hw6 := Wr.drop hWn (hw5.1.no hid); clear hWn; simp only [List.flatMap_cons, List.flatMap_nil, List.append_nil, List.nil_append] at hw6; have hb6 := hw6.get hb; rw [encT_bs] at hw6; refine nTm ?_) | (refine xCall rfl rfl (sp40 ((j1).set id (some ⟨true, [(L.length : Int)].map fun (v : Int) => AV.int .i64 v⟩)) _ id true _ [(L.length : Int)] _ (hw6.new hid) set_same gb3 (by simp only [List.flatMap_cons, List.flatMap_nil, List.append_nil, List.nil_append, List.length_append]; omega) (by simp)) ?_; rintro r g7 ⟨rfl, hWn⟩; have hw7 := Wr.drop hWn (hw6.1.no hid); clear hWn; simp only [List.flatMap_cons, List.flatMap_nil, List.append_nil, List.nil_append] at hw7; have hb7 := hw7.get hb; refine nTm ?_) | (exact tail50 k1 k2 k3 k4 C n1 s1 s2 ok x S L h j1 _ _ _ hS a1 (by omega) a8 hL HU1 hb (ehd ▸ hw7) _ rfl) | (refine cSeq ?_) | (refine cNorm ?_) | (refine cRet ?_) | (refine cExit ?_) | (refine W_reg rfl ?_) | (refine W_block ?_) | (refine W_ret ?_) | (refine W_skip ?_) | (refine W_exit ?_) | (refine bNorm ?_) | (refine bRet ?_) | (refine bExit ?_) | (refine bExitN rfl ?_) | (refine xMask ?_) | (refine xT ?_) | (refine xF ?_) | (refine xRet ?_) | (refine xNorm ?_) | (refine xSplit ?_ ?_ <;> intro hb <;> (try exact False.elim hb)) | (refine xCond ?_ ?_ <;> intro hb <;> (try exact False.elim hb)))
  · have hz' : (ck != 0) = true := by simpa using hz
    rw [if_neg (by rw [hck]; exact hz)]
    refine Sp_of (fn := f50) rfl (show W T b50 [.agg [.int .i64 k1, .int .i64 k2, .int .i64 k3, .int .i64 k4, .int .u64 (C : Int), .int .i64 n1, .int .i64 s1, .int .i64 s2, .bool ok, .str (bs x), S], .tup [], .tup [], .tup [], .tup [], .tup [], .tup [], .tup [], .tup [], .tup [], .tup [], .tup [], .tup [], .tup [], .tup [], .tup [], .tup [], .tup [], .tup [], .tup [], .tup [], .tup [], .tup [], .tup [], .tup [], .tup [], .tup [], .tup [], .tup [], .tup [], .tup [], .tup [], .tup [], .tup [], .tup [], .tup [], .tup [], .tup [], .tup [], .tup [], .tup [], .tup [], .tup [], .tup [], .tup [], .tup [], .tup [], .tup [], .tup [], .tup [], .tup [], .tup [], .tup [], .tup [], .tup [], .tup [], .tup [], .tup [], .tup [], .tup [], .tup [], .tup [], .tup [], .tup [], .tup [], .tup [], .tup [], .tup [], .tup [], .tup [], .tup [], .tup []] _ _ from ?_)
    unfold b50
    repeat' (first | (refine wNil ?_) | (refine xPure ?_) | (refine xMk ?_; intro id hid; (try simp only [set_none_iff] at hid); have hz := hid; (repeat (replace hz := hz.2)); (try have := Up.none hu0 hz); refine mkDo ?_) | (refine xChk ?_) | (refine xChkF ?_) | (refine xSkip ?_) | (refine xCall rfl rfl (sp49 k1 k2 k3 k4 C n1 s1 s2 ok x S L _ (hS.up (by repeat' (first | assumption | exact Up.refl _ | refine Up.new ?_ ?_))) (by omega)) ?_; rintro v j1 ⟨rfl, hu1⟩; rw [hck]; have hb := hu1 _ _ set_same; have HU1 : Up h j1 := Up.trans (show Up h _ from (by repeat' (first | assumption | exact Up.refl _ | refine Up.new ?_ ?_))) hu1; clear hu1; refine nTm ?_) | (refine cSeq ?_) | (refine cNorm ?_) | (refine cRet ?_) | (refine cExit ?_) | (refine W_reg rfl ?_) | (refine W_block ?_) | (refine W_ret ?_) | (refine W_skip ?_) | (refine W_exit ?_) | (refine bNorm ?_) | (refine bRet ?_) | (refine bExit ?_) | (refine bExitN rfl ?_) | (refine xMask ?_) | (refine xT ?_) | (refine xF ?_) | (refine xRet ?_) | (refine xNorm ?_) | (refine xSplit ?_ ?_ <;> intro hb <;> (try exact False.elim hb)) | (refine xCond ?_ ?_ <;> intro hb <;> (try exact False.elim hb)))
    all_goals exact ⟨rfl, HU1⟩
end Go.Proofs.YtgekngfnhhdamaaI
set_option linter.unusedVariables false
set_option linter.unusedSimpArgs false
set_option maxRecDepth 100000
set_option maxHeartbeats 4000000
namespace Go.Proofs.YtgekngfnhhdamaaI
open Go Go.Proofs.YtgekngfnhhdamaaM
attribute [local go_sem] aop ev fg_slc fg_slk fg_ptr fg_bool fg_int fg_str fg_iface fg_func fg_agg fg_tup fg_nils fg_nilp fg_nilI fg_nilF fg_und aboundsK alen_nils alen_slc alen_slk aslice_nils aslice_slc aslice_slk awanted abin aun aint aeqn aeqc aeqs apart abounds abnd amaxi amaxiGo cells_agg cells_slc cells_slk cells_ptr cells_bool cells_int cells_str cells_iface cells_func cells_tup cells_nils cells_nilp cells_nilI cells_nilF cells_und sc_slc sc_slk sc_ptr sc_bool sc_int sc_str sc_iface sc_func sc_nils sc_nilp sc_nilI sc_nilF gd_zero gd_succ List.all_cons List.all_nil Bool.and_self Bool.and_true Bool.true_and List.length_cons List.length_nil Option.map_some Option.some.injEq cell_same cell_ne cell_ne' cellsAt_same cellsAt_ne cellsAt_ne' put_same put_of set_same set_ne set_ne' List.getElem?_cons_zero List.getElem?_cons_succ if_true if_false and_self and_true true_and ne_eq not_true_eq_false not_false_eq_true decide_true decide_false Bool.false_eq_true Bool.true_eq_false beq_self_eq_true bne_self_eq_false beq_true beq_false Bool.not_true Bool.not_false List.map_cons List.map_nil putL List.set_cons_zero List.set_cons_succ afill Nat.zero_le Nat.le_refl Nat.zero_add Nat.add_zero List.drop_zero List.drop_succ_cons List.take_zero List.take_succ_cons Bool.not_eq_true Bool.not_eq_false decide_eq_true_eq decide_eq_false_iff_not Int.toNat_zero Nat.sub_zero Int.toNat_natCast Bool.bne_true Bool.bne_false AH.cell AH.cellsAt AH.put Nat.mul_one Nat.one_mul Int.natCast_nonneg List.length_set
set_option linter.constructorNameAsVariable false
theorem fl_no {e x : Int} (hx : ¬ x = 0) : ¬ fl e x = 0 := by unfold fl; split <;> assumption
theorem tU_ok {s R : List UInt8} {e : Int} {v : Nat} (h : tU s e = (R, 0, v)) : e = 0 ∧ s = encU v ++ R ∧ v ≤ 18446744073709551615 := by
  by_cases he : e = 0
  · subst he
    refine ⟨rfl, ?_⟩
    cases s with
    | nil => cases h
    | cons b s =>
      obtain ⟨R', v', hc⟩ := tU_cases b s
      rcases hc with ⟨hq, hR, _, hv⟩ | hc | hc
      · rw [hq] at h; cases h; exact ⟨hR, hv⟩
      · rw [hc] at h; cases h
      · rw [hc] at h; cases h
  · unfold tU at h
    rw [if_neg he] at h
    cases h
    exact absurd rfl he
theorem tN_ok {s R : List UInt8} {e most : Int} {n : Nat} (hm : 0 ≤ most) (h : tN s e most = (R, 0, n)) : e = 0 ∧ s = encN (n : Int) ++ R ∧ (n : Int) ≤ most := by
  unfold tN at h
  split at h
  · exact absurd (congrArg (fun z => z.2.1) h) (fl_no (by decide))
  · rename_i hc
    obtain ⟨h1, h2, h3⟩ := tU_ok h
    rw [h] at hc
    refine ⟨h1, ?_, by simp only at hc; omega⟩
    unfold encN; rw [Int.toNat_natCast]; exact h2
theorem tB_ok {s R : List UInt8} {e : Int} {b : Bool} (h : tB s e = (R, 0, b)) : e = 0 ∧ s = encB b ++ R := by
  unfold tB at h
  by_cases he : e = 0
  · rw [if_pos he] at h
    refine ⟨he, ?_⟩
    cases s with
    | nil => cases h
    | cons c s =>
      simp only at h
      have h1 := congrArg (fun z => z.1) h
      have h2 := congrArg (fun z => z.2.1) h
      have h3 := congrArg (fun z => z.2.2) h
      simp only at h1 h2 h3
      subst h1 h3
      by_cases hc : 1 < c.toNat
      · rw [if_pos hc] at h2; cases h2
      · have hc2 : c = 0 ∨ c = 1 := by
          by_cases h0 : c.toNat = 0
          · exact .inl (UInt8.toNat_inj.1 h0)
          · exact .inr (UInt8.toNat_inj.1 (show c.toNat = 1 by omega))
        rcases hc2 with rfl | rfl <;> rfl
  · rw [if_neg he] at h; cases h; exact absurd rfl he
theorem tk_ok' {s R x : List UInt8} {e : Int} {n : Nat} (h : tk s e n = (R, 0, x)) : e = 0 ∧ s = x ++ R ∧ x.length = n := by
  unfold tk at h
  by_cases he : e = 0
  · rw [if_pos he] at h
    refine ⟨he, ?_⟩
    split at h
    · cases h
    · cases h; exact ⟨(List.take_append_drop n s).symm, by rw [List.length_take]; omega⟩
  · rw [if_neg he] at h; cases h; exact absurd rfl he
theorem tS_ok {s R x : List UInt8} {e most : Int} (hm : 0 ≤ most) (h : tS s e most = (R, 0, x)) : e = 0 ∧ s = encS x ++ R ∧ (x.length : Int) ≤ most := by
  unfold tS at h
  obtain ⟨⟨R1, e1, n⟩, hq⟩ : ∃ q, tN s e most = q := ⟨_, rfl⟩
  rw [hq] at h
  simp only at h
  obtain ⟨rfl, h2, h3⟩ := tk_ok' h
  obtain ⟨h4, h5, h6⟩ := tN_ok hm hq
  subst h3
  refine ⟨h4, ?_, h6⟩
  rw [h5, h2]; unfold encS; rw [List.append_assoc]
theorem gB_ok {s R : List UInt8} {e : Int} {C n : Nat} (h : gB s e = (R, 0, C, n)) : e = 0 ∧ s = encU C ++ (encN (n : Int) ++ R) ∧ C ≤ 18446744073709551615 ∧ snd C (n : Int) = true := by
  unfold gB at h
  obtain ⟨⟨R1, e1, C1⟩, hq⟩ : ∃ q, tU s e = q := ⟨_, rfl⟩
  simp only [hq] at h
  obtain ⟨⟨R2, e2, n1⟩, hw⟩ : ∃ q, tN R1 e1 11 = q := ⟨_, rfl⟩
  simp only [hw] at h
  by_cases hc : C1 = 0 ∧ 0 < n1
  · rw [if_pos hc] at h
    exact absurd (congrArg (fun z => z.2.1) h) (fl_no (by decide))
  · rw [if_neg hc] at h
    by_cases h0 : e2 = 0
    · rw [if_pos h0] at h
      subst h0
      cases h
      obtain ⟨rfl, h2, h3⟩ := tN_ok (by decide) hw
      obtain ⟨h4, h5, h6⟩ := tU_ok hq
      exact ⟨h4, by rw [h5, h2], h6, decide_eq_true ⟨⟨by omega, h3⟩, by omega⟩⟩
    · exact absurd (congrArg (fun z => z.2.1) h) h0
theorem eG_ok {s R : List UInt8} {e last : Int} {y : En} (h : eG s e last = (R, 0, y)) : e = 0 ∧ s = enE y ++ R ∧ p2 y = true ∧ y.2.2.2.length ≤ 400 ∧ y.2.1 ≤ 18446744073709551615 ∧ last < y.1 := by
  unfold eG at h
  obtain ⟨⟨R1, e1, sl⟩, hq⟩ : ∃ q, tN s e 1099511627776 = q := ⟨_, rfl⟩
  simp only [hq] at h
  obtain ⟨e1', he1⟩ : ∃ z, (if (sl : Int) ≤ last then fl e1 4 else e1) = z := ⟨_, rfl⟩
  simp only [he1] at h
  obtain ⟨⟨R2, e2, C, m⟩, hb⟩ : ∃ q, gB R1 e1' = q := ⟨_, rfl⟩
  simp only [hb] at h
  obtain ⟨⟨R3, e3, w⟩, hx⟩ : ∃ q, tS R2 e2 400 = q := ⟨_, rfl⟩
  simp only [hx] at h
  cases h
  obtain ⟨rfl, h2, h3⟩ := tS_ok (by decide) hx
  obtain ⟨rfl, h5, h6, h7⟩ := gB_ok hb
  have hl : ¬ (sl : Int) ≤ last := fun hc => by rw [if_pos hc] at he1; exact fl_no (by decide) he1
  rw [if_neg hl] at he1
  subst he1
  obtain ⟨rfl, h8, h9⟩ := tN_ok (by decide) hq
  refine ⟨rfl, ?_, ?_, by show w.length ≤ 400; omega, h6, by show last < (sl : Int); omega⟩
  · rw [h8, h5, h2]; unfold enE; simp only [List.append_assoc]
  · unfold p2
    rw [Bool.and_eq_true]
    exact ⟨h7, decide_eq_true ⟨by show (0 : Int) ≤ (sl : Int); omega, h9⟩⟩
theorem lpG_ok : ∀ {n : Nat} {s R : List UInt8} {e last : Int} {L : List En}, lpG n s e last = (R, 0, L) → e = 0 ∧ s = L.flatMap enE ++ R ∧ L.length = n ∧ ris last L = true ∧ (∀ y ∈ L, p2 y = true ∧ y.2.2.2.length ≤ 400 ∧ y.2.1 ≤ 18446744073709551615)
  | 0, s, R, e, last, L, h => by
    cases h
    exact ⟨rfl, rfl, rfl, rfl, by simp⟩
  | n + 1, s, R, e, last, L, h => by
    unfold lpG at h
    by_cases he : e = 0
    · rw [if_pos he] at h
      obtain ⟨⟨R1, e1, y⟩, hq⟩ : ∃ q, eG s e last = q := ⟨_, rfl⟩
      simp only [hq] at h
      obtain ⟨⟨R2, e2, L2⟩, hl⟩ : ∃ q, lpG n R1 e1 y.1 = q := ⟨_, rfl⟩
      simp only [hl] at h
      cases h
      obtain ⟨rfl, h2, h3, h4, h5⟩ := lpG_ok hl
      obtain ⟨h6, h7, h8, h9, h10, h11⟩ := eG_ok hq
      refine ⟨he, ?_, by rw [List.length_cons, h3], ?_, ?_⟩
      · rw [h7, h2, List.flatMap_cons, List.append_assoc]
      · rw [ris, decide_eq_true h11, h4]; rfl
      · intro z hz
        rcases List.mem_cons.1 hz with rfl | hz
        · exact ⟨h8, h9, h10⟩
        · exact h5 z hz
    · rw [if_neg he] at h; cases h; exact absurd rfl he
theorem chk_intro (k1 k2 k3 k4 : Int) (C : Nat) (n1 s1 s2 : Int) (ok : Bool) (x : List UInt8) (A : List En) (a1 : 1 ≤ k1 ∧ k1 ≤ 13) (a2 : 0 ≤ k2 ∧ k2 ≤ 11) (a3 : 0 ≤ k3 ∧ k3 ≤ 11) (a4 : 0 ≤ k4 ∧ k4 ≤ 3) (a5 : snd C n1 = true) (a6 : 0 ≤ s1 ∧ s1 ≤ 1099511627776) (a7 : 0 ≤ s2 ∧ s2 ≤ 1099511627776) (hx : x.length ≤ 131072) (hl : A.length ≤ 64) (e3 : ris (-1) A = true) (hA : ∀ y ∈ A, p2 y = true ∧ y.2.2.2.length ≤ 400 ∧ y.2.1 ≤ 18446744073709551615) : chk k1 k2 k3 k4 C n1 s1 s2 x A = 0 := by
  unfold chk r1 r2 r3 r4
  rw [decide_eq_true a1, decide_eq_true a2, decide_eq_true a3, decide_eq_true a4, a5, decide_eq_true a6, decide_eq_true a7]
  have e1 : A.all p2 = true := List.all_eq_true.2 fun y hy => (hA y hy).1
  have e2 : A.all p4 = true := List.all_eq_true.2 fun y hy => decide_eq_true (hA y hy).2.1
  rw [e1, e2, e3]
  simp only [if_true, hx, hl, and_self]
/-- What Parse makes of the inside of a frame: and if that is a message, then these are its bytes. -/
theorem PM_ex (k : Nat) (inn s : List UInt8) (hk : 1 ≤ k ∧ k ≤ 13) : ∃ (k2 k3 k4 : Int) (C : Nat) (n1 s1 s2 : Int) (ok : Bool) (x : List UInt8) (L : List En) (ef : Int), (∀ h0 v h', PM h0 k inn s v h' → PQ h0 (k : Int) k2 k3 k4 C n1 s1 s2 ok x L ef v h') ∧
    (ef = 0 → inn = (inI k2 k3 k4 C n1 s1 s2 ok x L) ∧ inn.length + 8 = s.length ∧ chk (k : Int) k2 k3 k4 C n1 s1 s2 x L = 0 ∧ C ≤ 18446744073709551615 ∧ (∀ y ∈ L, okE y)) := by
  unfold PM
  obtain ⟨⟨R2, e2, a2⟩, q2⟩ : ∃ q, tN inn 0 11 = q := ⟨_, rfl⟩
  simp only [q2]
  obtain ⟨⟨R3, e3, a3⟩, q3⟩ : ∃ q, tN R2 e2 11 = q := ⟨_, rfl⟩
  simp only [q3]
  obtain ⟨⟨R4, e4, a4⟩, q4⟩ : ∃ q, tN R3 e3 3 = q := ⟨_, rfl⟩
  simp only [q4]
  obtain ⟨⟨R5, e5, a5, a6⟩, q5⟩ : ∃ q, gB R4 e4 = q := ⟨_, rfl⟩
  simp only [q5]
  obtain ⟨⟨R7, e7, a7⟩, q7⟩ : ∃ q, tN R5 e5 1099511627776 = q := ⟨_, rfl⟩
  simp only [q7]
  obtain ⟨⟨R8, e8, a8⟩, q8⟩ : ∃ q, tN R7 e7 1099511627776 = q := ⟨_, rfl⟩
  simp only [q8]
  obtain ⟨⟨R9, e9, a9⟩, q9⟩ : ∃ q, tB R8 e8 = q := ⟨_, rfl⟩
  simp only [q9]
  obtain ⟨⟨R10, e10, a10⟩, q10⟩ : ∃ q, tS R9 e9 131072 = q := ⟨_, rfl⟩
  simp only [q10]
  obtain ⟨⟨R11, e11, n⟩, q11⟩ : ∃ q, tN R10 e10 64 = q := ⟨_, rfl⟩
  simp only [q11]
  obtain ⟨⟨R, e, L⟩, ql⟩ : ∃ q, lpG n R11 e11 (-1) = q := ⟨_, rfl⟩
  simp only [ql]
  refine ⟨a2, a3, a4, a5, a6, a7, a8, a9, a10, L, dn R (exE inn s e), fun _ _ _ h => h, fun hz => ?_⟩
  rw [dn_ex] at hz
  by_cases he : e = 0
  · rw [if_pos he] at hz
    by_cases hc : R = [] ∧ inn.length + 8 = s.length
    · obtain ⟨rfl, hlen⟩ := hc
      subst he
      obtain ⟨rfl, h1, h2, h3, h4⟩ := lpG_ok ql
      obtain ⟨rfl, h5, h6⟩ := tN_ok (by decide) q11
      obtain ⟨rfl, h7, h8⟩ := tS_ok (by decide) q10
      obtain ⟨rfl, h9⟩ := tB_ok q9
      obtain ⟨rfl, h10, h11⟩ := tN_ok (by decide) q8
      obtain ⟨rfl, h12, h13⟩ := tN_ok (by decide) q7
      obtain ⟨rfl, h14, h15, h16⟩ := gB_ok q5
      obtain ⟨rfl, h17, h18⟩ := tN_ok (by decide) q4
      obtain ⟨rfl, h19, h20⟩ := tN_ok (by decide) q3
      obtain ⟨_, h21, h22⟩ := tN_ok (by decide) q2
      refine ⟨?_, hlen, ?_, h15, ?_⟩
      · rw [h21, h19, h17, h14, h12, h10, h9, h7, h5, h1, ← h2]
        unfold inI hdI
        simp only [List.append_assoc, List.append_nil]
      · exact chk_intro (k : Int) a2 a3 a4 a5 a6 a7 a8 a9 a10 L (by omega) (by omega) (by omega) (by omega) h16 (by omega) (by omega) (by omega) (by omega) h3 h4
      · intro y hy
        obtain ⟨p, q, r⟩ := h4 y hy
        have := p2_rg p q r
        exact this.1
    · rw [if_neg hc] at hz; cases hz
  · rw [if_neg he] at hz; exact absurd hz he
/-- A frame that is whole. -/
theorem opn_fr {s inn : List UInt8} {k : Nat} (h : opn s = (k, inn, 0)) (hl : inn.length + 8 = s.length) : 1 ≤ k ∧ fr k inn = s := by
  unfold opn at h
  split at h
  · cases h
  rename_i h4
  split at h
  · cases h
  rename_i h0
  split at h
  · cases h
  split at h
  · cases h
  rename_i h8
  split at h
  · rename_i hs
    have e1 := congrArg (fun z => z.1) h
    have e2 := congrArg (fun z => z.2.1) h
    simp only at e1 e2
    obtain ⟨n, hn⟩ : ∃ n, val ((s.drop 1).take 3) = n := ⟨_, rfl⟩
    rw [hn] at hs h8 e2
    have hf := (fr_opn (by omega) hn (by omega)).2 hs
    have hil : inn.length = n := by rw [← e2, List.length_take, List.length_drop]; omega
    rw [e1, e2, show n + 8 = s.length by omega, List.take_of_length_le (Nat.le_refl _)] at hf
    exact ⟨by omega, hf⟩
  · cases h
end Go.Proofs.YtgekngfnhhdamaaI
set_option linter.unusedVariables false
set_option linter.unusedSimpArgs false
set_option maxRecDepth 100000
set_option maxHeartbeats 4000000
namespace Go.Proofs.YtgekngfnhhdamaaI
open Go Go.Proofs.YtgekngfnhhdamaaM
attribute [local go_sem] aop ev fg_slc fg_slk fg_ptr fg_bool fg_int fg_str fg_iface fg_func fg_agg fg_tup fg_nils fg_nilp fg_nilI fg_nilF fg_und aboundsK alen_nils alen_slc alen_slk aslice_nils aslice_slc aslice_slk awanted abin aun aint aeqn aeqc aeqs apart abounds abnd amaxi amaxiGo cells_agg cells_slc cells_slk cells_ptr cells_bool cells_int cells_str cells_iface cells_func cells_tup cells_nils cells_nilp cells_nilI cells_nilF cells_und sc_slc sc_slk sc_ptr sc_bool sc_int sc_str sc_iface sc_func sc_nils sc_nilp sc_nilI sc_nilF gd_zero gd_succ List.all_cons List.all_nil Bool.and_self Bool.and_true Bool.true_and List.length_cons List.length_nil Option.map_some Option.some.injEq cell_same cell_ne cell_ne' cellsAt_same cellsAt_ne cellsAt_ne' put_same put_of set_same set_ne set_ne' List.getElem?_cons_zero List.getElem?_cons_succ if_true if_false and_self and_true true_and ne_eq not_true_eq_false not_false_eq_true decide_true decide_false Bool.false_eq_true Bool.true_eq_false beq_self_eq_true bne_self_eq_false beq_true beq_false Bool.not_true Bool.not_false List.map_cons List.map_nil putL List.set_cons_zero List.set_cons_succ afill Nat.zero_le Nat.le_refl Nat.zero_add Nat.add_zero List.drop_zero List.drop_succ_cons List.take_zero List.take_succ_cons Bool.not_eq_true Bool.not_eq_false decide_eq_true_eq decide_eq_false_iff_not Int.toNat_zero Nat.sub_zero Int.toNat_natCast Bool.bne_true Bool.bne_false AH.cell AH.cellsAt AH.put Nat.mul_one Nat.one_mul Int.natCast_nonneg List.length_set bs_append bs_size bs_toList bs_extract bs_get List.append_nil Nat.sub_zero bne_self_eq_false beq_self_eq_true azeros Int.le_refl
set_option linter.constructorNameAsVariable false
theorem opn_k {s inn : List UInt8} {k : Nat} (h : opn s = (k, inn, 0)) : 1 ≤ k := by
  unfold opn at h
  split at h
  · cases h
  split at h
  · cases h
  rename_i h0
  split at h
  · cases h
  split at h
  · cases h
  split at h
  · cases h; omega
  · cases h
/-- Both ways of parsing come to the same. -/
theorem parse_both (s : List UInt8) (hs : s.length ≤ 1000000) : ∃ (k1 k2 k3 k4 : Int) (C : Nat) (n1 s1 s2 : Int) (ok : Bool) (x : List UInt8) (L : List En) (ef : Int), L.length ≤ 1000 ∧ (∀ h, Sp T 55 [.str (bs s)] h (fun v h' => ∃ S, v = .tup [.agg [.int .i64 k1, .int .i64 k2, .int .i64 k3, .int .i64 k4, .int .u64 (C : Int), .int .i64 n1, .int .i64 s1, .int .i64 s2, .bool ok, .str (bs x), S], .int .i64 ef] ∧ Po h h' S L ∧ Up h h')) ∧ (∀ h, Sp T 56 [.str (bs s)] h (fun v h' => ∃ S, v = .tup [.agg [.int .i64 k1, .int .i64 k2, .int .i64 k3, .int .i64 k4, .int .u64 (C : Int), .int .i64 n1, .int .i64 s1, .int .i64 s2, .bool ok, .str (bs x), S], .int .i64 ef] ∧ Po h h' S L ∧ Up h h')) ∧ (ef = 0 → chk k1 k2 k3 k4 C n1 s1 s2 x L = 0 ∧ (fr k1.toNat (inI k2 k3 k4 C n1 s1 s2 ok x L)) = s ∧ C ≤ 18446744073709551615 ∧ ∀ y ∈ L, okE y) := by
  obtain ⟨⟨k, inn, eo⟩, ho⟩ : ∃ q, opn s = q := ⟨_, rfl⟩
  by_cases he : eo = 0
  · subst he
    have hk1 := opn_k ho
    by_cases hk : k ≤ 13
    · obtain ⟨k2, k3, k4, C, n1, s1, s2, ok, x, L, ef, hP, hC⟩ := PM_ex k inn s ⟨hk1, hk⟩
      have hpm : ∀ h v h', PF h s v h' → PQ h (k : Int) k2 k3 k4 C n1 s1 s2 ok x L ef v h' := fun h v h' hp => by
        have := hp.2.2 ⟨by rw [ho], by rw [ho]; exact hk⟩
        rw [ho] at this
        exact hP _ _ _ this
      by_cases hz : ef = 0
      · obtain ⟨c1, c2, c3, c4, c5⟩ := hC hz
        obtain ⟨_, hf⟩ := opn_fr ho c2
        have hl := (chk_zero _ _ _ _ _ _ _ _ ok _ _ c3).2.2.2.2.2.2.2.2.1
        subst hz
        refine ⟨(k : Int), k2, k3, k4, C, n1, s1, s2, ok, x, L, 0, by omega, fun h => Sp.mono (sp55a s h hs) fun v h' hp => (hpm h v h' hp).1 rfl, fun h => Sp.mono (sp56a s h hs) fun v h' hp => (hpm h v h' hp).1 rfl, fun _ => ⟨c3, ?_, c4, c5⟩⟩
        rw [← c1]; exact hf
      · exact ⟨0, 0, 0, 0, 0, 0, 0, 0, false, [], [], ef, by simp, fun h => Sp.mono (sp55a s h hs) fun v h' hp => ⟨.nils, ((hpm h v h' hp).2 hz).1, .inl ⟨rfl, rfl⟩, ((hpm h v h' hp).2 hz).2⟩, fun h => Sp.mono (sp56a s h hs) fun v h' hp => ⟨.nils, ((hpm h v h' hp).2 hz).1, .inl ⟨rfl, rfl⟩, ((hpm h v h' hp).2 hz).2⟩, fun h => absurd h hz⟩
    · have q : ∀ h v h', PF h s v h' → v = .tup [.agg [.int .i64 0, .int .i64 0, .int .i64 0, .int .i64 0, .int .u64 0, .int .i64 0, .int .i64 0, .int .i64 0, .bool false, .str ⟨#[]⟩, .nils], .int .i64 1] ∧ Up h h' := fun h v h' hp => hp.2.1 ⟨by rw [ho], by rw [ho]; show 13 < k; omega⟩
      exact ⟨0, 0, 0, 0, 0, 0, 0, 0, false, [], [], 1, by simp, fun h => Sp.mono (sp55a s h hs) fun v h' hp => ⟨.nils, (q h v h' hp).1, .inl ⟨rfl, rfl⟩, (q h v h' hp).2⟩, fun h => Sp.mono (sp56a s h hs) fun v h' hp => ⟨.nils, (q h v h' hp).1, .inl ⟨rfl, rfl⟩, (q h v h' hp).2⟩, fun h => absurd h (by decide)⟩
  · have q : ∀ h v h', PF h s v h' → v = .tup [.agg [.int .i64 0, .int .i64 0, .int .i64 0, .int .i64 0, .int .u64 0, .int .i64 0, .int .i64 0, .int .i64 0, .bool false, .str ⟨#[]⟩, .nils], .int .i64 eo] ∧ Up h h' := fun h v h' hp => by
      have := hp.1 (by rw [ho]; exact he)
      rw [ho] at this
      exact this
    exact ⟨0, 0, 0, 0, 0, 0, 0, 0, false, [], [], eo, by simp, fun h => Sp.mono (sp55a s h hs) fun v h' hp => ⟨.nils, (q h v h' hp).1, .inl ⟨rfl, rfl⟩, (q h v h' hp).2⟩, fun h => Sp.mono (sp56a s h hs) fun v h' hp => ⟨.nils, (q h v h' hp).1, .inl ⟨rfl, rfl⟩, (q h v h' hp).2⟩, fun h => absurd h he⟩
theorem x_inI (k1 k2 k3 k4 : Int) (C : Nat) (n1 s1 s2 : Int) (ok : Bool) (x : List UInt8) (L : List En) : x.length ≤ (inI k2 k3 k4 C n1 s1 s2 ok x L).length := by
  unfold inI hdI encS
  simp only [List.length_append]
  omega
/-- MsgParses -/
theorem sp12 (s0 : List UInt8) (h : AH) : Sp T 12 [.str (bs s0)] h (fun v _ => v = .bool true) := by
  obtain ⟨s, hs0⟩ : ∃ s, s0.take 700 = s := ⟨_, rfl⟩
  have hs : s.length ≤ 700 := by rw [← hs0, List.length_take]; omega
  obtain ⟨k1, k2, k3, k4, C, n1, s1, s2, ok, x, L, ef, hl, k55, k56, hok⟩ := parse_both s (by omega)
  have E1 := sameB_refl k1 k2 k3 k4 C n1 s1 s2 ok x L
  have n0 : (ef != ef) = false := by simp
  by_cases hz : ef = 0
  · obtain ⟨hck, hfr, hC, hL⟩ := hok hz
    obtain ⟨a1, a2, a3, a4, a5, a6, a7, a8, a9, a10, a11, a12⟩ := chk_zero _ _ _ _ _ _ _ _ ok _ _ hck
    have hx : x.length ≤ 1000 := by
      have := x_inI k1 k2 k3 k4 C n1 s1 s2 ok x L
      have h2 := fr_len k1.toNat (inI k2 k3 k4 C n1 s1 s2 ok x L)
      rw [hfr] at h2
      omega
    have b6 := (snd_rg a5).2
    have k50 := fun (g : AH) (S3 : AV) (h3 : Le g S3 L) => sp50 k1 k2 k3 k4 C n1 s1 s2 ok x S3 L g h3 hl hx hC (by omega) (by omega) (by omega) b6 (by omega) (by omega) hL
    rw [if_pos hck, hfr] at k50
    subst hz
    clear hfr a2 a3 a4 a5 a6 a7 a10 a11 a12 hok hs
    refine Sp_of (fn := f12) rfl (show W T b12 [.str (bs s0), .tup [], .tup [], .tup [], .tup [], .tup [], .tup [], .tup [], .tup [], .tup [], .tup [], .tup [], .tup [], .tup [], .tup [], .tup [], .tup [], .tup [], .tup [], .tup [], .tup [], .tup [], .tup [], .tup [], .tup [], .tup [], .tup [], .tup [], .tup [], .tup [], .tup [], .tup [], .tup [], .tup [], .tup [], .tup [], .tup [], .tup [], .tup [], .tup [], .tup [], .tup [], .tup [], .tup []] _ _ from ?_)
    unfold b12
    repeat' (first | (refine wNil ?_) | (refine xPure ?_) | (refine xMk (o := ⟨some 3, _, _⟩) ?_; intro b3 hb3; (try simp only [set_none_iff] at hb3); refine mkDo ?_) | (refine xMk (o := ⟨some 5, _, _⟩) ?_; intro b5 hb5; (try simp only [set_none_iff] at hb5); have n35 := nei m3 hb5; refine mkDo ?_) | (refine xMk ?_; intro id hid; (try simp only [set_none_iff] at hid); have hz := hid; (repeat (replace hz := hz.2)); (try have := nei m3 hz); (try have := nei m33 hz); (try have := nei m34 hz); (try have := nei m35 hz); refine mkDo ?_) | (refine xChk ?_) | (refine xChkF ?_) | (refine xSkip ?_) | (refine xCall rfl rfl (sp45 _) ?_; rintro v j0 ⟨rfl, hu⟩; clear hu; refine nTm ?_) | (refine xCall rfl rfl (cut16 s0 700 _) ?_; rintro r q3 ⟨rfl, hx⟩; cases hx; rw [hs0]; refine nTm ?_) | (refine xCall rfl rfl (k55 _) ?_; rintro v j1 ⟨S1, rfl, hP, hu⟩; have hL1 := hP.rd; have sc1 := hL1.lg.sc.2; have cc1 := hL1.lg.sc.1; clear hu hP; refine nTm ?_) | (refine xCall rfl rfl (k56 _) ?_; rintro v j2 ⟨S2, rfl, hP, hu⟩; have m3 := hu _ _ set_same; have hL2 := hP.rd; have sc2 := hL2.lg.sc.2; have cc2 := hL2.lg.sc.1; replace hL1 := (hL1.up (show Up j1 _ from (by repeat' (first | assumption | exact Up.refl _ | refine Up.new ?_ ?_)))).up hu; clear hu hP; refine nTm ?_) | (refine xCall rfl rfl (sp47 k1 k2 k3 k4 C n1 s1 s2 ok x S2 L _ (hL2.up (by repeat' (first | assumption | exact Up.refl _ | refine Up.new ?_ ?_))) hl) ?_; rintro v j3 ⟨S3, rfl, hP, hu⟩; have m33 := hu _ _ ((set_ne n35).trans ((set_ne n35).trans m3)); have hL3 := hP.rd; replace hL1 := (hL1.up (show Up j2 _ from (by repeat' (first | assumption | exact Up.refl _ | refine Up.new ?_ ?_)))).up hu; clear hu hP; refine nTm ?_) | (refine xCall rfl rfl (sp52 k1 k2 k3 k4 C n1 s1 s2 ok x S1 L k1 k2 k3 k4 C n1 s1 s2 ok x S3 L _ hL1 hL3 hl) ?_; rintro v j4 ⟨rfl, hu⟩; rw [E1]; have m34 := hu _ _ m33; have hL14 := hL1.up hu; clear hu; refine nTm ?_) | (refine xCall rfl rfl (sp49 k1 k2 k3 k4 C n1 s1 s2 ok x S1 L _ hL14 hl) ?_; rintro v j5 ⟨rfl, hu⟩; rw [hck]; have m35 := hu _ _ m34; have hL15 := hL14.up hu; clear hu; refine nTm ?_) | (refine xCall rfl rfl (k50 _ S1 hL15) ?_; rintro v j6 ⟨rfl, hu⟩; clear hu; refine nTm ?_) | (refine cSeq ?_) | (refine cNorm ?_) | (refine cRet ?_) | (refine cExit ?_) | (refine W_reg rfl ?_) | (refine W_block ?_) | (refine W_ret ?_) | (refine W_skip ?_) | (refine W_exit ?_) | (refine bNorm ?_) | (refine bRet ?_) | (refine bExit ?_) | (refine bExitN rfl ?_) | (refine xMask ?_) | (refine xT ?_) | (refine xF ?_) | (refine xRet ?_) | (refine xNorm ?_) | (refine xSplit ?_ ?_ <;> intro hb <;> (try exact False.elim hb)) | (refine xCond ?_ ?_ <;> intro hb <;> (try exact False.elim hb)))
    all_goals rfl
  · have hz' : (ef != 0) = true := by simpa using hz
    clear hok hs hz
    refine Sp_of (fn := f12) rfl (show W T b12 [.str (bs s0), .tup [], .tup [], .tup [], .tup [], .tup [], .tup [], .tup [], .tup [], .tup [], .tup [], .tup [], .tup [], .tup [], .tup [], .tup [], .tup [], .tup [], .tup [], .tup [], .tup [], .tup [], .tup [], .tup [], .tup [], .tup [], .tup [], .tup [], .tup [], .tup [], .tup [], .tup [], .tup [], .tup [], .tup [], .tup [], .tup [], .tup [], .tup [], .tup [], .tup [], .tup [], .tup [], .tup []] _ _ from ?_)
    unfold b12
    repeat' (first | (refine wNil ?_) | (refine xPure ?_) | (refine xMk (o := ⟨some 3, _, _⟩) ?_; intro b3 hb3; (try simp only [set_none_iff] at hb3); refine mkDo ?_) | (refine xMk (o := ⟨some 5, _, _⟩) ?_; intro b5 hb5; (try simp only [set_none_iff] at hb5); have n35 := nei m3 hb5; refine mkDo ?_) | (refine xMk ?_; intro id hid; (try simp only [set_none_iff] at hid); have hz := hid; (repeat (replace hz := hz.2)); (try have := nei m3 hz); (try have := nei m33 hz); (try have := nei m34 hz); refine mkDo ?_) | (refine xChk ?_) | (refine xChkF ?_) | (refine xSkip ?_) | (refine xCall rfl rfl (sp45 _) ?_; rintro v j0 ⟨rfl, hu⟩; clear hu; refine nTm ?_) | (refine xCall rfl rfl (cut16 s0 700 _) ?_; rintro r q3 ⟨rfl, hx⟩; cases hx; rw [hs0]; refine nTm ?_) | (refine xCall rfl rfl (k55 _) ?_; rintro v j1 ⟨S1, rfl, hP, hu⟩; have hL1 := hP.rd; have sc1 := hL1.lg.sc.2; have cc1 := hL1.lg.sc.1; clear hu hP; refine nTm ?_) | (refine xCall rfl rfl (k56 _) ?_; rintro v j2 ⟨S2, rfl, hP, hu⟩; have m3 := hu _ _ set_same; have hL2 := hP.rd; have sc2 := hL2.lg.sc.2; have cc2 := hL2.lg.sc.1; replace hL1 := (hL1.up (show Up j1 _ from (by repeat' (first | assumption | exact Up.refl _ | refine Up.new ?_ ?_)))).up hu; clear hu hP; refine nTm ?_) | (refine xCall rfl rfl (sp47 k1 k2 k3 k4 C n1 s1 s2 ok x S2 L _ (hL2.up (by repeat' (first | assumption | exact Up.refl _ | refine Up.new ?_ ?_))) hl) ?_; rintro v j3 ⟨S3, rfl, hP, hu⟩; have m33 := hu _ _ ((set_ne n35).trans ((set_ne n35).trans m3)); have hL3 := hP.rd; replace hL1 := (hL1.up (show Up j2 _ from (by repeat' (first | assumption | exact Up.refl _ | refine Up.new ?_ ?_)))).up hu; clear hu hP; refine nTm ?_) | (refine xCall rfl rfl (sp52 k1 k2 k3 k4 C n1 s1 s2 ok x S1 L k1 k2 k3 k4 C n1 s1 s2 ok x S3 L _ hL1 hL3 hl) ?_; rintro v j4 ⟨rfl, hu⟩; rw [E1]; have m34 := hu _ _ m33; have hL14 := hL1.up hu; clear hu; refine nTm ?_) | (refine cSeq ?_) | (refine cNorm ?_) | (refine cRet ?_) | (refine cExit ?_) | (refine W_reg rfl ?_) | (refine W_block ?_) | (refine W_ret ?_) | (refine W_skip ?_) | (refine W_exit ?_) | (refine bNorm ?_) | (refine bRet ?_) | (refine bExit ?_) | (refine bExitN rfl ?_) | (refine xMask ?_) | (refine xT ?_) | (refine xF ?_) | (refine xRet ?_) | (refine xNorm ?_) | (refine xSplit ?_ ?_ <;> intro hb <;> (try exact False.elim hb)) | (refine xCond ?_ ?_ <;> intro hb <;> (try exact False.elim hb)))
    all_goals rfl
end Go.Proofs.YtgekngfnhhdamaaI
