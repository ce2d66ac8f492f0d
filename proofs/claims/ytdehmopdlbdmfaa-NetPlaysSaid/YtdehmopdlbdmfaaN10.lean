import Derived.Test.YtdehmopdlbdmfaaN7
set_option linter.unusedVariables false
set_option linter.unusedSimpArgs false
set_option maxRecDepth 100000
set_option maxHeartbeats 4000000
namespace Go.Proofs.YtdehmopdlbdmfaaI
open Go Go.Proofs.YtdehmopdlbdmfaaM
attribute [local go_sem] aop ev fg_slc fg_slk fg_ptr fg_bool fg_int fg_str fg_iface fg_func fg_agg fg_tup fg_nils fg_nilp fg_nilI fg_nilF fg_und aboundsK alen_nils alen_slc alen_slk aslice_nils aslice_slc aslice_slk awanted abin aun aint aeqn aeqc aeqs apart abounds abnd amaxi amaxiGo cells_agg cells_slc cells_slk cells_ptr cells_bool cells_int cells_str cells_iface cells_func cells_tup cells_nils cells_nilp cells_nilI cells_nilF cells_und sc_slc sc_slk sc_ptr sc_bool sc_int sc_str sc_iface sc_func sc_nils sc_nilp sc_nilI sc_nilF gd_zero gd_succ List.all_cons List.all_nil Bool.and_self Bool.and_true Bool.true_and List.length_cons List.length_nil Option.map_some Option.some.injEq cell_same cell_ne cell_ne' cellsAt_same cellsAt_ne cellsAt_ne' put_same put_of set_same set_ne set_ne' List.getElem?_cons_zero List.getElem?_cons_succ if_true if_false and_self and_true true_and ne_eq not_true_eq_false not_false_eq_true decide_true decide_false Bool.false_eq_true Bool.true_eq_false beq_self_eq_true bne_self_eq_false beq_true beq_false Bool.not_true Bool.not_false List.map_cons List.map_nil putL List.set_cons_zero List.set_cons_succ afill Nat.zero_le Nat.le_refl Nat.zero_add Nat.add_zero List.drop_zero List.drop_succ_cons List.take_zero List.take_succ_cons Bool.not_eq_true Bool.not_eq_false decide_eq_true_eq decide_eq_false_iff_not Int.toNat_zero Nat.sub_zero Int.toNat_natCast Bool.bne_true Bool.bne_false AH.cell AH.cellsAt AH.put Nat.mul_one Nat.one_mul Int.natCast_nonneg List.length_set bne_self_eq_false List.cons_append List.nil_append List.append_nil

theorem ofI (d : Nat) (hd : d < 4294967296) : (BitVec.ofInt IntKind.u32.bits (d : Int)).toNat = d := by
  rw [BitVec.toNat_ofInt]; show ((d : Int) % ((2 ^ 32 : Nat) : Int)).toNat = d
  rw [Int.emod_eq_of_lt (by omega) (by omega)]; rfl
theorem bit_div (n b : Nat) : (n / 2 ^ b % 2 == 1) = n.testBit b := by
  rw [Nat.testBit_eq_decide_div_mod_eq]
  rcases Nat.mod_two_eq_zero_or_one (n / 2 ^ b) with e | e <;> rw [e] <;> rfl
theorem orB (n b : Nat) (hn : n < 4294967296) (hb : b < 32) : ∃ y : Nat, absBits .or .u32 (n : Int) ((2 ^ b : Nat) : Int) = some (y : Int) ∧ y < 4294967296 ∧ ∀ j, y.testBit j = (n.testBit j || decide (j = b)) := by
  have hp : 2 ^ b < 4294967296 := Nat.pow_lt_pow_right (by decide) hb
  have e : (BitVec.ofInt IntKind.u32.bits (n : Int) ||| BitVec.ofInt IntKind.u32.bits ((2 ^ b : Nat) : Int)).toNat = n ||| 2 ^ b := by rw [BitVec.toNat_or, ofI n hn, ofI _ hp]
  have hlt : n ||| 2 ^ b < 2 ^ 32 := Nat.or_lt_two_pow hn hp
  refine ⟨n ||| 2 ^ b, ?_, hlt, fun j => ?_⟩
  · show some (IntKind.u32.wrap _) = _
    rw [e, wrapU32 (by omega) (by omega)]
  · rw [Nat.testBit_or, Nat.testBit_two_pow]
    congr 1
    by_cases h : j = b
    · subst h; simp
    · simp [h, Ne.symm h]
theorem andNB (n b : Nat) (hn : n < 4294967296) (hb : b < 32) : ∃ y : Nat, absBits .andNot .u32 (n : Int) ((2 ^ b : Nat) : Int) = some (y : Int) ∧ y < 4294967296 ∧ ∀ j, y.testBit j = (n.testBit j && !decide (j = b)) := by
  have hp : 2 ^ b < 4294967296 := Nat.pow_lt_pow_right (by decide) hb
  have e : (BitVec.ofInt IntKind.u32.bits (n : Int) &&& ~~~BitVec.ofInt IntKind.u32.bits ((2 ^ b : Nat) : Int)).toNat = n &&& (2 ^ 32 - (2 ^ b + 1)) := by
    rw [BitVec.toNat_and, BitVec.toNat_not, ofI n hn, ofI _ hp, Nat.sub_sub, Nat.add_comm 1]; rfl
  have hlt : n &&& (2 ^ 32 - (2 ^ b + 1)) < 4294967296 := Nat.lt_of_le_of_lt Nat.and_le_left hn
  refine ⟨n &&& (2 ^ 32 - (2 ^ b + 1)), ?_, hlt, fun j => ?_⟩
  · show some (IntKind.u32.wrap _) = _
    rw [e, wrapU32 (by omega) (by omega)]
  · rw [Nat.testBit_and, Nat.testBit_two_pow_sub_succ hp, Nat.testBit_two_pow]
    by_cases hj : j < 32
    · by_cases h : j = b
      · subst h; simp
      · simp [h, Ne.symm h, hj]
    · have : n.testBit j = false := Nat.testBit_lt_two_pow (Nat.lt_of_lt_of_le hn (show 2 ^ 32 ≤ 2 ^ j from Nat.pow_le_pow_right (by decide) (by omega)))
      rw [this]; rfl
/-- Cut -/
def Set1 (C C' : List Int) (a b : Nat) (is : Bool) : Prop := okC C' ∧ ∀ a' b', a' < 12 → cutBit C' a' b' = if a' = a ∧ b' = b then is else cutBit C a' b'
theorem Set1.mk' {C : List Int} {A B : Nat} {is : Bool} {y n : Nat} (hC : okC C) (hA : A < 12) (hn : C.getD A 0 = (n : Int)) (hy : y < 4294967296) (hb : ∀ j, y.testBit j = if j = B then is else n.testBit j) : Set1 C (C.set A (y : Int)) A B is := by
  have hAl : A < C.length := by rw [hC.1]; exact hA
  refine ⟨⟨by rw [List.length_set]; exact hC.1, fun c hc => ?_⟩, fun a' b' ha => ?_⟩
  · rcases List.mem_or_eq_of_mem_set hc with h | h
    · exact hC.2 c h
    · subst h; omega
  · unfold cutBit
    rw [bit_div, bit_div, List.getD_eq_getElem?_getD, List.getElem?_set]
    by_cases h : a' = A
    · subst h
      rw [if_pos rfl, if_pos hAl, hn, Int.toNat_natCast]
      show (y : Int).toNat.testBit b' = _
      rw [Int.toNat_natCast, hb]
      by_cases h2 : b' = B <;> simp [h2]
    · rw [if_neg (fun e => h e.symm), if_neg (fun e => h e.1), List.getD_eq_getElem?_getD]
theorem sp23 (h0 : AH) (p : List Nat) (a b : Int) (is : Bool) (N : Int) (L : List Pk) (C : List Int) (h : AH) (hn : Nt h0 p h N L C) (hN : N ≤ 12) (hC : okC C) :
    Sp T 23 [.ptr p 0, .int .i64 a, .int .i64 b, .bool is] h (fun v h' => if isW N a b then ∃ C', Set1 C C' a.toNat b.toNat is ∧ Nt h0 p h' N L C' else Nt h0 p h' N L C) := by
  obtain ⟨g1, g2, S, hp, g4⟩ := (show _ ∧ _ from hn)
  have c64 := sp64 a b N p true (S :: u32s C) h hp
  cases hw : isW N a b with
  | false =>
    rw [hw] at c64
    refine Sp_of (fn := f23) rfl (show W T b23 [.ptr p 0, .int .i64 a, .int .i64 b, .bool is, .tup [], .tup [], .tup [], .tup [], .tup [], .tup [], .tup [], .tup [], .tup [], .tup [], .tup [], .tup [], .tup [], .tup [], .tup [], .tup [], .tup [], .tup [], .tup [], .tup [], .tup [], .tup [], .tup [], .tup [], .tup [], .tup [], .tup [], .tup [], .tup [], .tup [], .tup [], .tup [], .tup [], .tup [], .tup [], .tup []] _ _ from ?_)
    unfold b23
    repeat' (first
      | (refine wNil ?_)
      | (refine wPure rfl (by (first | (simp only [go_sem, *]; (first | done | exact rfl)) | rfl)) rfl (by (first | (simp only [go_sem, *]; (first | done | exact rfl)) | rfl)) ?_; dsimp only [putT, ev, Int.toNat_zero, Nat.sub_zero, Int.toNat_natCast,  gd_zero, gd_succ, Nat.zero_add, Nat.add_zero, Nat.reduceAdd, Nat.reduceMul, List.set_cons_zero, List.set_cons_succ, keep, List.contains_cons, List.contains_nil])
      | (refine wMk rfl (by (first | (simp only [go_sem, *]; (first | done | exact rfl)) | rfl)) rfl ?_; intro id hid; (try simp only [set_none_iff] at hid); refine ⟨_, (by (first | (simp only [go_sem, *]; (first | done | exact rfl)) | rfl)), ?_⟩; dsimp only [putT, ev, Int.toNat_zero, Nat.sub_zero, Int.toNat_natCast,  gd_zero, gd_succ, Nat.zero_add, Nat.add_zero, Nat.reduceAdd, Nat.reduceMul, List.set_cons_zero, List.set_cons_succ, keep, List.contains_cons, List.contains_nil])
      | (refine wChk rfl (by (first | (simp only [go_sem, *]; (first | done | exact rfl)) | rfl)) rfl (by (first | (simp only [go_sem, *]; (first | done | exact rfl)) | rfl)) rfl ?_) | (refine wChkF rfl (by (first | (simp only [go_sem, *]; (first | done | exact rfl)) | rfl)) rfl ?_)
      | (refine wSkip rfl (by (first | (simp only [go_sem, *]; (first | done | exact rfl)) | rfl)) ?_; dsimp only [putT, ev, Int.toNat_zero, Nat.sub_zero, Int.toNat_natCast,  gd_zero, gd_succ, Nat.zero_add, Nat.add_zero, Nat.reduceAdd, Nat.reduceMul, List.set_cons_zero, List.set_cons_succ, keep, List.contains_cons, List.contains_nil])
      | (refine wCall rfl (by (first | (simp only [awanted, gd_zero, gd_succ, beq_self_eq_true, beq_true, beq_false, Bool.not_true, Bool.not_false, *]; done) | rfl)) rfl (Sp.mono (c64) ?_); rintro v h' ⟨rfl, hx⟩; cases hx; dsimp only [putT, ev, Int.toNat_zero, Nat.sub_zero, Int.toNat_natCast,  gd_zero, gd_succ, Nat.zero_add, Nat.add_zero, Nat.reduceAdd, Nat.reduceMul, List.set_cons_zero, List.set_cons_succ, keep, List.contains_cons, List.contains_nil])
      | (refine cSeq ?_) | (refine cNorm ?_) | (refine cRet ?_) | (refine cExit ?_) | (refine W_reg rfl ?_) | (refine W_block ?_) | (refine W_ret ?_) | (refine W_skip ?_) | (refine W_exit ?_) | (refine bNorm ?_) | (refine bRet ?_) | (refine bExit ?_) | (refine bExitN rfl ?_)
      | (refine cMask' (by simp only [keep, List.contains_cons, List.contains_nil, Nat.reduceBEq, Bool.or_true, Bool.true_or, Bool.or_false, Bool.false_or, if_true, if_false, Bool.false_eq_true, beq_self_eq_true, Nat.zero_add, Nat.reduceAdd, eq_self]; exact rfl) ?_)
      | (refine cT (by (first | (simp only [go_sem, *]; (first | done | exact rfl)) | rfl)) ?_) | (refine cF (by (first | (simp only [go_sem, *]; (first | done | exact rfl)) | rfl)) ?_)
      | (refine rRet (by (first | (simp only [go_sem, *]; (first | done | exact rfl)) | rfl)) ?_) | (refine rNorm (by (first | (simp only [go_sem, *]; (first | done | exact rfl)) | rfl)) ?_)
      | (refine wSplit _ rfl (by (first | (simp only [go_sem, *]; (first | done | exact rfl)) | rfl)) ?_ ?_ <;> intro hb <;> (try simp only [beq_false, beq_true, Bool.not_true, Bool.not_false, Bool.not_eq_true', Bool.not_eq_false', decide_eq_false_iff_not, decide_eq_true_eq, bne_iff_ne, beq_iff_eq, Bool.true_eq, Bool.false_eq, Bool.not_not, Bool.and_eq_true, Bool.or_eq_true, Bool.bne_true, Bool.bne_false, bne_eq_false_iff_eq, beq_eq_false_iff_ne, ne_eq] at hb))
      | (refine W_cond _ (by (first | (simp only [go_sem, *]; (first | done | exact rfl)) | rfl)) ?_ ?_ <;> intro hb <;> (try simp only [beq_false, beq_true, Bool.not_true, Bool.not_false, Bool.not_eq_true', Bool.not_eq_false', decide_eq_false_iff_not, decide_eq_true_eq, bne_iff_ne, beq_iff_eq, Bool.true_eq, Bool.false_eq, Bool.not_not, Bool.and_eq_true, Bool.or_eq_true, Bool.bne_true, Bool.bne_false, bne_eq_false_iff_eq, beq_eq_false_iff_ne, ne_eq] at hb)))
    all_goals exact hn
  | true =>
    rw [hw] at c64
    simp only [isW, decide_eq_true_eq] at hw
    obtain ⟨a1, a2, a3, a4, a5⟩ := hw
    obtain ⟨A, rfl⟩ : ∃ A : Nat, a = A := ⟨a.toNat, by omega⟩
    obtain ⟨B, rfl⟩ : ∃ B : Nat, b = B := ⟨b.toNat, by omega⟩
    have hA : A < C.length := by rw [hC.1]; omega
    have hc := hC.2 _ (List.getElem_mem hA)
    have hgd : C.getD A 0 = C[A] := by rw [List.getD_eq_getElem?_getD, List.getElem?_eq_getElem hA]; rfl
    obtain ⟨n, hnc⟩ : ∃ n : Nat, C[A] = (n : Int) := ⟨C[A].toNat, by omega⟩
    have hcell : (AV.int .i64 N :: S :: u32s C)[2 + A]? = some (.int .u32 (n : Int)) := by
      rw [Nat.add_comm, List.getElem?_cons_succ, List.getElem?_cons_succ, u32s, List.getElem?_map, List.getElem?_eq_getElem hA, hnc]; rfl
    have hset : ∀ y : Nat, (AV.int .i64 N :: S :: u32s C).set (2 + A) (.int .u32 (y : Int)) = .int .i64 N :: S :: u32s (C.set A (y : Int)) := fun y => by
      rw [Nat.add_comm, List.set_cons_succ, List.set_cons_succ, u32s, u32s, List.map_set]
    have hlenU : (u32s C).length = 12 := by rw [u32s, List.length_map]; exact hC.1
    have hU : 2 + A + 1 ≤ (u32s C).length + 1 + 1 := by omega
    have b1 : ¬ (B : Int) < 0 := by omega
    have b2 : (A : Int) < ((12 : Nat) : Int) := by omega
    have hn32 : n < 4294967296 := by omega
    have b3 : IntKind.u32.wrap (1 * 2 ^ min B 32) = ((2 ^ B : Nat) : Int) := by
      have hp : 2 ^ B < 2 ^ 32 := Nat.pow_lt_pow_right (by decide) (by omega)
      rw [Int.one_mul, Nat.min_eq_left (by omega)]
      have e : (2 : Int) ^ B = ((2 ^ B : Nat) : Int) := by norm_cast
      rw [e]
      generalize 2 ^ B = z at *
      exact wrapU32 (by omega) (by omega)
    obtain ⟨y1, o1, o2, o3⟩ := orB n B hn32 (by omega)
    obtain ⟨y2, p1, p2, p3⟩ := andNB n B hn32 (by omega)
    have fin : ∀ (y : Nat) (is : Bool), y < 4294967296 → (∀ j, y.testBit j = if j = B then is else n.testBit j) → Set1 C (C.set A (y : Int)) A B is ∧ Nt h0 p (h.set p (some ⟨true, .int .i64 N :: S :: u32s (C.set A (y : Int))⟩)) N L (C.set A (y : Int)) := fun y is hy hb =>
      ⟨Set1.mk' hC (by rw [hC.1] at hA; exact hA) (by rw [hgd, hnc]) hy hb, Sub.set g1 g2, g2, S, set_same, g4.own⟩
    have f1 := fin y1 true o2 (fun j => by rw [o3]; by_cases e : j = B <;> simp [e])
    have f2 := fin y2 false p2 (fun j => by rw [p3]; by_cases e : j = B <;> simp [e])
    simp only [if_true, Int.toNat_natCast]
    clear hgd hnc hc hn32 o2 o3 p2 p3 fin hlenU hA
    cases is with
    | true =>
      refine Sp_of (fn := f23) rfl (show W T b23 [.ptr p 0, .int .i64 (A : Int), .int .i64 (B : Int), .bool true, .tup [], .tup [], .tup [], .tup [], .tup [], .tup [], .tup [], .tup [], .tup [], .tup [], .tup [], .tup [], .tup [], .tup [], .tup [], .tup [], .tup [], .tup [], .tup [], .tup [], .tup [], .tup [], .tup [], .tup [], .tup [], .tup [], .tup [], .tup [], .tup [], .tup [], .tup [], .tup [], .tup [], .tup [], .tup [], .tup []] _ _ from ?_)
      unfold b23
      repeat' (first
        | (refine wNil ?_)
        | (refine wPure rfl (by (first | (simp only [go_sem, *]; (first | done | exact rfl)) | rfl)) rfl (by (first | (simp only [go_sem, *]; (first | done | exact rfl)) | rfl)) ?_; dsimp only [putT, ev, Int.toNat_zero, Nat.sub_zero, Int.toNat_natCast,  gd_zero, gd_succ, Nat.zero_add, Nat.add_zero, Nat.reduceAdd, Nat.reduceMul, List.set_cons_zero, List.set_cons_succ, keep, List.contains_cons, List.contains_nil])
        | (refine wMk rfl (by (first | (simp only [go_sem, *]; (first | done | exact rfl)) | rfl)) rfl ?_; intro id hid; (try simp only [set_none_iff] at hid); refine ⟨_, (by (first | (simp only [go_sem, *]; (first | done | exact rfl)) | rfl)), ?_⟩; dsimp only [putT, ev, Int.toNat_zero, Nat.sub_zero, Int.toNat_natCast,  gd_zero, gd_succ, Nat.zero_add, Nat.add_zero, Nat.reduceAdd, Nat.reduceMul, List.set_cons_zero, List.set_cons_succ, keep, List.contains_cons, List.contains_nil])
        | (refine wChk rfl (by (first | (simp only [go_sem, *]; (first | done | exact rfl)) | rfl)) rfl (by (first | (simp only [go_sem, *]; (first | done | exact rfl)) | rfl)) rfl ?_) | (refine wChkF rfl (by (first | (simp only [go_sem, *]; (first | done | exact rfl)) | rfl)) rfl ?_)
        | (refine wSkip rfl (by (first | (simp only [go_sem, *]; (first | done | exact rfl)) | rfl)) ?_; dsimp only [putT, ev, Int.toNat_zero, Nat.sub_zero, Int.toNat_natCast,  gd_zero, gd_succ, Nat.zero_add, Nat.add_zero, Nat.reduceAdd, Nat.reduceMul, List.set_cons_zero, List.set_cons_succ, keep, List.contains_cons, List.contains_nil])
        | (refine wCall rfl (by (first | (simp only [awanted, gd_zero, gd_succ, beq_self_eq_true, beq_true, beq_false, Bool.not_true, Bool.not_false, *]; done) | rfl)) rfl (Sp.mono (c64) ?_); rintro v h' ⟨rfl, hx⟩; cases hx; dsimp only [putT, ev, Int.toNat_zero, Nat.sub_zero, Int.toNat_natCast,  gd_zero, gd_succ, Nat.zero_add, Nat.add_zero, Nat.reduceAdd, Nat.reduceMul, List.set_cons_zero, List.set_cons_succ, keep, List.contains_cons, List.contains_nil])
        | (refine cSeq ?_) | (refine cNorm ?_) | (refine cRet ?_) | (refine cExit ?_) | (refine W_reg rfl ?_) | (refine W_block ?_) | (refine W_ret ?_) | (refine W_skip ?_) | (refine W_exit ?_) | (refine bNorm ?_) | (refine bRet ?_) | (refine bExit ?_) | (refine bExitN rfl ?_)
        | (refine cMask' (by simp only [keep, List.contains_cons, List.contains_nil, Nat.reduceBEq, Bool.or_true, Bool.true_or, Bool.or_false, Bool.false_or, if_true, if_false, Bool.false_eq_true, beq_self_eq_true, Nat.zero_add, Nat.reduceAdd, eq_self]; exact rfl) ?_)
        | (refine cT (by (first | (simp only [go_sem, *]; (first | done | exact rfl)) | rfl)) ?_) | (refine cF (by (first | (simp only [go_sem, *]; (first | done | exact rfl)) | rfl)) ?_)
        | (refine rRet (by (first | (simp only [go_sem, *]; (first | done | exact rfl)) | rfl)) ?_) | (refine rNorm (by (first | (simp only [go_sem, *]; (first | done | exact rfl)) | rfl)) ?_)
        | (refine wSplit _ rfl (by (first | (simp only [go_sem, *]; (first | done | exact rfl)) | rfl)) ?_ ?_ <;> intro hb <;> (try simp only [beq_false, beq_true, Bool.not_true, Bool.not_false, Bool.not_eq_true', Bool.not_eq_false', decide_eq_false_iff_not, decide_eq_true_eq, bne_iff_ne, beq_iff_eq, Bool.true_eq, Bool.false_eq, Bool.not_not, Bool.and_eq_true, Bool.or_eq_true, Bool.bne_true, Bool.bne_false, bne_eq_false_iff_eq, beq_eq_false_iff_ne, ne_eq] at hb))
        | (refine W_cond _ (by (first | (simp only [go_sem, *]; (first | done | exact rfl)) | rfl)) ?_ ?_ <;> intro hb <;> (try simp only [beq_false, beq_true, Bool.not_true, Bool.not_false, Bool.not_eq_true', Bool.not_eq_false', decide_eq_false_iff_not, decide_eq_true_eq, bne_iff_ne, beq_iff_eq, Bool.true_eq, Bool.false_eq, Bool.not_not, Bool.and_eq_true, Bool.or_eq_true, Bool.bne_true, Bool.bne_false, bne_eq_false_iff_eq, beq_eq_false_iff_ne, ne_eq] at hb)))
      all_goals exact ⟨_, f1.1, f1.2⟩
    | false =>
      refine Sp_of (fn := f23) rfl (show W T b23 [.ptr p 0, .int .i64 (A : Int), .int .i64 (B : Int), .bool false, .tup [], .tup [], .tup [], .tup [], .tup [], .tup [], .tup [], .tup [], .tup [], .tup [], .tup [], .tup [], .tup [], .tup [], .tup [], .tup [], .tup [], .tup [], .tup [], .tup [], .tup [], .tup [], .tup [], .tup [], .tup [], .tup [], .tup [], .tup [], .tup [], .tup [], .tup [], .tup [], .tup [], .tup [], .tup [], .tup []] _ _ from ?_)
      unfold b23
      repeat' (first
        | (refine wNil ?_)
        | (refine wPure rfl (by (first | (simp only [go_sem, *]; (first | done | exact rfl)) | rfl)) rfl (by (first | (simp only [go_sem, *]; (first | done | exact rfl)) | rfl)) ?_; dsimp only [putT, ev, Int.toNat_zero, Nat.sub_zero, Int.toNat_natCast,  gd_zero, gd_succ, Nat.zero_add, Nat.add_zero, Nat.reduceAdd, Nat.reduceMul, List.set_cons_zero, List.set_cons_succ, keep, List.contains_cons, List.contains_nil])
        | (refine wMk rfl (by (first | (simp only [go_sem, *]; (first | done | exact rfl)) | rfl)) rfl ?_; intro id hid; (try simp only [set_none_iff] at hid); refine ⟨_, (by (first | (simp only [go_sem, *]; (first | done | exact rfl)) | rfl)), ?_⟩; dsimp only [putT, ev, Int.toNat_zero, Nat.sub_zero, Int.toNat_natCast,  gd_zero, gd_succ, Nat.zero_add, Nat.add_zero, Nat.reduceAdd, Nat.reduceMul, List.set_cons_zero, List.set_cons_succ, keep, List.contains_cons, List.contains_nil])
        | (refine wChk rfl (by (first | (simp only [go_sem, *]; (first | done | exact rfl)) | rfl)) rfl (by (first | (simp only [go_sem, *]; (first | done | exact rfl)) | rfl)) rfl ?_) | (refine wChkF rfl (by (first | (simp only [go_sem, *]; (first | done | exact rfl)) | rfl)) rfl ?_)
        | (refine wSkip rfl (by (first | (simp only [go_sem, *]; (first | done | exact rfl)) | rfl)) ?_; dsimp only [putT, ev, Int.toNat_zero, Nat.sub_zero, Int.toNat_natCast,  gd_zero, gd_succ, Nat.zero_add, Nat.add_zero, Nat.reduceAdd, Nat.reduceMul, List.set_cons_zero, List.set_cons_succ, keep, List.contains_cons, List.contains_nil])
        | (refine wCall rfl (by (first | (simp only [awanted, gd_zero, gd_succ, beq_self_eq_true, beq_true, beq_false, Bool.not_true, Bool.not_false, *]; done) | rfl)) rfl (Sp.mono (c64) ?_); rintro v h' ⟨rfl, hx⟩; cases hx; dsimp only [putT, ev, Int.toNat_zero, Nat.sub_zero, Int.toNat_natCast,  gd_zero, gd_succ, Nat.zero_add, Nat.add_zero, Nat.reduceAdd, Nat.reduceMul, List.set_cons_zero, List.set_cons_succ, keep, List.contains_cons, List.contains_nil])
        | (refine cSeq ?_) | (refine cNorm ?_) | (refine cRet ?_) | (refine cExit ?_) | (refine W_reg rfl ?_) | (refine W_block ?_) | (refine W_ret ?_) | (refine W_skip ?_) | (refine W_exit ?_) | (refine bNorm ?_) | (refine bRet ?_) | (refine bExit ?_) | (refine bExitN rfl ?_)
        | (refine cMask' (by simp only [keep, List.contains_cons, List.contains_nil, Nat.reduceBEq, Bool.or_true, Bool.true_or, Bool.or_false, Bool.false_or, if_true, if_false, Bool.false_eq_true, beq_self_eq_true, Nat.zero_add, Nat.reduceAdd, eq_self]; exact rfl) ?_)
        | (refine cT (by (first | (simp only [go_sem, *]; (first | done | exact rfl)) | rfl)) ?_) | (refine cF (by (first | (simp only [go_sem, *]; (first | done | exact rfl)) | rfl)) ?_)
        | (refine rRet (by (first | (simp only [go_sem, *]; (first | done | exact rfl)) | rfl)) ?_) | (refine rNorm (by (first | (simp only [go_sem, *]; (first | done | exact rfl)) | rfl)) ?_)
        | (refine wSplit _ rfl (by (first | (simp only [go_sem, *]; (first | done | exact rfl)) | rfl)) ?_ ?_ <;> intro hb <;> (try simp only [beq_false, beq_true, Bool.not_true, Bool.not_false, Bool.not_eq_true', Bool.not_eq_false', decide_eq_false_iff_not, decide_eq_true_eq, bne_iff_ne, beq_iff_eq, Bool.true_eq, Bool.false_eq, Bool.not_not, Bool.and_eq_true, Bool.or_eq_true, Bool.bne_true, Bool.bne_false, bne_eq_false_iff_eq, beq_eq_false_iff_ne, ne_eq] at hb))
        | (refine W_cond _ (by (first | (simp only [go_sem, *]; (first | done | exact rfl)) | rfl)) ?_ ?_ <;> intro hb <;> (try simp only [beq_false, beq_true, Bool.not_true, Bool.not_false, Bool.not_eq_true', Bool.not_eq_false', decide_eq_false_iff_not, decide_eq_true_eq, bne_iff_ne, beq_iff_eq, Bool.true_eq, Bool.false_eq, Bool.not_not, Bool.and_eq_true, Bool.or_eq_true, Bool.bne_true, Bool.bne_false, bne_eq_false_iff_eq, beq_eq_false_iff_ne, ne_eq] at hb)))
      all_goals exact ⟨_, f2.1, f2.2⟩
end Go.Proofs.YtdehmopdlbdmfaaI
