import Derived.Test.YtgekngfnhhdamaaI
import Derived.Test.YtgekngfnhhdamaaM31
import Derived.Test.YtgekngfnhhdamaaM33
set_option linter.unusedVariables false
set_option linter.unusedSimpArgs false
set_option maxRecDepth 100000
set_option maxHeartbeats 4000000
namespace Go.Proofs.YtgekngfnhhdamaaI
open Go Go.Proofs.YtgekngfnhhdamaaM
attribute [local go_sem] aop ev fg_slc fg_slk fg_ptr fg_bool fg_int fg_str fg_iface fg_func fg_agg fg_tup fg_nils fg_nilp fg_nilI fg_nilF fg_und aboundsK alen_nils alen_slc alen_slk aslice_nils aslice_slc aslice_slk awanted abin aun aint aeqn aeqc aeqs apart abounds abnd amaxi amaxiGo cells_agg cells_slc cells_slk cells_ptr cells_bool cells_int cells_str cells_iface cells_func cells_tup cells_nils cells_nilp cells_nilI cells_nilF cells_und sc_slc sc_slk sc_ptr sc_bool sc_int sc_str sc_iface sc_func sc_nils sc_nilp sc_nilI sc_nilF gd_zero gd_succ List.all_cons List.all_nil Bool.and_self Bool.and_true Bool.true_and List.length_cons List.length_nil Option.map_some Option.some.injEq cell_same cell_ne cell_ne' cellsAt_same cellsAt_ne cellsAt_ne' put_same put_of set_same set_ne set_ne' List.getElem?_cons_zero List.getElem?_cons_succ if_true if_false and_self and_true true_and ne_eq not_true_eq_false not_false_eq_true decide_true decide_false Bool.false_eq_true Bool.true_eq_false beq_self_eq_true bne_self_eq_false beq_true beq_false Bool.not_true Bool.not_false List.map_cons List.map_nil putL List.set_cons_zero List.set_cons_succ afill Nat.zero_le Nat.le_refl Nat.zero_add Nat.add_zero List.drop_zero List.drop_succ_cons List.take_zero List.take_succ_cons Bool.not_eq_true Bool.not_eq_false decide_eq_true_eq decide_eq_false_iff_not Int.toNat_zero Nat.sub_zero Int.toNat_natCast Bool.bne_true Bool.bne_false AH.cell AH.cellsAt AH.put Nat.mul_one Nat.one_mul Int.natCast_nonneg List.length_set bs_append bs_size bs_toList bs_extract bs_get List.cons_append List.nil_append List.append_nil

def xr (x y : Int) : Int := IntKind.u32.wrap ((BitVec.ofInt IntKind.u32.bits x ^^^ BitVec.ofInt IntKind.u32.bits y).toNat : Int)
def an (x y : Int) : Int := IntKind.u32.wrap ((BitVec.ofInt IntKind.u32.bits x &&& BitVec.ofInt IntKind.u32.bits y).toNat : Int)
theorem xr_eq (x y : Int) : absBits .xor .u32 x y = some (xr x y) := rfl
theorem an_eq (x y : Int) : absBits .and .u32 x y = some (an x y) := rfl
theorem xr_rng (x y : Int) : 0 ≤ xr x y ∧ xr x y < 4294967296 := by
  unfold xr
  have h := (BitVec.ofInt IntKind.u32.bits x ^^^ BitVec.ofInt IntKind.u32.bits y).isLt
  have e : (2 : Nat) ^ IntKind.u32.bits = 4294967296 := by decide
  rw [wrapU32 (by omega) (by omega)]
  omega
/-- A byte's rounds. -/
def half (c : Int) : Int := c.fdiv (2 ^ (min (Int.toNat 1) 32))
def rnd (c : Int) : Int := if an c 1 = 1 then xr (half c) 3988292384 else half c
def rnds : Nat → Int → Int
  | 0, c => c
  | n + 1, c => rnds n (rnd c)
theorem rnds_succ : ∀ (k : Nat) (c : Int), rnds (k + 1) c = rnd (rnds k c)
  | 0, c => rfl
  | k + 1, c => by rw [rnds, rnds_succ k, rnds]
def mo (c : Int) (b : UInt8) : Int := rnds 8 (xr c (IntKind.u32.wrap (b.toNat : Int)))
def smF (l : List UInt8) : Int := xr 4294967295 (l.foldl mo 4294967295)

/-- more -/
theorem sp69 (c : Int) (b : UInt8) (h : AH) : Sp T 69 [.int .u32 c, .int .u8 b.toNat] h (fun v h' => v = .int .u32 (mo c b) ∧ h' = h) := by
  have x0 := xr_eq c (IntKind.u32.wrap (b.toNat : Int))
  refine Sp_of (fn := f69) rfl (show W T b69 [.int .u32 c, .int .u8 b.toNat, .tup [], .tup [], .tup [], .tup [], .tup [], .tup [], .tup [], .tup [], .tup [], .tup [], .tup [], .tup [], .tup [], .tup [], .tup [], .tup [], .tup [], .tup [], .tup [], .tup []] _ _ from ?_)
  unfold b69
  repeat' (first
    | (refine wNil ?_)
    | (refine wPure rfl (by (first | (simp only [go_sem, *]; (first | done | exact rfl)) | rfl)) rfl (by (first | (simp only [go_sem, *]; (first | done | exact rfl)) | rfl)) ?_; dsimp only [putT, ev, Int.toNat_zero, Nat.sub_zero, Int.toNat_natCast,  gd_zero, gd_succ, Nat.zero_add, Nat.add_zero, Nat.reduceAdd, Nat.reduceMul, List.set_cons_zero, List.set_cons_succ, keep, List.contains_cons, List.contains_nil])
    | (refine wMk rfl (by (first | (simp only [go_sem, *]; (first | done | exact rfl)) | rfl)) rfl ?_; intro id hid; (try simp only [set_none_iff] at hid); refine ⟨_, (by (first | (simp only [go_sem, *]; (first | done | exact rfl)) | rfl)), ?_⟩; dsimp only [putT, ev, Int.toNat_zero, Nat.sub_zero, Int.toNat_natCast,  gd_zero, gd_succ, Nat.zero_add, Nat.add_zero, Nat.reduceAdd, Nat.reduceMul, List.set_cons_zero, List.set_cons_succ, keep, List.contains_cons, List.contains_nil])
    | (refine wChk rfl (by (first | (simp only [go_sem, *]; (first | done | exact rfl)) | rfl)) rfl (by (first | (simp only [go_sem, *]; (first | done | exact rfl)) | rfl)) rfl ?_) | (refine wChkF rfl (by (first | (simp only [go_sem, *]; (first | done | exact rfl)) | rfl)) rfl ?_)
    | (refine wSkip rfl (by (first | (simp only [go_sem, *]; (first | done | exact rfl)) | rfl)) ?_; dsimp only [putT, ev, Int.toNat_zero, Nat.sub_zero, Int.toNat_natCast,  gd_zero, gd_succ, Nat.zero_add, Nat.add_zero, Nat.reduceAdd, Nat.reduceMul, List.set_cons_zero, List.set_cons_succ, keep, List.contains_cons, List.contains_nil])
    | (refine cSeq ?_) | (refine cNorm ?_) | (refine cRet ?_) | (refine cExit ?_) | (refine W_reg rfl ?_) | (refine W_block ?_) | (refine W_ret ?_) | (refine W_skip ?_) | (refine W_exit ?_) | (refine bNorm ?_) | (refine bRet ?_) | (refine bExit ?_) | (refine bExitN rfl ?_)
    | (refine cMask' (by simp only [keep, List.contains_cons, List.contains_nil, Nat.reduceBEq, Bool.or_true, Bool.true_or, Bool.or_false, Bool.false_or, if_true, if_false, Bool.false_eq_true, beq_self_eq_true, Nat.zero_add, Nat.reduceAdd, eq_self]; exact rfl) ?_)
    | (refine cT (by (first | (simp only [go_sem, *]; (first | done | exact rfl)) | rfl)) ?_) | (refine cF (by (first | (simp only [go_sem, *]; (first | done | exact rfl)) | rfl)) ?_)
    | (refine rRet (by (first | (simp only [go_sem, *]; (first | done | exact rfl)) | rfl)) ?_) | (refine rNorm (by (first | (simp only [go_sem, *]; (first | done | exact rfl)) | rfl)) ?_)
    | (refine wSplit _ rfl (by (first | (simp only [go_sem, *]; (first | done | exact rfl)) | rfl)) ?_ ?_ <;> intro hb <;> (try simp only [beq_false, beq_true, Bool.not_true, Bool.not_false, Bool.not_eq_true', Bool.not_eq_false', decide_eq_false_iff_not, decide_eq_true_eq, bne_iff_ne, beq_iff_eq, Bool.true_eq, Bool.false_eq, Bool.not_not, Bool.and_eq_true, Bool.or_eq_true, Bool.bne_true, Bool.bne_false, bne_eq_false_iff_eq, beq_eq_false_iff_ne, ne_eq] at hb))
    | (refine W_cond _ (by (first | (simp only [go_sem, *]; (first | done | exact rfl)) | rfl)) ?_ ?_ <;> intro hb <;> (try simp only [beq_false, beq_true, Bool.not_true, Bool.not_false, Bool.not_eq_true', Bool.not_eq_false', decide_eq_false_iff_not, decide_eq_true_eq, bne_iff_ne, beq_iff_eq, Bool.true_eq, Bool.false_eq, Bool.not_not, Bool.and_eq_true, Bool.or_eq_true, Bool.bne_true, Bool.bne_false, bne_eq_false_iff_eq, beq_eq_false_iff_ne, ne_eq] at hb)))
  refine W_loop (fun m tm h' => ∃ k : Nat, k + m = 8 ∧ h' = h ∧ keep [0, 10] 0 tm = [.int .u32 (rnds k (xr c (IntKind.u32.wrap (b.toNat : Int)))), .und, .und, .und, .und, .und, .und, .und, .und, .und, .int .i64 (k : Int), .und, .und, .und, .und, .und, .und, .und, .und, .und, .und, .und]) 8 ⟨0, rfl, rfl, rfl⟩ ?_
  rintro m tm h' ⟨k, hk, rfl, htm⟩
  refine cSeq (cMask (cNorm ?_))
  rw [htm]; clear htm
  by_cases h8 : k < 8
  · have d1 : (k : Int) < 8 := by omega
    have w1 : IntKind.i64.wrap ((k : Int) + 1) = ((k + 1 : Nat) : Int) := by rw [wrap64 (by omega) (by omega)]; rfl
    have e1 := rnds_succ k (xr c (IntKind.u32.wrap (b.toNat : Int)))
    obtain ⟨z, hz⟩ : ∃ z, rnds k (xr c (IntKind.u32.wrap (b.toNat : Int))) = z := ⟨_, rfl⟩
    rw [hz] at e1 ⊢
    clear hz x0
    have x1 := an_eq z 1
    have x2 : z.fdiv (2 ^ (min (Int.toNat 1) 32)) = half z := rfl
    have x4 : ¬ (1 : Int) < 0 := by decide
    by_cases hc : an z 1 = 1
    · have x3 := xr_eq (half z) 3988292384
      have e2 : rnd z = xr (half z) 3988292384 := if_pos hc
      have hc' : (an z 1 == 1) = true := by simpa using hc
      repeat' (first
        | (refine wNil ?_)
        | (refine wPure rfl (by (first | (simp only [go_sem, *]; (first | done | exact rfl)) | rfl)) rfl (by (first | (simp only [go_sem, *]; (first | done | exact rfl)) | rfl)) ?_; dsimp only [putT, ev, Int.toNat_zero, Nat.sub_zero, Int.toNat_natCast,  gd_zero, gd_succ, Nat.zero_add, Nat.add_zero, Nat.reduceAdd, Nat.reduceMul, List.set_cons_zero, List.set_cons_succ, keep, List.contains_cons, List.contains_nil])
        | (refine wMk rfl (by (first | (simp only [go_sem, *]; (first | done | exact rfl)) | rfl)) rfl ?_; intro id hid; (try simp only [set_none_iff] at hid); refine ⟨_, (by (first | (simp only [go_sem, *]; (first | done | exact rfl)) | rfl)), ?_⟩; dsimp only [putT, ev, Int.toNat_zero, Nat.sub_zero, Int.toNat_natCast,  gd_zero, gd_succ, Nat.zero_add, Nat.add_zero, Nat.reduceAdd, Nat.reduceMul, List.set_cons_zero, List.set_cons_succ, keep, List.contains_cons, List.contains_nil])
        | (refine wChk rfl (by (first | (simp only [go_sem, *]; (first | done | exact rfl)) | rfl)) rfl (by (first | (simp only [go_sem, *]; (first | done | exact rfl)) | rfl)) rfl ?_) | (refine wChkF rfl (by (first | (simp only [go_sem, *]; (first | done | exact rfl)) | rfl)) rfl ?_)
        | (refine wSkip rfl (by (first | (simp only [go_sem, *]; (first | done | exact rfl)) | rfl)) ?_; dsimp only [putT, ev, Int.toNat_zero, Nat.sub_zero, Int.toNat_natCast,  gd_zero, gd_succ, Nat.zero_add, Nat.add_zero, Nat.reduceAdd, Nat.reduceMul, List.set_cons_zero, List.set_cons_succ, keep, List.contains_cons, List.contains_nil])
        | (refine cSeq ?_) | (refine cNorm ?_) | (refine cRet ?_) | (refine cExit ?_) | (refine W_reg rfl ?_) | (refine W_block ?_) | (refine W_ret ?_) | (refine W_skip ?_) | (refine W_exit ?_) | (refine bNorm ?_) | (refine bRet ?_) | (refine bExit ?_) | (refine bExitN rfl ?_)
        | (refine cMask' (by simp only [keep, List.contains_cons, List.contains_nil, Nat.reduceBEq, Bool.or_true, Bool.true_or, Bool.or_false, Bool.false_or, if_true, if_false, Bool.false_eq_true, beq_self_eq_true, Nat.zero_add, Nat.reduceAdd, eq_self]; exact rfl) ?_)
        | (refine cT (by (first | (simp only [go_sem, *]; (first | done | exact rfl)) | rfl)) ?_) | (refine cF (by (first | (simp only [go_sem, *]; (first | done | exact rfl)) | rfl)) ?_)
        | (refine rRet (by (first | (simp only [go_sem, *]; (first | done | exact rfl)) | rfl)) ?_) | (refine rNorm (by (first | (simp only [go_sem, *]; (first | done | exact rfl)) | rfl)) ?_)
        | (refine wSplit _ rfl (by (first | (simp only [go_sem, *]; (first | done | exact rfl)) | rfl)) ?_ ?_ <;> intro hb <;> (try simp only [beq_false, beq_true, Bool.not_true, Bool.not_false, Bool.not_eq_true', Bool.not_eq_false', decide_eq_false_iff_not, decide_eq_true_eq, bne_iff_ne, beq_iff_eq, Bool.true_eq, Bool.false_eq, Bool.not_not, Bool.and_eq_true, Bool.or_eq_true, Bool.bne_true, Bool.bne_false, bne_eq_false_iff_eq, beq_eq_false_iff_ne, ne_eq] at hb))
        | (refine W_cond _ (by (first | (simp only [go_sem, *]; (first | done | exact rfl)) | rfl)) ?_ ?_ <;> intro hb <;> (try simp only [beq_false, beq_true, Bool.not_true, Bool.not_false, Bool.not_eq_true', Bool.not_eq_false', decide_eq_false_iff_not, decide_eq_true_eq, bne_iff_ne, beq_iff_eq, Bool.true_eq, Bool.false_eq, Bool.not_not, Bool.and_eq_true, Bool.or_eq_true, Bool.bne_true, Bool.bne_false, bne_eq_false_iff_eq, beq_eq_false_iff_ne, ne_eq] at hb)))
      all_goals exact ⟨m - 1, by omega, k + 1, by omega, rfl, by rw [e1, e2]; simp only [keep, List.contains_cons, List.contains_nil, Nat.reduceBEq, Bool.or_true, Bool.true_or, Bool.or_false, Bool.false_or, if_true, if_false, Bool.false_eq_true, beq_self_eq_true, Nat.zero_add, Nat.reduceAdd, eq_self]⟩
    · have e2 : rnd z = half z := if_neg hc
      have hc' : (an z 1 == 1) = false := by simpa using hc
      repeat' (first
        | (refine wNil ?_)
        | (refine wPure rfl (by (first | (simp only [go_sem, *]; (first | done | exact rfl)) | rfl)) rfl (by (first | (simp only [go_sem, *]; (first | done | exact rfl)) | rfl)) ?_; dsimp only [putT, ev, Int.toNat_zero, Nat.sub_zero, Int.toNat_natCast,  gd_zero, gd_succ, Nat.zero_add, Nat.add_zero, Nat.reduceAdd, Nat.reduceMul, List.set_cons_zero, List.set_cons_succ, keep, List.contains_cons, List.contains_nil])
        | (refine wMk rfl (by (first | (simp only [go_sem, *]; (first | done | exact rfl)) | rfl)) rfl ?_; intro id hid; (try simp only [set_none_iff] at hid); refine ⟨_, (by (first | (simp only [go_sem, *]; (first | done | exact rfl)) | rfl)), ?_⟩; dsimp only [putT, ev, Int.toNat_zero, Nat.sub_zero, Int.toNat_natCast,  gd_zero, gd_succ, Nat.zero_add, Nat.add_zero, Nat.reduceAdd, Nat.reduceMul, List.set_cons_zero, List.set_cons_succ, keep, List.contains_cons, List.contains_nil])
        | (refine wChk rfl (by (first | (simp only [go_sem, *]; (first | done | exact rfl)) | rfl)) rfl (by (first | (simp only [go_sem, *]; (first | done | exact rfl)) | rfl)) rfl ?_) | (refine wChkF rfl (by (first | (simp only [go_sem, *]; (first | done | exact rfl)) | rfl)) rfl ?_)
        | (refine wSkip rfl (by (first | (simp only [go_sem, *]; (first | done | exact rfl)) | rfl)) ?_; dsimp only [putT, ev, Int.toNat_zero, Nat.sub_zero, Int.toNat_natCast,  gd_zero, gd_succ, Nat.zero_add, Nat.add_zero, Nat.reduceAdd, Nat.reduceMul, List.set_cons_zero, List.set_cons_succ, keep, List.contains_cons, List.contains_nil])
        | (refine cSeq ?_) | (refine cNorm ?_) | (refine cRet ?_) | (refine cExit ?_) | (refine W_reg rfl ?_) | (refine W_block ?_) | (refine W_ret ?_) | (refine W_skip ?_) | (refine W_exit ?_) | (refine bNorm ?_) | (refine bRet ?_) | (refine bExit ?_) | (refine bExitN rfl ?_)
        | (refine cMask' (by simp only [keep, List.contains_cons, List.contains_nil, Nat.reduceBEq, Bool.or_true, Bool.true_or, Bool.or_false, Bool.false_or, if_true, if_false, Bool.false_eq_true, beq_self_eq_true, Nat.zero_add, Nat.reduceAdd, eq_self]; exact rfl) ?_)
        | (refine cT (by (first | (simp only [go_sem, *]; (first | done | exact rfl)) | rfl)) ?_) | (refine cF (by (first | (simp only [go_sem, *]; (first | done | exact rfl)) | rfl)) ?_)
        | (refine rRet (by (first | (simp only [go_sem, *]; (first | done | exact rfl)) | rfl)) ?_) | (refine rNorm (by (first | (simp only [go_sem, *]; (first | done | exact rfl)) | rfl)) ?_)
        | (refine wSplit _ rfl (by (first | (simp only [go_sem, *]; (first | done | exact rfl)) | rfl)) ?_ ?_ <;> intro hb <;> (try simp only [beq_false, beq_true, Bool.not_true, Bool.not_false, Bool.not_eq_true', Bool.not_eq_false', decide_eq_false_iff_not, decide_eq_true_eq, bne_iff_ne, beq_iff_eq, Bool.true_eq, Bool.false_eq, Bool.not_not, Bool.and_eq_true, Bool.or_eq_true, Bool.bne_true, Bool.bne_false, bne_eq_false_iff_eq, beq_eq_false_iff_ne, ne_eq] at hb))
        | (refine W_cond _ (by (first | (simp only [go_sem, *]; (first | done | exact rfl)) | rfl)) ?_ ?_ <;> intro hb <;> (try simp only [beq_false, beq_true, Bool.not_true, Bool.not_false, Bool.not_eq_true', Bool.not_eq_false', decide_eq_false_iff_not, decide_eq_true_eq, bne_iff_ne, beq_iff_eq, Bool.true_eq, Bool.false_eq, Bool.not_not, Bool.and_eq_true, Bool.or_eq_true, Bool.bne_true, Bool.bne_false, bne_eq_false_iff_eq, beq_eq_false_iff_ne, ne_eq] at hb)))
      all_goals exact ⟨m - 1, by omega, k + 1, by omega, rfl, by rw [e1, e2]; simp only [keep, List.contains_cons, List.contains_nil, Nat.reduceBEq, Bool.or_true, Bool.true_or, Bool.or_false, Bool.false_or, if_true, if_false, Bool.false_eq_true, beq_self_eq_true, Nat.zero_add, Nat.reduceAdd, eq_self]⟩
  · have d1 : ¬ (k : Int) < 8 := by omega
    obtain rfl : k = 8 := by omega
    repeat' (first
      | (refine wNil ?_)
      | (refine wPure rfl (by (first | (simp only [go_sem, *]; (first | done | exact rfl)) | rfl)) rfl (by (first | (simp only [go_sem, *]; (first | done | exact rfl)) | rfl)) ?_; dsimp only [putT, ev, Int.toNat_zero, Nat.sub_zero, Int.toNat_natCast,  gd_zero, gd_succ, Nat.zero_add, Nat.add_zero, Nat.reduceAdd, Nat.reduceMul, List.set_cons_zero, List.set_cons_succ, keep, List.contains_cons, List.contains_nil])
      | (refine wMk rfl (by (first | (simp only [go_sem, *]; (first | done | exact rfl)) | rfl)) rfl ?_; intro id hid; (try simp only [set_none_iff] at hid); refine ⟨_, (by (first | (simp only [go_sem, *]; (first | done | exact rfl)) | rfl)), ?_⟩; dsimp only [putT, ev, Int.toNat_zero, Nat.sub_zero, Int.toNat_natCast,  gd_zero, gd_succ, Nat.zero_add, Nat.add_zero, Nat.reduceAdd, Nat.reduceMul, List.set_cons_zero, List.set_cons_succ, keep, List.contains_cons, List.contains_nil])
      | (refine wChk rfl (by (first | (simp only [go_sem, *]; (first | done | exact rfl)) | rfl)) rfl (by (first | (simp only [go_sem, *]; (first | done | exact rfl)) | rfl)) rfl ?_) | (refine wChkF rfl (by (first | (simp only [go_sem, *]; (first | done | exact rfl)) | rfl)) rfl ?_)
      | (refine wSkip rfl (by (first | (simp only [go_sem, *]; (first | done | exact rfl)) | rfl)) ?_; dsimp only [putT, ev, Int.toNat_zero, Nat.sub_zero, Int.toNat_natCast,  gd_zero, gd_succ, Nat.zero_add, Nat.add_zero, Nat.reduceAdd, Nat.reduceMul, List.set_cons_zero, List.set_cons_succ, keep, List.contains_cons, List.contains_nil])
      | (refine cSeq ?_) | (refine cNorm ?_) | (refine cRet ?_) | (refine cExit ?_) | (refine W_reg rfl ?_) | (refine W_block ?_) | (refine W_ret ?_) | (refine W_skip ?_) | (refine W_exit ?_) | (refine bNorm ?_) | (refine bRet ?_) | (refine bExit ?_) | (refine bExitN rfl ?_)
      | (refine cMask' (by simp only [keep, List.contains_cons, List.contains_nil, Nat.reduceBEq, Bool.or_true, Bool.true_or, Bool.or_false, Bool.false_or, if_true, if_false, Bool.false_eq_true, beq_self_eq_true, Nat.zero_add, Nat.reduceAdd, eq_self]; exact rfl) ?_)
      | (refine cT (by (first | (simp only [go_sem, *]; (first | done | exact rfl)) | rfl)) ?_) | (refine cF (by (first | (simp only [go_sem, *]; (first | done | exact rfl)) | rfl)) ?_)
      | (refine rRet (by (first | (simp only [go_sem, *]; (first | done | exact rfl)) | rfl)) ?_) | (refine rNorm (by (first | (simp only [go_sem, *]; (first | done | exact rfl)) | rfl)) ?_)
      | (refine wSplit _ rfl (by (first | (simp only [go_sem, *]; (first | done | exact rfl)) | rfl)) ?_ ?_ <;> intro hb <;> (try simp only [beq_false, beq_true, Bool.not_true, Bool.not_false, Bool.not_eq_true', Bool.not_eq_false', decide_eq_false_iff_not, decide_eq_true_eq, bne_iff_ne, beq_iff_eq, Bool.true_eq, Bool.false_eq, Bool.not_not, Bool.and_eq_true, Bool.or_eq_true, Bool.bne_true, Bool.bne_false, bne_eq_false_iff_eq, beq_eq_false_iff_ne, ne_eq] at hb))
      | (refine W_cond _ (by (first | (simp only [go_sem, *]; (first | done | exact rfl)) | rfl)) ?_ ?_ <;> intro hb <;> (try simp only [beq_false, beq_true, Bool.not_true, Bool.not_false, Bool.not_eq_true', Bool.not_eq_false', decide_eq_false_iff_not, decide_eq_true_eq, bne_iff_ne, beq_iff_eq, Bool.true_eq, Bool.false_eq, Bool.not_not, Bool.and_eq_true, Bool.or_eq_true, Bool.bne_true, Bool.bne_false, bne_eq_false_iff_eq, beq_eq_false_iff_ne, ne_eq] at hb)))
    all_goals exact ⟨rfl, rfl⟩
end Go.Proofs.YtgekngfnhhdamaaI
