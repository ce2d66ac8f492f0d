/- What the statement's proof needs (joined out of several texts); no conditions. -/
import Derived.Test.YtgekngfnhhdamaaZB4
set_option linter.unusedVariables false
set_option linter.unusedSimpArgs false
set_option maxRecDepth 100000
set_option maxHeartbeats 4000000
namespace Go.Proofs.YtgekngfnhhdamaaI
open Go Go.Proofs.YtgekngfnhhdamaaM
attribute [local go_sem] aop ev fg_slc fg_slk fg_ptr fg_bool fg_int fg_str fg_iface fg_func fg_agg fg_tup fg_nils fg_nilp fg_nilI fg_nilF fg_und aboundsK alen_nils alen_slc alen_slk aslice_nils aslice_slc aslice_slk awanted abin aun aint aeqn aeqc aeqs apart abounds abnd amaxi amaxiGo cells_agg cells_slc cells_slk cells_ptr cells_bool cells_int cells_str cells_iface cells_func cells_tup cells_nils cells_nilp cells_nilI cells_nilF cells_und sc_slc sc_slk sc_ptr sc_bool sc_int sc_str sc_iface sc_func sc_nils sc_nilp sc_nilI sc_nilF gd_zero gd_succ List.all_cons List.all_nil Bool.and_self Bool.and_true Bool.true_and List.length_cons List.length_nil Option.map_some Option.some.injEq cell_same cell_ne cell_ne' cellsAt_same cellsAt_ne cellsAt_ne' put_same put_of set_same set_ne set_ne' List.getElem?_cons_zero List.getElem?_cons_succ if_true if_false and_self and_true true_and ne_eq not_true_eq_false not_false_eq_true decide_true decide_false Bool.false_eq_true Bool.true_eq_false beq_self_eq_true bne_self_eq_false beq_true beq_false Bool.not_true Bool.not_false List.map_cons List.map_nil putL List.set_cons_zero List.set_cons_succ afill Nat.zero_le Nat.le_refl Nat.zero_add Nat.add_zero List.drop_zero List.drop_succ_cons List.take_zero List.take_succ_cons Bool.not_eq_true Bool.not_eq_false decide_eq_true_eq decide_eq_false_iff_not Int.toNat_zero Nat.sub_zero Int.toNat_natCast Bool.bne_true Bool.bne_false AH.cell AH.cellsAt AH.put Nat.mul_one Nat.one_mul Int.natCast_nonneg List.length_set bs_append bs_size bs_toList bs_extract bs_get List.cons_append List.nil_append List.append_nil be_length Nat.sub_zero bne_self_eq_false beq_self_eq_true azeros Int.le_refl
/-- A byte's rounds, by the document. -/
def rr : Nat → Nat → Nat → Nat
  | 0, c, _ => c
  | j + 1, c, b => rr j (if c % 2 = b % 2 then c / 2 else (c / 2) ^^^ 3988292384) (b / 2)
/-- A byte's rounds, by the program. -/
def pp : Nat → Nat → Nat
  | 0, c => c
  | j + 1, c => pp j (if c % 2 = 1 then (c / 2) ^^^ 3988292384 else c / 2)
theorem pp_rr : ∀ (j c b : Nat), b < 2 ^ j → pp j (c ^^^ b) = rr j c b
  | 0, c, b, h => by simp at h; subst h; simp [pp, rr]
  | j + 1, c, b, h => by
    have hb : b / 2 < 2 ^ j := by rw [Nat.pow_succ] at h; omega
    unfold pp rr
    rw [← pp_rr j _ _ hb]
    have hx : (c ^^^ b) % 2 = 1 ↔ ¬ (c % 2 = b % 2) := by
      rw [Nat.xor_mod_two_eq_one]; omega
    have hd : (c ^^^ b) / 2 = (c / 2) ^^^ (b / 2) := Nat.xor_div_two
    rw [hd]
    by_cases e : c % 2 = b % 2
    · rw [if_neg (fun x => hx.1 x e), if_pos e]
    · rw [if_pos (hx.2 e), if_neg e]
      congr 1
      rw [Nat.xor_assoc, Nat.xor_assoc, Nat.xor_comm (b / 2)]
theorem rr_lt : ∀ (j c b : Nat), c < 4294967296 → rr j c b < 4294967296
  | 0, _, _, h => h
  | j + 1, c, b, h => by
    unfold rr
    refine rr_lt j _ _ ?_
    split
    · omega
    · exact Nat.xor_lt_two_pow (n := 32) (by omega) (by decide)
/-- The sum's number behind some bytes. -/
def cr (c : Nat) (l : List UInt8) : Nat := l.foldl (fun c b => rr 8 c b.toNat) c
theorem cr_lt : ∀ (l : List UInt8) (c : Nat), c < 4294967296 → cr c l < 4294967296
  | [], _, h => h
  | b :: l, c, h => cr_lt l _ (rr_lt 8 c b.toNat h)
theorem xr_nat (a b : Nat) (ha : a < 4294967296) (hb : b < 4294967296) : xr (a : Int) (b : Int) = ((a ^^^ b : Nat) : Int) := by
  unfold xr
  show IntKind.u32.wrap ((BitVec.ofInt 32 (a : Int) ^^^ BitVec.ofInt 32 (b : Int)).toNat : Int) = _
  have e1 : (BitVec.ofInt 32 (a : Int)).toNat = a := by rw [BitVec.ofInt_natCast, BitVec.toNat_ofNat]; omega
  have e2 : (BitVec.ofInt 32 (b : Int)).toNat = b := by rw [BitVec.ofInt_natCast, BitVec.toNat_ofNat]; omega
  have e3 : a ^^^ b < 4294967296 := Nat.xor_lt_two_pow (n := 32) ha hb
  rw [BitVec.toNat_xor, e1, e2, wrapU32 (by omega) (by omega)]
theorem an_one (a : Nat) (ha : a < 4294967296) : an (a : Int) 1 = ((a % 2 : Nat) : Int) := by
  unfold an
  show IntKind.u32.wrap ((BitVec.ofInt 32 (a : Int) &&& BitVec.ofInt 32 1).toNat : Int) = _
  have e1 : (BitVec.ofInt 32 (a : Int)).toNat = a := by rw [BitVec.ofInt_natCast, BitVec.toNat_ofNat]; omega
  have e2 : (BitVec.ofInt 32 1).toNat = 1 := by decide
  rw [BitVec.toNat_and, e1, e2, Nat.and_one_is_mod, wrapU32 (by omega) (by omega)]
theorem half_nat (a : Nat) : half (a : Int) = ((a / 2 : Nat) : Int) := by
  unfold half
  have : min (Int.toNat 1) 32 = 1 := by decide
  rw [this, Int.fdiv_eq_ediv_of_nonneg _ (by decide)]; omega
theorem rnd_nat (a : Nat) (ha : a < 4294967296) : rnd (a : Int) = (((if a % 2 = 1 then (a / 2) ^^^ 3988292384 else a / 2) : Nat) : Int) := by
  unfold rnd
  rw [an_one a ha, half_nat]
  by_cases e : a % 2 = 1
  · rw [if_pos (by omega), if_pos e]; exact xr_nat (a / 2) 3988292384 (by omega) (by decide)
  · rw [if_neg (by omega), if_neg e]
theorem rnds_nat : ∀ (k a : Nat), a < 4294967296 → rnds k (a : Int) = ((pp k a : Nat) : Int)
  | 0, a, _ => rfl
  | k + 1, a, ha => by
    rw [rnds, rnd_nat a ha, pp]
    refine rnds_nat k _ ?_
    split
    · exact Nat.xor_lt_two_pow (n := 32) (by omega) (by decide)
    · omega
theorem mo_nat (c : Nat) (b : UInt8) (hc : c < 4294967296) : mo (c : Int) b = ((rr 8 c b.toNat : Nat) : Int) := by
  have hb := b.toNat_lt
  unfold mo
  rw [wrapU32 (by omega) (by omega), xr_nat c _ hc (by omega), rnds_nat 8 _ (Nat.xor_lt_two_pow (n := 32) hc (by omega)), pp_rr 8 c _ (by omega)]
theorem fold_nat : ∀ (l : List UInt8) (c : Nat), c < 4294967296 → l.foldl mo (c : Int) = ((cr c l : Nat) : Int)
  | [], c, _ => rfl
  | b :: l, c, hc => by
    rw [List.foldl_cons, mo_nat c b hc]
    exact fold_nat l _ (rr_lt 8 c b.toNat hc)
theorem not32 (c : Nat) (h : c < 4294967296) : xr 4294967295 (c : Int) = ((4294967295 - c : Nat) : Int) := by
  have e0 := xr_nat 4294967295 c (by decide) h
  rw [show ((4294967295 : Nat) : Int) = 4294967295 from rfl] at e0
  rw [e0]
  congr 1
  have e : (BitVec.allOnes 32 ^^^ BitVec.ofNat 32 c) = ~~~ (BitVec.ofNat 32 c) := BitVec.allOnes_xor
  have e2 := congrArg BitVec.toNat e
  rw [BitVec.toNat_xor, BitVec.toNat_not, BitVec.toNat_allOnes, BitVec.toNat_ofNat, Nat.mod_eq_of_lt (by omega)] at e2
  exact e2
theorem smF_cr (l : List UInt8) : smF l = ((4294967295 - cr 4294967295 l : Nat) : Int) := by
  unfold smF
  have := fold_nat l 4294967295 (by decide)
  rw [show ((4294967295 : Nat) : Int) = 4294967295 from rfl] at this
  rw [this, not32 _ (cr_lt l _ (by decide))]
/-- Digits -/
theorem sp86 (v n : Nat) (h : AH) (hv : v < 4294967296) (hn : n ≤ 8) : Sp T 86 [.int .u32 v, .int .i64 n] h (fun r h' => r = .str (bs (be v n)) ∧ Up h h') := by
  refine Sp_of (fn := f86) rfl (show W T b86 [.int .u32 v, .int .i64 n, .tup [], .tup [], .tup [], .tup [], .tup [], .tup [], .tup [], .tup [], .tup [], .tup [], .tup [], .tup [], .tup [], .tup [], .tup [], .tup [], .tup [], .tup [], .tup [], .tup []] _ _ from ?_)
  unfold b86
  repeat' (first
    | (refine wNil ?_) | (refine xPure ?_)
    | (refine xMk ?_; intro id hid; (try simp only [set_none_iff] at hid); refine mkDo ?_)
    | (refine xChk ?_) | (refine xChkF ?_) | (refine xSkip ?_)
    | (refine cSeq ?_) | (refine cNorm ?_) | (refine cRet ?_) | (refine cExit ?_) | (refine W_reg rfl ?_) | (refine W_block ?_) | (refine W_ret ?_) | (refine W_skip ?_) | (refine W_exit ?_) | (refine bNorm ?_) | (refine bRet ?_) | (refine bExit ?_) | (refine bExitN rfl ?_)
    | (refine xMask ?_) | (refine xT ?_) | (refine xF ?_) | (refine xRet ?_) | (refine xNorm ?_)
    | (refine wSplit _ rfl (by (first | (simp only [go_sem, *]; (first | done | exact rfl)) | rfl)) ?_ ?_ <;> intro hb <;> (try simp only [beq_false, beq_true, Bool.not_true, Bool.not_false, Bool.not_eq_true', Bool.not_eq_false', decide_eq_false_iff_not, decide_eq_true_eq, bne_iff_ne, beq_iff_eq, Bool.true_eq, Bool.false_eq, Bool.not_not, Bool.and_eq_true, Bool.or_eq_true, Bool.bne_true, Bool.bne_false, bne_eq_false_iff_eq, beq_eq_false_iff_ne, ne_eq] at hb))
    | (refine W_cond _ (by (first | (simp only [go_sem, *]; (first | done | exact rfl)) | rfl)) ?_ ?_ <;> intro hb <;> (try simp only [beq_false, beq_true, Bool.not_true, Bool.not_false, Bool.not_eq_true', Bool.not_eq_false', decide_eq_false_iff_not, decide_eq_true_eq, bne_iff_ne, beq_iff_eq, Bool.true_eq, Bool.false_eq, Bool.not_not, Bool.and_eq_true, Bool.or_eq_true, Bool.bne_true, Bool.bne_false, bne_eq_false_iff_eq, beq_eq_false_iff_ne, ne_eq] at hb)))
  refine W_loop (fun m tm h' => ∃ k, k + m = n ∧ Up h h' ∧ keep [0, 1, 5, 6] 0 tm = [.int .u32 ((v / 256 ^ k : Nat) : Int), .int .i64 (n : Int), .und, .und, .und, .str (bs (be v k)), .int .i64 (k : Int), .und, .und, .und, .und, .und, .und, .und, .und, .und, .und, .und, .und, .und, .und, .und]) n ⟨0, by omega, Up.refl _, by rw [Nat.pow_zero, Nat.div_one]; rfl⟩ ?_
  rintro m tm h' ⟨k, hk, hU, htm⟩
  refine cSeq (cMask (cNorm ?_))
  rw [htm]; clear htm
  by_cases hm : k < n
  · have d1 : (k : Int) < (n : Int) := by omega
    have hw : v / 256 ^ k < 4294967296 := Nat.lt_of_le_of_lt (Nat.div_le_self _ _) hv
    have e : v / 256 ^ (k + 1) = v / 256 ^ k / 256 := by rw [Nat.pow_succ, Nat.div_div_eq_div_mul]
    have eb : be v (k + 1) = UInt8.ofNat (v / 256 ^ k) :: be v k := rfl
    obtain ⟨w, hw'⟩ : ∃ w, v / 256 ^ k = w := ⟨_, rfl⟩
    rw [hw'] at hw e eb ⊢
    have d2 : (w : Int).tmod 256 = ((w % 256 : Nat) : Int) := by rw [Int.tmod_eq_emod_of_nonneg (by omega)]; omega
    have d3 : IntKind.u8.wrap ((w % 256 : Nat) : Int) = ((UInt8.ofNat w).toNat : Int) := by rw [u8w]; congr 2; apply UInt8.toNat_inj.1; simp
    have d4 : IntKind.u32.wrap ((w : Int).tdiv 256) = ((w / 256 : Nat) : Int) := by rw [Int.tdiv_eq_ediv_of_nonneg (by omega), wrapU32 (by omega) (by omega)]; omega
    have d5 : IntKind.i64.wrap ((k : Int) + 1) = ((k + 1 : Nat) : Int) := by rw [wrap64 (by omega) (by omega)]; rfl
    have d6 : ¬ IntKind.i64.max < ((1 + k : Nat) : Int) := big_no (by omega)
    have d7 : abytes [.int .u8 ((UInt8.ofNat w).toNat : Int)] = some [UInt8.ofNat w] := abytes_bc [UInt8.ofNat w]
    clear hw'
    repeat' (first
      | (refine wNil ?_) | (refine xPure ?_)
      | (refine xMk ?_; intro id hid; (try simp only [set_none_iff] at hid); refine mkDo ?_)
      | (refine xChk ?_) | (refine xChkF ?_) | (refine xSkip ?_)
      | (refine cSeq ?_) | (refine cNorm ?_) | (refine cRet ?_) | (refine cExit ?_) | (refine W_reg rfl ?_) | (refine W_block ?_) | (refine W_ret ?_) | (refine W_skip ?_) | (refine W_exit ?_) | (refine bNorm ?_) | (refine bRet ?_) | (refine bExit ?_) | (refine bExitN rfl ?_)
      | (refine xMask ?_) | (refine xT ?_) | (refine xF ?_) | (refine xRet ?_) | (refine xNorm ?_)
      | (refine wSplit _ rfl (by (first | (simp only [go_sem, *]; (first | done | exact rfl)) | rfl)) ?_ ?_ <;> intro hb <;> (try simp only [beq_false, beq_true, Bool.not_true, Bool.not_false, Bool.not_eq_true', Bool.not_eq_false', decide_eq_false_iff_not, decide_eq_true_eq, bne_iff_ne, beq_iff_eq, Bool.true_eq, Bool.false_eq, Bool.not_not, Bool.and_eq_true, Bool.or_eq_true, Bool.bne_true, Bool.bne_false, bne_eq_false_iff_eq, beq_eq_false_iff_ne, ne_eq] at hb))
      | (refine W_cond _ (by (first | (simp only [go_sem, *]; (first | done | exact rfl)) | rfl)) ?_ ?_ <;> intro hb <;> (try simp only [beq_false, beq_true, Bool.not_true, Bool.not_false, Bool.not_eq_true', Bool.not_eq_false', decide_eq_false_iff_not, decide_eq_true_eq, bne_iff_ne, beq_iff_eq, Bool.true_eq, Bool.false_eq, Bool.not_not, Bool.and_eq_true, Bool.or_eq_true, Bool.bne_true, Bool.bne_false, bne_eq_false_iff_eq, beq_eq_false_iff_ne, ne_eq] at hb)))
    all_goals exact ⟨m - 1, by omega, k + 1, by omega, hU.new (hU.none hid), by simp only [keep, List.contains_cons, List.contains_nil, Nat.reduceBEq, Bool.or_true, Bool.true_or, Bool.or_false, Bool.false_or, if_true, if_false, Bool.false_eq_true, beq_self_eq_true, Nat.zero_add, Nat.reduceAdd, eq_self, e, eb]⟩
  · have d1 : ¬ (k : Int) < (n : Int) := by omega
    repeat' (first
      | (refine wNil ?_) | (refine xPure ?_)
      | (refine xMk ?_; intro id hid; (try simp only [set_none_iff] at hid); refine mkDo ?_)
      | (refine xChk ?_) | (refine xChkF ?_) | (refine xSkip ?_)
      | (refine cSeq ?_) | (refine cNorm ?_) | (refine cRet ?_) | (refine cExit ?_) | (refine W_reg rfl ?_) | (refine W_block ?_) | (refine W_ret ?_) | (refine W_skip ?_) | (refine W_exit ?_) | (refine bNorm ?_) | (refine bRet ?_) | (refine bExit ?_) | (refine bExitN rfl ?_)
      | (refine xMask ?_) | (refine xT ?_) | (refine xF ?_) | (refine xRet ?_) | (refine xNorm ?_)
      | (refine wSplit _ rfl (by (first | (simp only [go_sem, *]; (first | done | exact rfl)) | rfl)) ?_ ?_ <;> intro hb <;> (try simp only [beq_false, beq_true, Bool.not_true, Bool.not_false, Bool.not_eq_true', Bool.not_eq_false', decide_eq_false_iff_not, decide_eq_true_eq, bne_iff_ne, beq_iff_eq, Bool.true_eq, Bool.false_eq, Bool.not_not, Bool.and_eq_true, Bool.or_eq_true, Bool.bne_true, Bool.bne_false, bne_eq_false_iff_eq, beq_eq_false_iff_ne, ne_eq] at hb))
      | (refine W_cond _ (by (first | (simp only [go_sem, *]; (first | done | exact rfl)) | rfl)) ?_ ?_ <;> intro hb <;> (try simp only [beq_false, beq_true, Bool.not_true, Bool.not_false, Bool.not_eq_true', Bool.not_eq_false', decide_eq_false_iff_not, decide_eq_true_eq, bne_iff_ne, beq_iff_eq, Bool.true_eq, Bool.false_eq, Bool.not_not, Bool.and_eq_true, Bool.or_eq_true, Bool.bne_true, Bool.bne_false, bne_eq_false_iff_eq, beq_eq_false_iff_ne, ne_eq] at hb)))
    all_goals (obtain rfl : k = n := by omega)
    all_goals exact ⟨rfl, hU⟩
/-- Sum -/
theorem sp87 (l : List UInt8) (h : AH) (hl : l.length ≤ 1099511627776) : Sp T 87 [.str (bs l)] h (fun v h' => v = .int .u32 (smF l) ∧ h' = h) := by
  refine Sp_of (fn := f87) rfl (show W T b87 [.str (bs l), .tup [], .tup [], .tup [], .tup [], .tup [], .tup [], .tup [], .tup [], .tup [], .tup [], .tup [], .tup [], .tup [], .tup [], .tup [], .tup [], .tup [], .tup [], .tup [], .tup [], .tup [], .tup [], .tup [], .tup [], .tup [], .tup [], .tup [], .tup [], .tup [], .tup [], .tup [], .tup [], .tup [], .tup [], .tup []] _ _ from ?_)
  unfold b87
  repeat' (first
    | (refine wNil ?_) | (refine xPure ?_)
    | (refine xMk ?_; intro id hid; (try simp only [set_none_iff] at hid); refine mkDo ?_)
    | (refine xChk ?_) | (refine xChkF ?_) | (refine xSkip ?_)
    | (refine cSeq ?_) | (refine cNorm ?_) | (refine cRet ?_) | (refine cExit ?_) | (refine W_reg rfl ?_) | (refine W_block ?_) | (refine W_ret ?_) | (refine W_skip ?_) | (refine W_exit ?_) | (refine bNorm ?_) | (refine bRet ?_) | (refine bExit ?_) | (refine bExitN rfl ?_)
    | (refine xMask ?_) | (refine xT ?_) | (refine xF ?_) | (refine xRet ?_) | (refine xNorm ?_)
    | (refine wSplit _ rfl (by (first | (simp only [go_sem, *]; (first | done | exact rfl)) | rfl)) ?_ ?_ <;> intro hb <;> (try simp only [beq_false, beq_true, Bool.not_true, Bool.not_false, Bool.not_eq_true', Bool.not_eq_false', decide_eq_false_iff_not, decide_eq_true_eq, bne_iff_ne, beq_iff_eq, Bool.true_eq, Bool.false_eq, Bool.not_not, Bool.and_eq_true, Bool.or_eq_true, Bool.bne_true, Bool.bne_false, bne_eq_false_iff_eq, beq_eq_false_iff_ne, ne_eq] at hb))
    | (refine W_cond _ (by (first | (simp only [go_sem, *]; (first | done | exact rfl)) | rfl)) ?_ ?_ <;> intro hb <;> (try simp only [beq_false, beq_true, Bool.not_true, Bool.not_false, Bool.not_eq_true', Bool.not_eq_false', decide_eq_false_iff_not, decide_eq_true_eq, bne_iff_ne, beq_iff_eq, Bool.true_eq, Bool.false_eq, Bool.not_not, Bool.and_eq_true, Bool.or_eq_true, Bool.bne_true, Bool.bne_false, bne_eq_false_iff_eq, beq_eq_false_iff_ne, ne_eq] at hb)))
  refine W_loop (fun m tm h' => ∃ k : Nat, k + m = l.length ∧ h' = h ∧ keep [0, 3, 4] 0 tm = [.str (bs l), .und, .und, .int .u32 ((cr 4294967295 (l.take k) : Nat) : Int), .int .i64 (k : Int), .und, .und, .und, .und, .und, .und, .und, .und, .und, .und, .und, .und, .und, .und, .und, .und, .und, .und, .und, .und, .und, .und, .und, .und, .und, .und, .und, .und, .und, .und, .und]) l.length ⟨0, by omega, rfl, rfl⟩ ?_
  rintro m tm h' ⟨k, hk, rfl, htm⟩
  refine cSeq (cMask (cNorm ?_))
  rw [htm]; clear htm
  by_cases hkl : k < l.length
  · have d1 : (k : Int) < (l.length : Int) := by omega
    have d0 : (0 : Int) ≤ (k : Int) := by omega
    have w1 : IntKind.i64.wrap ((k : Int) + 1) = ((k + 1 : Nat) : Int) := by rw [wrap64 (by omega) (by omega)]; rfl
    obtain ⟨b, hb⟩ : ∃ b, l[k]? = some b := ⟨_, List.getElem?_eq_getElem hkl⟩
    have e1 : cr 4294967295 (l.take (k + 1)) = rr 8 (cr 4294967295 (l.take k)) b.toNat := by
      unfold cr
      rw [List.take_add_one, hb, List.foldl_append]; rfl
    have hc := cr_lt (l.take k) 4294967295 (by decide)
    obtain ⟨c0, hc0⟩ : ∃ c0, cr 4294967295 (l.take k) = c0 := ⟨_, rfl⟩
    rw [hc0] at e1 hc ⊢
    have hb8 := b.toNat_lt
    clear hc0
    repeat' (first
      | (refine wNil ?_) | (refine xPure ?_)
      | (refine xMk ?_; intro id hid; (try simp only [set_none_iff] at hid); refine mkDo ?_)
      | (refine xChk ?_) | (refine xChkF ?_) | (refine xSkip ?_)
      | (refine cSeq ?_) | (refine cNorm ?_) | (refine cRet ?_) | (refine cExit ?_) | (refine W_reg rfl ?_) | (refine W_block ?_) | (refine W_ret ?_) | (refine W_skip ?_) | (refine W_exit ?_) | (refine bNorm ?_) | (refine bRet ?_) | (refine bExit ?_) | (refine bExitN rfl ?_)
      | (refine xMask ?_) | (refine xT ?_) | (refine xF ?_) | (refine xRet ?_) | (refine xNorm ?_)
      | (refine wSplit _ rfl (by (first | (simp only [go_sem, *]; (first | done | exact rfl)) | rfl)) ?_ ?_ <;> intro hb <;> (try simp only [beq_false, beq_true, Bool.not_true, Bool.not_false, Bool.not_eq_true', Bool.not_eq_false', decide_eq_false_iff_not, decide_eq_true_eq, bne_iff_ne, beq_iff_eq, Bool.true_eq, Bool.false_eq, Bool.not_not, Bool.and_eq_true, Bool.or_eq_true, Bool.bne_true, Bool.bne_false, bne_eq_false_iff_eq, beq_eq_false_iff_ne, ne_eq] at hb))
      | (refine W_cond _ (by (first | (simp only [go_sem, *]; (first | done | exact rfl)) | rfl)) ?_ ?_ <;> intro hb <;> (try simp only [beq_false, beq_true, Bool.not_true, Bool.not_false, Bool.not_eq_true', Bool.not_eq_false', decide_eq_false_iff_not, decide_eq_true_eq, bne_iff_ne, beq_iff_eq, Bool.true_eq, Bool.false_eq, Bool.not_not, Bool.and_eq_true, Bool.or_eq_true, Bool.bne_true, Bool.bne_false, bne_eq_false_iff_eq, beq_eq_false_iff_ne, ne_eq] at hb)))
    refine W_loop (fun m' tm h'' => ∃ (j c b' : Nat), j + m' = 8 ∧ h'' = h' ∧ c < 4294967296 ∧ b' < 256 ∧ rr 8 c0 b.toNat = rr m' c b' ∧ keep [0, 3, 4, 5, 6] 0 tm = [.str (bs l), .und, .und, .int .u32 (c : Int), .int .i64 (k : Int), .int .u8 (b' : Int), .int .i64 (j : Int), .und, .und, .und, .und, .und, .und, .und, .und, .und, .und, .und, .und, .und, .und, .und, .und, .und, .und, .und, .und, .und, .und, .und, .und, .und, .und, .und, .und, .und]) 8 ⟨0, c0, b.toNat, rfl, rfl, hc, hb8, rfl, rfl⟩ ?_
    clear hb hb8 hc
    rintro m' tm h'' ⟨j, c, b', hj, rfl, hc, hb', hr, htm⟩
    refine cSeq (cMask (cNorm ?_))
    rw [htm]; clear htm
    by_cases hj8 : j < 8
    · have d2 : (j : Int) < 8 := by omega
      have w2 : IntKind.i64.wrap ((j : Int) + 1) = ((j + 1 : Nat) : Int) := by rw [wrap64 (by omega) (by omega)]; rfl
      obtain ⟨m'', rfl⟩ : ∃ z, m' = z + 1 := ⟨m' - 1, by omega⟩
      rw [show rr (m'' + 1) c b' = rr m'' (if c % 2 = b' % 2 then c / 2 else (c / 2) ^^^ 3988292384) (b' / 2) from rfl] at hr
      have f1 : (c : Int).tmod 2 = ((c % 2 : Nat) : Int) := by rw [Int.tmod_eq_emod_of_nonneg (by omega)]; omega
      have f2 : (b' : Int).tmod 2 = ((b' % 2 : Nat) : Int) := by rw [Int.tmod_eq_emod_of_nonneg (by omega)]; omega
      have f3 : IntKind.u32.wrap ((b' % 2 : Nat) : Int) = ((b' % 2 : Nat) : Int) := wrapU32 (by omega) (by omega)
      have f4 : IntKind.u32.wrap ((c : Int).tdiv 2) = ((c / 2 : Nat) : Int) := by rw [Int.tdiv_eq_ediv_of_nonneg (by omega), wrapU32 (by omega) (by omega)]; omega
      have f5 : IntKind.u8.wrap ((b' : Int).tdiv 2) = ((b' / 2 : Nat) : Int) := by rw [Int.tdiv_eq_ediv_of_nonneg (by omega), wrapU8]; omega
      have f6 := xr_eq ((c / 2 : Nat) : Int) 3988292384
      rw [show (3988292384 : Int) = ((3988292384 : Nat) : Int) from rfl, xr_nat (c / 2) 3988292384 (by omega) (by decide), show ((3988292384 : Nat) : Int) = (3988292384 : Int) from rfl] at f6
      have f7 : c / 2 ^^^ 3988292384 < 4294967296 := Nat.xor_lt_two_pow (n := 32) (by omega) (by decide)
      have n2 : ¬ (2 : Int) = 0 := by decide
      have hcx : c / 2 < 4294967296 := by omega
      have hbx : b' / 2 < 256 := by omega
      have hmj : Hid (j + 1 + m'' = 8) := (show j + 1 + m'' = 8 by omega)
      obtain ⟨c2, hc2⟩ : ∃ z, c / 2 = z := ⟨_, rfl⟩
      obtain ⟨b2, hb2⟩ : ∃ z, b' / 2 = z := ⟨_, rfl⟩
      obtain ⟨x2, hx2⟩ : ∃ z, c2 ^^^ 3988292384 = z := ⟨_, rfl⟩
      rw [hc2] at hr f4 f6 f7 hcx
      rw [hb2] at hr f5 hbx
      rw [hx2] at hr f6 f7
      by_cases he : c % 2 = b' % 2
      · have g1 : ((((c % 2 : Nat) : Int)) != ((b' % 2 : Nat) : Int)) = false := by rw [he]; simp
        rw [if_pos he] at hr
        obtain ⟨p, hp⟩ : ∃ z, c % 2 = z := ⟨_, rfl⟩
        obtain ⟨q, hq⟩ : ∃ z, b' % 2 = z := ⟨_, rfl⟩
        rw [hp] at g1 f1
        rw [hq] at g1 f2 f3
        clear he hp hq hc2 hb2 hx2 f6 hj hj8 e1
        repeat' (first
          | (refine wNil ?_) | (refine xPure ?_)
          | (refine xMk ?_; intro id hid; (try simp only [set_none_iff] at hid); refine mkDo ?_)
          | (refine xChk ?_) | (refine xChkF ?_) | (refine xSkip ?_)
          | (refine cSeq ?_) | (refine cNorm ?_) | (refine cRet ?_) | (refine cExit ?_) | (refine W_reg rfl ?_) | (refine W_block ?_) | (refine W_ret ?_) | (refine W_skip ?_) | (refine W_exit ?_) | (refine bNorm ?_) | (refine bRet ?_) | (refine bExit ?_) | (refine bExitN rfl ?_)
          | (refine xMask ?_) | (refine xT ?_) | (refine xF ?_) | (refine xRet ?_) | (refine xNorm ?_)
          | (refine wSplit _ rfl (by (first | (simp only [go_sem, *]; (first | done | exact rfl)) | rfl)) ?_ ?_ <;> intro hb <;> (try simp only [beq_false, beq_true, Bool.not_true, Bool.not_false, Bool.not_eq_true', Bool.not_eq_false', decide_eq_false_iff_not, decide_eq_true_eq, bne_iff_ne, beq_iff_eq, Bool.true_eq, Bool.false_eq, Bool.not_not, Bool.and_eq_true, Bool.or_eq_true, Bool.bne_true, Bool.bne_false, bne_eq_false_iff_eq, beq_eq_false_iff_ne, ne_eq] at hb))
          | (refine W_cond _ (by (first | (simp only [go_sem, *]; (first | done | exact rfl)) | rfl)) ?_ ?_ <;> intro hb <;> (try simp only [beq_false, beq_true, Bool.not_true, Bool.not_false, Bool.not_eq_true', Bool.not_eq_false', decide_eq_false_iff_not, decide_eq_true_eq, bne_iff_ne, beq_iff_eq, Bool.true_eq, Bool.false_eq, Bool.not_not, Bool.and_eq_true, Bool.or_eq_true, Bool.bne_true, Bool.bne_false, bne_eq_false_iff_eq, beq_eq_false_iff_ne, ne_eq] at hb)))
        all_goals exact ⟨m'', by omega, j + 1, c2, b2, hmj, rfl, hcx, hbx, hr, by simp only [keep, List.contains_cons, List.contains_nil, Nat.reduceBEq, Bool.or_true, Bool.true_or, Bool.or_false, Bool.false_or, if_true, if_false, Bool.false_eq_true, beq_self_eq_true, Nat.zero_add, Nat.reduceAdd, eq_self]⟩
      · have g1 : ((((c % 2 : Nat) : Int)) != ((b' % 2 : Nat) : Int)) = true := by rw [bne_iff_ne]; omega
        rw [if_neg he] at hr
        obtain ⟨p, hp⟩ : ∃ z, c % 2 = z := ⟨_, rfl⟩
        obtain ⟨q, hq⟩ : ∃ z, b' % 2 = z := ⟨_, rfl⟩
        rw [hp] at g1 f1
        rw [hq] at g1 f2 f3
        clear he hp hq hc2 hb2 hx2 hj hj8 e1
        repeat' (first
          | (refine wNil ?_) | (refine xPure ?_)
          | (refine xMk ?_; intro id hid; (try simp only [set_none_iff] at hid); refine mkDo ?_)
          | (refine xChk ?_) | (refine xChkF ?_) | (refine xSkip ?_)
          | (refine cSeq ?_) | (refine cNorm ?_) | (refine cRet ?_) | (refine cExit ?_) | (refine W_reg rfl ?_) | (refine W_block ?_) | (refine W_ret ?_) | (refine W_skip ?_) | (refine W_exit ?_) | (refine bNorm ?_) | (refine bRet ?_) | (refine bExit ?_) | (refine bExitN rfl ?_)
          | (refine xMask ?_) | (refine xT ?_) | (refine xF ?_) | (refine xRet ?_) | (refine xNorm ?_)
          | (refine wSplit _ rfl (by (first | (simp only [go_sem, *]; (first | done | exact rfl)) | rfl)) ?_ ?_ <;> intro hb <;> (try simp only [beq_false, beq_true, Bool.not_true, Bool.not_false, Bool.not_eq_true', Bool.not_eq_false', decide_eq_false_iff_not, decide_eq_true_eq, bne_iff_ne, beq_iff_eq, Bool.true_eq, Bool.false_eq, Bool.not_not, Bool.and_eq_true, Bool.or_eq_true, Bool.bne_true, Bool.bne_false, bne_eq_false_iff_eq, beq_eq_false_iff_ne, ne_eq] at hb))
          | (refine W_cond _ (by (first | (simp only [go_sem, *]; (first | done | exact rfl)) | rfl)) ?_ ?_ <;> intro hb <;> (try simp only [beq_false, beq_true, Bool.not_true, Bool.not_false, Bool.not_eq_true', Bool.not_eq_false', decide_eq_false_iff_not, decide_eq_true_eq, bne_iff_ne, beq_iff_eq, Bool.true_eq, Bool.false_eq, Bool.not_not, Bool.and_eq_true, Bool.or_eq_true, Bool.bne_true, Bool.bne_false, bne_eq_false_iff_eq, beq_eq_false_iff_ne, ne_eq] at hb)))
        all_goals exact ⟨m'', by omega, j + 1, x2, b2, hmj, rfl, f7, hbx, hr, by simp only [keep, List.contains_cons, List.contains_nil, Nat.reduceBEq, Bool.or_true, Bool.true_or, Bool.or_false, Bool.false_or, if_true, if_false, Bool.false_eq_true, beq_self_eq_true, Nat.zero_add, Nat.reduceAdd, eq_self]⟩
    · have d2 : ¬ (j : Int) < 8 := by omega
      obtain rfl : m' = 0 := by omega
      have hc2 : c = rr 8 c0 b.toNat := hr.symm
      rw [← e1] at hc2
      subst hc2
      clear hr e1
      repeat' (first
        | (refine wNil ?_) | (refine xPure ?_)
        | (refine xMk ?_; intro id hid; (try simp only [set_none_iff] at hid); refine mkDo ?_)
        | (refine xChk ?_) | (refine xChkF ?_) | (refine xSkip ?_)
        | (refine cSeq ?_) | (refine cNorm ?_) | (refine cRet ?_) | (refine cExit ?_) | (refine W_reg rfl ?_) | (refine W_block ?_) | (refine W_ret ?_) | (refine W_skip ?_) | (refine W_exit ?_) | (refine bNorm ?_) | (refine bRet ?_) | (refine bExit ?_) | (refine bExitN rfl ?_)
        | (refine xMask ?_) | (refine xT ?_) | (refine xF ?_) | (refine xRet ?_) | (refine xNorm ?_)
        | (refine wSplit _ rfl (by (first | (simp only [go_sem, *]; (first | done | exact rfl)) | rfl)) ?_ ?_ <;> intro hb <;> (try simp only [beq_false, beq_true, Bool.not_true, Bool.not_false, Bool.not_eq_true', Bool.not_eq_false', decide_eq_false_iff_not, decide_eq_true_eq, bne_iff_ne, beq_iff_eq, Bool.true_eq, Bool.false_eq, Bool.not_not, Bool.and_eq_true, Bool.or_eq_true, Bool.bne_true, Bool.bne_false, bne_eq_false_iff_eq, beq_eq_false_iff_ne, ne_eq] at hb))
        | (refine W_cond _ (by (first | (simp only [go_sem, *]; (first | done | exact rfl)) | rfl)) ?_ ?_ <;> intro hb <;> (try simp only [beq_false, beq_true, Bool.not_true, Bool.not_false, Bool.not_eq_true', Bool.not_eq_false', decide_eq_false_iff_not, decide_eq_true_eq, bne_iff_ne, beq_iff_eq, Bool.true_eq, Bool.false_eq, Bool.not_not, Bool.and_eq_true, Bool.or_eq_true, Bool.bne_true, Bool.bne_false, bne_eq_false_iff_eq, beq_eq_false_iff_ne, ne_eq] at hb)))
      all_goals exact ⟨m - 1, by omega, k + 1, by omega, rfl, by simp only [keep, List.contains_cons, List.contains_nil, Nat.reduceBEq, Bool.or_true, Bool.true_or, Bool.or_false, Bool.false_or, if_true, if_false, Bool.false_eq_true, beq_self_eq_true, Nat.zero_add, Nat.reduceAdd, eq_self]⟩
  · have d1 : ¬ (k : Int) < (l.length : Int) := by omega
    rw [List.take_of_length_le (by omega)]
    have hc := cr_lt l 4294967295 (by decide)
    have w9 : IntKind.u32.wrap (4294967295 - ((cr 4294967295 l : Nat) : Int)) = smF l := by rw [smF_cr, wrapU32 (by omega) (by omega)]; omega
    repeat' (first
      | (refine wNil ?_) | (refine xPure ?_)
      | (refine xMk ?_; intro id hid; (try simp only [set_none_iff] at hid); refine mkDo ?_)
      | (refine xChk ?_) | (refine xChkF ?_) | (refine xSkip ?_)
      | (refine cSeq ?_) | (refine cNorm ?_) | (refine cRet ?_) | (refine cExit ?_) | (refine W_reg rfl ?_) | (refine W_block ?_) | (refine W_ret ?_) | (refine W_skip ?_) | (refine W_exit ?_) | (refine bNorm ?_) | (refine bRet ?_) | (refine bExit ?_) | (refine bExitN rfl ?_)
      | (refine xMask ?_) | (refine xT ?_) | (refine xF ?_) | (refine xRet ?_) | (refine xNorm ?_)
      | (refine wSplit _ rfl (by (first | (simp only [go_sem, *]; (first | done | exact rfl)) | rfl)) ?_ ?_ <;> intro hb <;> (try simp only [beq_false, beq_true, Bool.not_true, Bool.not_false, Bool.not_eq_true', Bool.not_eq_false', decide_eq_false_iff_not, decide_eq_true_eq, bne_iff_ne, beq_iff_eq, Bool.true_eq, Bool.false_eq, Bool.not_not, Bool.and_eq_true, Bool.or_eq_true, Bool.bne_true, Bool.bne_false, bne_eq_false_iff_eq, beq_eq_false_iff_ne, ne_eq] at hb))
      | (refine W_cond _ (by (first | (simp only [go_sem, *]; (first | done | exact rfl)) | rfl)) ?_ ?_ <;> intro hb <;> (try simp only [beq_false, beq_true, Bool.not_true, Bool.not_false, Bool.not_eq_true', Bool.not_eq_false', decide_eq_false_iff_not, decide_eq_true_eq, bne_iff_ne, beq_iff_eq, Bool.true_eq, Bool.false_eq, Bool.not_not, Bool.and_eq_true, Bool.or_eq_true, Bool.bne_true, Bool.bne_false, bne_eq_false_iff_eq, beq_eq_false_iff_ne, ne_eq] at hb)))
    all_goals exact ⟨rfl, rfl⟩
/-- the document's Frame -/
theorem sp75 (k : Nat) (l : List UInt8) (h : AH) (hk : k ≤ 255) (hl : l.length ≤ 1048576) : Sp T 75 [.int .u8 k, .str (bs l)] h (fun r h' => r = .str (bs (fr k l)) ∧ Up h h') := by
  have hu0 := Up.refl h
  have a5 : (UInt8.ofNat k).toNat = k := by simp; omega
  have a6 : abytes [.int .u8 (k : Int)] = some [UInt8.ofNat k] := by
    show (abytes []).map (UInt8.ofNat ((k : Int)).toNat :: ·) = _
    simp [abytes]
  have a7 : IntKind.u32.wrap (l.length : Int) = (l.length : Int) := wrapU32 (by omega) (by omega)
  have a8 : ¬ IntKind.i64.max < (((1 : Nat) + 3 : Nat) : Int) := by decide
  have a9 : ¬ IntKind.i64.max < (((fb k l).length + 4 : Nat) : Int) := big_no (by rw [fb_len]; omega)
  have a10 : ¬ IntKind.i64.max < ((3 + 1 + l.length : Nat) : Int) := big_no (by omega)
  have e1 : [UInt8.ofNat k] ++ be l.length 3 ++ l = fb k l := by simp [fb]
  have e2 := sm_nat (fb k l)
  have e4 : UInt8.ofNat k :: (be l.length 3 ++ l) = fb k l := rfl
  have a11 : ¬ IntKind.i64.max < ((l.length + 4 + 4 : Nat) : Int) := big_no (by omega)
  have a12 : fb k l ++ be (smF (fb k l)).toNat 4 = fr k l := rfl
  have e3 := fb_len k l
  have e5 : (smF (fb k l)).toNat < 4294967296 := by have := xr_rng 4294967295 ((fb k l).foldl mo 4294967295); unfold smF; omega
  refine Sp_of (fn := f75) rfl (show W T b75 [.int .u8 k, .str (bs l), .tup [], .tup [], .tup [], .tup [], .tup [], .tup [], .tup [], .tup [], .tup [], .tup [], .tup [], .tup [], .tup [], .tup [], .tup [], .tup [], .tup [], .tup [], .tup []] _ _ from ?_)
  unfold b75
  repeat' (first
    | (refine wNil ?_)
    | (refine wPure rfl (by (first | (simp only [go_sem, Int.le_refl, gt_iff_lt, *]; (first | done | exact rfl)) | rfl)) rfl (by (first | (simp only [go_sem, Int.le_refl, gt_iff_lt, *]; (first | done | exact rfl)) | rfl)) ?_; dsimp only [putT, ev, Int.toNat_zero, Nat.sub_zero, Int.toNat_natCast,  gd_zero, gd_succ, Nat.zero_add, Nat.add_zero, Nat.reduceAdd, Nat.reduceMul, List.set_cons_zero, List.set_cons_succ, keep, List.contains_cons, List.contains_nil])
    | (refine wMk rfl (by (first | (simp only [go_sem, Int.le_refl, gt_iff_lt, *]; (first | done | exact rfl)) | rfl)) rfl ?_; intro id hid; (try simp only [set_none_iff] at hid); have hz := hid; (repeat (replace hz := hz.2)); (try have := Up.none hu0 hz); refine ⟨_, (by (first | (simp only [go_sem, Int.le_refl, gt_iff_lt, *]; (first | done | exact rfl)) | rfl)), ?_⟩; dsimp only [putT, ev, Int.toNat_zero, Nat.sub_zero, Int.toNat_natCast,  gd_zero, gd_succ, Nat.zero_add, Nat.add_zero, Nat.reduceAdd, Nat.reduceMul, List.set_cons_zero, List.set_cons_succ, keep, List.contains_cons, List.contains_nil])
    | (refine wChk rfl (by (first | (simp only [go_sem, Int.le_refl, gt_iff_lt, *]; (first | done | exact rfl)) | rfl)) rfl (by (first | (simp only [go_sem, Int.le_refl, gt_iff_lt, *]; (first | done | exact rfl)) | rfl)) rfl ?_) | (refine wChkF rfl (by (first | (simp only [go_sem, Int.le_refl, gt_iff_lt, *]; (first | done | exact rfl)) | rfl)) rfl ?_)
    | (refine wSkip rfl (by (first | (simp only [go_sem, Int.le_refl, gt_iff_lt, *]; (first | done | exact rfl)) | rfl)) ?_; dsimp only [putT, ev, Int.toNat_zero, Nat.sub_zero, Int.toNat_natCast,  gd_zero, gd_succ, Nat.zero_add, Nat.add_zero, Nat.reduceAdd, Nat.reduceMul, List.set_cons_zero, List.set_cons_succ, keep, List.contains_cons, List.contains_nil])
    | (refine xCall rfl rfl (sp86 l.length 3 _ (by omega) (by decide)) ?_; rintro v h2 ⟨rfl, hu2⟩; refine nTm ?_)
    | (refine xCall rfl rfl (sp87 (fb k l) _ (by omega)) ?_; rintro v h3 ⟨rfl, hx⟩; cases hx; rw [← e2]; refine nTm ?_)
    | (refine xCall rfl rfl (sp86 (smF (fb k l)).toNat 4 _ e5 (by decide)) ?_; rintro v h4 ⟨rfl, hu4⟩; refine nTm ?_)
    | (refine cSeq ?_) | (refine cNorm ?_) | (refine cRet ?_) | (refine cExit ?_) | (refine W_reg rfl ?_) | (refine W_block ?_) | (refine W_ret ?_) | (refine W_skip ?_) | (refine W_exit ?_) | (refine bNorm ?_) | (refine bRet ?_) | (refine bExit ?_) | (refine bExitN rfl ?_)
    | (refine cMask' (by simp only [keep, List.contains_cons, List.contains_nil, Nat.reduceBEq, Bool.or_true, Bool.true_or, Bool.or_false, Bool.false_or, if_true, if_false, Bool.false_eq_true, beq_self_eq_true, Nat.zero_add, Nat.reduceAdd, eq_self]; exact rfl) ?_)
    | (refine cT (by (first | (simp only [go_sem, Int.le_refl, gt_iff_lt, *]; (first | done | exact rfl)) | rfl)) ?_) | (refine cF (by (first | (simp only [go_sem, Int.le_refl, gt_iff_lt, *]; (first | done | exact rfl)) | rfl)) ?_)
    | (refine rRet (by (first | (simp only [go_sem, Int.le_refl, gt_iff_lt, *]; (first | done | exact rfl)) | rfl)) ?_) | (refine rNorm (by (first | (simp only [go_sem, Int.le_refl, gt_iff_lt, *]; (first | done | exact rfl)) | rfl)) ?_)
    | (refine wSplit _ rfl (by (first | (simp only [go_sem, Int.le_refl, gt_iff_lt, *]; (first | done | exact rfl)) | rfl)) ?_ ?_ <;> intro hb <;> (try simp only [beq_false, beq_true, Bool.not_true, Bool.not_false, Bool.not_eq_true', Bool.not_eq_false', decide_eq_false_iff_not, decide_eq_true_eq, bne_iff_ne, beq_iff_eq, Bool.true_eq, Bool.false_eq, Bool.not_not, Bool.and_eq_true, Bool.or_eq_true, Bool.bne_true, Bool.bne_false, bne_eq_false_iff_eq, beq_eq_false_iff_ne, ne_eq] at hb))
    | (refine W_cond _ (by (first | (simp only [go_sem, Int.le_refl, gt_iff_lt, *]; (first | done | exact rfl)) | rfl)) ?_ ?_ <;> intro hb <;> (try simp only [beq_false, beq_true, Bool.not_true, Bool.not_false, Bool.not_eq_true', Bool.not_eq_false', decide_eq_false_iff_not, decide_eq_true_eq, bne_iff_ne, beq_iff_eq, Bool.true_eq, Bool.false_eq, Bool.not_not, Bool.and_eq_true, Bool.or_eq_true, Bool.bne_true, Bool.bne_false, bne_eq_false_iff_eq, beq_eq_false_iff_ne, ne_eq] at hb)))
  all_goals exact ⟨rfl, fun x b e => hu4 x b (by have e2 := hu2 x b e; rw [set_ne (nei e2 hid)]; exact e2)⟩
end Go.Proofs.YtgekngfnhhdamaaI
set_option linter.unusedVariables false
set_option linter.unusedSimpArgs false
set_option maxRecDepth 100000
set_option maxHeartbeats 4000000
namespace Go.Proofs.YtgekngfnhhdamaaI
open Go Go.Proofs.YtgekngfnhhdamaaM
attribute [local go_sem] aop ev fg_slc fg_slk fg_ptr fg_bool fg_int fg_str fg_iface fg_func fg_agg fg_tup fg_nils fg_nilp fg_nilI fg_nilF fg_und aboundsK alen_nils alen_slc alen_slk aslice_nils aslice_slc aslice_slk awanted abin aun aint aeqn aeqc aeqs apart abounds abnd amaxi amaxiGo cells_agg cells_slc cells_slk cells_ptr cells_bool cells_int cells_str cells_iface cells_func cells_tup cells_nils cells_nilp cells_nilI cells_nilF cells_und sc_slc sc_slk sc_ptr sc_bool sc_int sc_str sc_iface sc_func sc_nils sc_nilp sc_nilI sc_nilF gd_zero gd_succ List.all_cons List.all_nil Bool.and_self Bool.and_true Bool.true_and List.length_cons List.length_nil Option.map_some Option.some.injEq cell_same cell_ne cell_ne' cellsAt_same cellsAt_ne cellsAt_ne' put_same put_of set_same set_ne set_ne' List.getElem?_cons_zero List.getElem?_cons_succ if_true if_false and_self and_true true_and ne_eq not_true_eq_false not_false_eq_true decide_true decide_false Bool.false_eq_true Bool.true_eq_false beq_self_eq_true bne_self_eq_false beq_true beq_false Bool.not_true Bool.not_false List.map_cons List.map_nil putL List.set_cons_zero List.set_cons_succ afill Nat.zero_le Nat.le_refl Nat.zero_add Nat.add_zero List.drop_zero List.drop_succ_cons List.take_zero List.take_succ_cons Bool.not_eq_true Bool.not_eq_false decide_eq_true_eq decide_eq_false_iff_not Int.toNat_zero Nat.sub_zero Int.toNat_natCast Bool.bne_true Bool.bne_false AH.cell AH.cellsAt AH.put Nat.mul_one Nat.one_mul Int.natCast_nonneg List.length_set bs_append bs_size bs_toList bs_extract bs_get List.append_nil Nat.sub_zero bne_self_eq_false beq_self_eq_true azeros Int.le_refl
/-- the document's ballot's Put -/
theorem sp36 (C : Nat) (n : Int) (h : AH) (hC : C ≤ 18446744073709551615) (hn : n ≤ 9223372036854775807) : Sp T 36 [.agg [.int .u64 C, .int .i64 n]] h (fun r h' => r = .str (bs (encU C ++ encN n)) ∧ Up h h') := by
  have a1 : ¬ IntKind.i64.max < (((encU C).length + (encN n).length : Nat) : Int) := by
    have h1 := encU_length C
    have h2 : (encN n).length ≤ 9 := encU_length n.toNat
    have e : IntKind.i64.max = 9223372036854775807 := by decide
    rw [e]; omega
  refine Sp_of (fn := f36) rfl (show W T b36 [.agg [.int .u64 C, .int .i64 n], .tup [], .tup [], .tup [], .tup [], .tup [], .tup [], .tup [], .tup [], .tup []] _ _ from ?_)
  unfold b36
  repeat' (first
    | (refine wNil ?_) | (refine xPure ?_)
    | (refine xMk ?_; intro id hid; (try simp only [set_none_iff] at hid); refine mkDo ?_)
    | (refine xChk ?_) | (refine xChkF ?_) | (refine xSkip ?_)
    | (refine xCall rfl rfl (sp57 C _ hC) ?_; rintro v j2 ⟨rfl, hu2⟩; have hb : j2 id = some ⟨true, [.int .u64 C, .int .i64 n]⟩ := (by first | exact hu2 _ _ set_same | exact hu2 _ _ hb); have HU : Up h j2 := (by first | exact fun z b e => hu2 z b (by rw [set_ne (nei e hid)]; exact e) | exact fun z b e => hu2 z b (HU z b e)); refine nTm ?_)
    | (refine xCall rfl rfl (sp58 n _ hn) ?_; rintro v j3 ⟨rfl, hu3⟩; have hb : j3 id = some ⟨true, [.int .u64 C, .int .i64 n]⟩ := (by first | exact hu3 _ _ set_same | exact hu3 _ _ hb); have HU : Up h j3 := (by first | exact fun z b e => hu3 z b (by rw [set_ne (nei e hid)]; exact e) | exact fun z b e => hu3 z b (HU z b e)); refine nTm ?_)
    | (refine cSeq ?_) | (refine cNorm ?_) | (refine cRet ?_) | (refine cExit ?_) | (refine W_reg rfl ?_) | (refine W_block ?_) | (refine W_ret ?_) | (refine W_skip ?_) | (refine W_exit ?_) | (refine bNorm ?_) | (refine bRet ?_) | (refine bExit ?_) | (refine bExitN rfl ?_)
    | (refine xMask ?_) | (refine xT ?_) | (refine xF ?_) | (refine xRet ?_) | (refine xNorm ?_)
    | (refine wSplit _ rfl (by (first | (simp only [go_sem, *]; (first | done | exact rfl)) | rfl)) ?_ ?_ <;> intro hb <;> (try simp only [beq_false, beq_true, Bool.not_true, Bool.not_false, Bool.not_eq_true', Bool.not_eq_false', decide_eq_false_iff_not, decide_eq_true_eq, bne_iff_ne, beq_iff_eq, Bool.true_eq, Bool.false_eq, Bool.not_not, Bool.and_eq_true, Bool.or_eq_true, Bool.bne_true, Bool.bne_false, bne_eq_false_iff_eq, beq_eq_false_iff_ne, ne_eq] at hb))
    | (refine W_cond _ (by (first | (simp only [go_sem, *]; (first | done | exact rfl)) | rfl)) ?_ ?_ <;> intro hb <;> (try simp only [beq_false, beq_true, Bool.not_true, Bool.not_false, Bool.not_eq_true', Bool.not_eq_false', decide_eq_false_iff_not, decide_eq_true_eq, bne_iff_ne, beq_iff_eq, Bool.true_eq, Bool.false_eq, Bool.not_not, Bool.and_eq_true, Bool.or_eq_true, Bool.bne_true, Bool.bne_false, bne_eq_false_iff_eq, beq_eq_false_iff_ne, ne_eq] at hb)))
  all_goals exact ⟨rfl, HU⟩
end Go.Proofs.YtgekngfnhhdamaaI
set_option linter.unusedVariables false
set_option linter.unusedSimpArgs false
set_option maxRecDepth 100000
set_option maxHeartbeats 4000000
namespace Go.Proofs.YtgekngfnhhdamaaI
open Go Go.Proofs.YtgekngfnhhdamaaM
attribute [local go_sem] aop ev fg_slc fg_slk fg_ptr fg_bool fg_int fg_str fg_iface fg_func fg_agg fg_tup fg_nils fg_nilp fg_nilI fg_nilF fg_und aboundsK alen_nils alen_slc alen_slk aslice_nils aslice_slc aslice_slk awanted abin aun aint aeqn aeqc aeqs apart abounds abnd amaxi amaxiGo cells_agg cells_slc cells_slk cells_ptr cells_bool cells_int cells_str cells_iface cells_func cells_tup cells_nils cells_nilp cells_nilI cells_nilF cells_und sc_slc sc_slk sc_ptr sc_bool sc_int sc_str sc_iface sc_func sc_nils sc_nilp sc_nilI sc_nilF gd_zero gd_succ List.all_cons List.all_nil Bool.and_self Bool.and_true Bool.true_and List.length_cons List.length_nil Option.map_some Option.some.injEq cell_same cell_ne cell_ne' cellsAt_same cellsAt_ne cellsAt_ne' put_same put_of set_same set_ne set_ne' List.getElem?_cons_zero List.getElem?_cons_succ if_true if_false and_self and_true true_and ne_eq not_true_eq_false not_false_eq_true decide_true decide_false Bool.false_eq_true Bool.true_eq_false beq_self_eq_true bne_self_eq_false beq_true beq_false Bool.not_true Bool.not_false List.map_cons List.map_nil putL List.set_cons_zero List.set_cons_succ afill Nat.zero_le Nat.le_refl Nat.zero_add Nat.add_zero List.drop_zero List.drop_succ_cons List.take_zero List.take_succ_cons Bool.not_eq_true Bool.not_eq_false decide_eq_true_eq decide_eq_false_iff_not Int.toNat_zero Nat.sub_zero Int.toNat_natCast Bool.bne_true Bool.bne_false AH.cell AH.cellsAt AH.put Nat.mul_one Nat.one_mul Int.natCast_nonneg List.length_set bs_append bs_size bs_toList bs_extract bs_get List.append_nil Nat.sub_zero bne_self_eq_false beq_self_eq_true azeros Int.le_refl
def enE (y : En) : List UInt8 := encN y.1 ++ (encU y.2.1 ++ encN y.2.2.1) ++ encS y.2.2.2
def okE (y : En) : Prop := y.1 ≤ 9223372036854775807 ∧ y.2.1 ≤ 18446744073709551615 ∧ y.2.2.1 ≤ 9223372036854775807 ∧ y.2.2.2.length ≤ 1000
theorem encS_len (s : List UInt8) : (encS s).length ≤ 9 + s.length := by
  have a := encU_length ((s.length : Int).toNat)
  have e : (encS s).length = (encN (s.length : Int)).length + s.length := by show (encN _ ++ _).length = _; rw [List.length_append]
  have f : (encN (s.length : Int)).length ≤ 9 := a
  omega
theorem enE_len {y : En} (h : okE y) : (enE y).length ≤ 1036 := by
  have a := encU_length y.1.toNat
  have b := encU_length y.2.1
  have c := encU_length y.2.2.1.toNat
  have d := encS_len y.2.2.2
  have e := h.2.2.2
  have f : (encN y.1).length ≤ 9 := a
  have i : (encN y.2.2.1).length ≤ 9 := c
  unfold enE
  rw [List.length_append, List.length_append, List.length_append]; omega
theorem enL_len {L : List En} (h : ∀ y ∈ L, okE y) : (L.flatMap enE).length ≤ 1036 * L.length := by
  induction L with
  | nil => simp
  | cons y L ih =>
    have a := enE_len (h y (by simp))
    have b := ih (fun z hz => h z (by simp [hz]))
    rw [List.flatMap_cons, List.length_append, List.length_cons]; omega
def hdI (k2 k3 k4 : Int) (C : Nat) (n1 s1 s2 : Int) (ok : Bool) (x : List UInt8) (n : Nat) : List UInt8 := ((((((((encN k2 ++ encN k3) ++ encN k4) ++ (encU C ++ encN n1)) ++ encN s1) ++ encN s2) ++ encB ok) ++ encS x) ++ encN (n : Int))
def inI (k2 k3 k4 : Int) (C : Nat) (n1 s1 s2 : Int) (ok : Bool) (x : List UInt8) (L : List En) : List UInt8 := hdI k2 k3 k4 C n1 s1 s2 ok x L.length ++ L.flatMap enE
theorem mx : IntKind.i64.max = 9223372036854775807 := by decide
/-- Inside -/
theorem sp76g (k1 k2 k3 k4 : Int) (C : Nat) (n1 s1 s2 : Int) (ok : Bool) (x : List UInt8) (S : AV) (L : List En) (h : AH) (hS : Lg h S L) (hl : L.length ≤ 1000) (hx : x.length ≤ 1048576) (b1 : k2 ≤ 9223372036854775807) (b2 : k3 ≤ 9223372036854775807) (b3 : k4 ≤ 9223372036854775807) (bC : C ≤ 18446744073709551615) (b4 : n1 ≤ 9223372036854775807) (b5 : s1 ≤ 9223372036854775807) (b6 : s2 ≤ 9223372036854775807) (hL : ∀ y ∈ L, okE y) :
    Sp T 76 [.agg [.int .i64 k1, .int .i64 k2, .int .i64 k3, .int .i64 k4, .int .u64 (C : Int), .int .i64 n1, .int .i64 s1, .int .i64 s2, .bool ok, .str (bs x), S]] h (fun v h' => v = .str (bs (inI k2 k3 k4 C n1 s1 s2 ok x L)) ∧ Up h h') := by
  have b7 : (L.length : Int) ≤ 9223372036854775807 := by omega
  have hSl := hS.len
  have hSc := hS.sc.2
  have l1 : (encN k2).length ≤ 9 := encU_length k2.toNat
  have l2 : (encN k3).length ≤ 9 := encU_length k3.toNat
  have l3 : (encN k4).length ≤ 9 := encU_length k4.toNat
  have l4 : (encN s1).length ≤ 9 := encU_length s1.toNat
  have l5 : (encN s2).length ≤ 9 := encU_length s2.toNat
  have l6 : (encN (L.length : Int)).length ≤ 9 := encU_length (L.length : Int).toNat
  have l7 := encS_len x
  have l8 : (encB ok).length = 1 := rfl
  have l9 := enL_len hL
  obtain ⟨EB, hEB⟩ : ∃ EB, encU C ++ encN n1 = EB := ⟨_, rfl⟩
  have l10 : EB.length ≤ 18 := by
    have a := encU_length C
    have b : (encN n1).length ≤ 9 := encU_length n1.toNat
    rw [← hEB, List.length_append]; omega
  have f0 : ¬ IntKind.i64.max < (((encN k2).length + (encN k3).length : Nat) : Int) := by rw [mx]; (try simp only [List.length_append]); omega
  have f1 : ¬ IntKind.i64.max < ((((encN k2 ++ encN k3)).length + (encN k4).length : Nat) : Int) := by rw [mx]; (try simp only [List.length_append]); omega
  have f2 : ¬ IntKind.i64.max < (((((encN k2 ++ encN k3) ++ encN k4)).length + (EB).length : Nat) : Int) := by rw [mx]; (try simp only [List.length_append]); omega
  have f3 : ¬ IntKind.i64.max < ((((((encN k2 ++ encN k3) ++ encN k4) ++ EB)).length + (encN s1).length : Nat) : Int) := by rw [mx]; (try simp only [List.length_append]); omega
  have f4 : ¬ IntKind.i64.max < (((((((encN k2 ++ encN k3) ++ encN k4) ++ EB) ++ encN s1)).length + (encN s2).length : Nat) : Int) := by rw [mx]; (try simp only [List.length_append]); omega
  have f5 : ¬ IntKind.i64.max < ((((((((encN k2 ++ encN k3) ++ encN k4) ++ EB) ++ encN s1) ++ encN s2)).length + (encB ok).length : Nat) : Int) := by rw [mx]; (try simp only [List.length_append]); omega
  have f6 : ¬ IntKind.i64.max < (((((((((encN k2 ++ encN k3) ++ encN k4) ++ EB) ++ encN s1) ++ encN s2) ++ encB ok)).length + (encS x).length : Nat) : Int) := by rw [mx]; (try simp only [List.length_append]); omega
  have f7 : ¬ IntKind.i64.max < ((((((((((encN k2 ++ encN k3) ++ encN k4) ++ EB) ++ encN s1) ++ encN s2) ++ encB ok) ++ encS x)).length + (encN (L.length : Int)).length : Nat) : Int) := by rw [mx]; (try simp only [List.length_append]); omega
  have HU0 := Up.refl h
  have hHD : ((((((((encN k2 ++ encN k3) ++ encN k4) ++ EB) ++ encN s1) ++ encN s2) ++ encB ok) ++ encS x) ++ encN (L.length : Int)) = hdI k2 k3 k4 C n1 s1 s2 ok x L.length := by rw [← hEB]; rfl
  have hHl : (hdI k2 k3 k4 C n1 s1 s2 ok x L.length).length ≤ 2000000 := by rw [← hHD]; simp only [List.length_append]; omega
  have hSh := hS
  clear l1 l2 l3 l4 l5 l6 l7 l8 l10
  refine Sp_of (fn := f76) rfl (show W T b76 [.agg [.int .i64 k1, .int .i64 k2, .int .i64 k3, .int .i64 k4, .int .u64 (C : Int), .int .i64 n1, .int .i64 s1, .int .i64 s2, .bool ok, .str (bs x), S], .tup [], .tup [], .tup [], .tup [], .tup [], .tup [], .tup [], .tup [], .tup [], .tup [], .tup [], .tup [], .tup [], .tup [], .tup [], .tup [], .tup [], .tup [], .tup [], .tup [], .tup [], .tup [], .tup [], .tup [], .tup [], .tup [], .tup [], .tup [], .tup [], .tup [], .tup [], .tup [], .tup [], .tup [], .tup [], .tup [], .tup [], .tup [], .tup [], .tup [], .tup [], .tup [], .tup [], .tup [], .tup [], .tup [], .tup [], .tup [], .tup [], .tup [], .tup [], .tup [], .tup [], .tup [], .tup [], .tup [], .tup [], .tup [], .tup [], .tup [], .tup [], .tup [], .tup []] _ _ from ?_)
  unfold b76
  repeat' (first
    | (refine wNil ?_) | (refine xPure ?_)
    | (refine xMk ?_; intro id hid; (try simp only [set_none_iff] at hid); refine mkDo ?_)
    | (refine xChk ?_) | (refine xChkF ?_) | (refine xSkip ?_)
    | (refine xCall rfl rfl (sp58 k2 _ b1) ?_; rintro v j1 ⟨rfl, hu1⟩; have hb : j1 id = some ⟨true, [.int .i64 k1, .int .i64 k2, .int .i64 k3, .int .i64 k4, .int .u64 (C : Int), .int .i64 n1, .int .i64 s1, .int .i64 s2, .bool ok, .str (bs x), S]⟩ := (by first | exact hu1 _ _ set_same | exact hu1 _ _ hb); have HU : Up h j1 := (by first | exact fun z b e => hu1 z b (by simp only [set_ne (nei (HU0 z b e) hid)]; exact HU0 z b e) | exact fun z b e => hu1 z b (HU z b e)); refine nTm ?_)
    | (refine xCall rfl rfl (sp58 k3 _ b2) ?_; rintro v j2 ⟨rfl, hu2⟩; have hb : j2 id = some ⟨true, [.int .i64 k1, .int .i64 k2, .int .i64 k3, .int .i64 k4, .int .u64 (C : Int), .int .i64 n1, .int .i64 s1, .int .i64 s2, .bool ok, .str (bs x), S]⟩ := (by first | exact hu2 _ _ set_same | exact hu2 _ _ hb); have HU : Up h j2 := (by first | exact fun z b e => hu2 z b (by simp only [set_ne (nei (HU0 z b e) hid)]; exact HU0 z b e) | exact fun z b e => hu2 z b (HU z b e)); refine nTm ?_)
    | (refine xCall rfl rfl (sp58 k4 _ b3) ?_; rintro v j3 ⟨rfl, hu3⟩; have hb : j3 id = some ⟨true, [.int .i64 k1, .int .i64 k2, .int .i64 k3, .int .i64 k4, .int .u64 (C : Int), .int .i64 n1, .int .i64 s1, .int .i64 s2, .bool ok, .str (bs x), S]⟩ := (by first | exact hu3 _ _ set_same | exact hu3 _ _ hb); have HU : Up h j3 := (by first | exact fun z b e => hu3 z b (by simp only [set_ne (nei (HU0 z b e) hid)]; exact HU0 z b e) | exact fun z b e => hu3 z b (HU z b e)); refine nTm ?_)
    | (refine xCall rfl rfl (sp36 C n1 _ bC b4) ?_; rintro v j4 ⟨rfl, hu4⟩; have hb : j4 id = some ⟨true, [.int .i64 k1, .int .i64 k2, .int .i64 k3, .int .i64 k4, .int .u64 (C : Int), .int .i64 n1, .int .i64 s1, .int .i64 s2, .bool ok, .str (bs x), S]⟩ := (by first | exact hu4 _ _ set_same | exact hu4 _ _ hb); have HU : Up h j4 := (by first | exact fun z b e => hu4 z b (by simp only [set_ne (nei (HU0 z b e) hid)]; exact HU0 z b e) | exact fun z b e => hu4 z b (HU z b e)); rw [hEB]; refine nTm ?_)
    | (refine xCall rfl rfl (sp58 s1 _ b5) ?_; rintro v j5 ⟨rfl, hu5⟩; have hb : j5 id = some ⟨true, [.int .i64 k1, .int .i64 k2, .int .i64 k3, .int .i64 k4, .int .u64 (C : Int), .int .i64 n1, .int .i64 s1, .int .i64 s2, .bool ok, .str (bs x), S]⟩ := (by first | exact hu5 _ _ set_same | exact hu5 _ _ hb); have HU : Up h j5 := (by first | exact fun z b e => hu5 z b (by simp only [set_ne (nei (HU0 z b e) hid)]; exact HU0 z b e) | exact fun z b e => hu5 z b (HU z b e)); refine nTm ?_)
    | (refine xCall rfl rfl (sp58 s2 _ b6) ?_; rintro v j6 ⟨rfl, hu6⟩; have hb : j6 id = some ⟨true, [.int .i64 k1, .int .i64 k2, .int .i64 k3, .int .i64 k4, .int .u64 (C : Int), .int .i64 n1, .int .i64 s1, .int .i64 s2, .bool ok, .str (bs x), S]⟩ := (by first | exact hu6 _ _ set_same | exact hu6 _ _ hb); have HU : Up h j6 := (by first | exact fun z b e => hu6 z b (by simp only [set_ne (nei (HU0 z b e) hid)]; exact HU0 z b e) | exact fun z b e => hu6 z b (HU z b e)); refine nTm ?_)
    | (refine xCall rfl rfl (sp59 ok _) ?_; rintro v j7 ⟨rfl, hx⟩; cases hx; refine nTm ?_)
    | (refine xCall rfl rfl (sp60 x _ (by omega)) ?_; rintro v j8 ⟨rfl, hu8⟩; have hb : j8 id = some ⟨true, [.int .i64 k1, .int .i64 k2, .int .i64 k3, .int .i64 k4, .int .u64 (C : Int), .int .i64 n1, .int .i64 s1, .int .i64 s2, .bool ok, .str (bs x), S]⟩ := (by first | exact hu8 _ _ set_same | exact hu8 _ _ hb); have HU : Up h j8 := (by first | exact fun z b e => hu8 z b (by simp only [set_ne (nei (HU0 z b e) hid)]; exact HU0 z b e) | exact fun z b e => hu8 z b (HU z b e)); refine nTm ?_)
    | (refine xCall rfl rfl (sp58 (L.length : Int) _ b7) ?_; rintro v j9 ⟨rfl, hu9⟩; have hb : j9 id = some ⟨true, [.int .i64 k1, .int .i64 k2, .int .i64 k3, .int .i64 k4, .int .u64 (C : Int), .int .i64 n1, .int .i64 s1, .int .i64 s2, .bool ok, .str (bs x), S]⟩ := (by first | exact hu9 _ _ set_same | exact hu9 _ _ hb); have HU : Up h j9 := (by first | exact fun z b e => hu9 z b (by simp only [set_ne (nei (HU0 z b e) hid)]; exact HU0 z b e) | exact fun z b e => hu9 z b (HU z b e)); refine nTm ?_)
    | (refine cSeq ?_) | (refine cNorm ?_) | (refine cRet ?_) | (refine cExit ?_) | (refine W_reg rfl ?_) | (refine W_block ?_) | (refine W_ret ?_) | (refine W_skip ?_) | (refine W_exit ?_) | (refine bNorm ?_) | (refine bRet ?_) | (refine bExit ?_) | (refine bExitN rfl ?_)
    | (refine xMask ?_) | (refine xT ?_) | (refine xF ?_) | (refine xRet ?_) | (refine xNorm ?_)
    | (refine wSplit _ rfl (by (first | (simp only [go_sem, *]; (first | done | exact rfl)) | rfl)) ?_ ?_ <;> intro hb <;> (try simp only [beq_false, beq_true, Bool.not_true, Bool.not_false, Bool.not_eq_true', Bool.not_eq_false', decide_eq_false_iff_not, decide_eq_true_eq, bne_iff_ne, beq_iff_eq, Bool.true_eq, Bool.false_eq, Bool.not_not, Bool.and_eq_true, Bool.or_eq_true, Bool.bne_true, Bool.bne_false, bne_eq_false_iff_eq, beq_eq_false_iff_ne, ne_eq] at hb))
    | (refine W_cond _ (by (first | (simp only [go_sem, *]; (first | done | exact rfl)) | rfl)) ?_ ?_ <;> intro hb <;> (try simp only [beq_false, beq_true, Bool.not_true, Bool.not_false, Bool.not_eq_true', Bool.not_eq_false', decide_eq_false_iff_not, decide_eq_true_eq, bne_iff_ne, beq_iff_eq, Bool.true_eq, Bool.false_eq, Bool.not_not, Bool.and_eq_true, Bool.or_eq_true, Bool.bne_true, Bool.bne_false, bne_eq_false_iff_eq, beq_eq_false_iff_ne, ne_eq] at hb)))
  refine W_loop (fun m tm g' => ∃ k : Nat, k + m = L.length ∧ Up h g' ∧ keep [3, 43, 44, 45] 0 tm = [.und, .und, .und, .str (bs (hdI k2 k3 k4 C n1 s1 s2 ok x L.length ++ (L.take k).flatMap enE)), .und, .und, .und, .und, .und, .und, .und, .und, .und, .und, .und, .und, .und, .und, .und, .und, .und, .und, .und, .und, .und, .und, .und, .und, .und, .und, .und, .und, .und, .und, .und, .und, .und, .und, .und, .und, .und, .und, .und, S, .int .i64 (L.length : Int), .int .i64 (k : Int), .und, .und, .und, .und, .und, .und, .und, .und, .und, .und, .und, .und, .und, .und, .und, .und, .und, .und]) L.length ⟨0, by omega, HU, by simp only [List.take_zero, List.flatMap_nil, List.append_nil]; rfl⟩ ?_
  clear HU hb f0 f1 f2 f3 f4 f5 f6 f7 hHD HU0
  rintro m tm g' ⟨k, hk, HU0, htm⟩
  refine cSeq (cMask (cNorm ?_))
  rw [htm]; clear htm
  by_cases hkl : k < L.length
  · have d1 : (k : Int) < (L.length : Int) := by omega
    have d2 : (0 : Int) ≤ (k : Int) := by omega
    have w1 : IntKind.i64.wrap ((k : Int) + 1) = ((k + 1 : Nat) : Int) := by rw [wrap64 (by omega) (by omega)]; rfl
    obtain ⟨⟨y1, y2, y3, y4⟩, hy⟩ : ∃ y, L[k]? = some y := ⟨_, List.getElem?_eq_getElem hkl⟩
    obtain ⟨c1, c2, c3, c4⟩ := hL _ (List.mem_of_getElem? hy)
    simp only at c1 c2 c3 c4
    have htk : (L.take (k + 1)).flatMap enE = (L.take k).flatMap enE ++ enE (y1, y2, y3, y4) := by rw [List.take_add_one, hy, List.flatMap_append]; simp
    have hPl := enL_len (L := L.take k) (fun z hz => hL z (List.mem_of_mem_take hz))
    rcases hS with ⟨rfl, rfl⟩ | ⟨iL, ow, rest, hfg, hLL⟩
    · simp at hkl
    have hLg := HU0 _ _ hLL
    obtain ⟨g1, g2⟩ := flat_get eMz hy rest
    simp only [eM] at g2
    obtain ⟨EY, hEY⟩ : ∃ EY, encU y2 ++ encN y3 = EY := ⟨_, rfl⟩
    have l1 : (encN y1).length ≤ 9 := encU_length y1.toNat
    have l2 : EY.length ≤ 18 := by
      have a := encU_length y2
      have b : (encN y3).length ≤ 9 := encU_length y3.toNat
      rw [← hEY, List.length_append]; omega
    have l3 := encS_len y4
    have hnew : hdI k2 k3 k4 C n1 s1 s2 ok x L.length ++ (L.take (k + 1)).flatMap enE = (hdI k2 k3 k4 C n1 s1 s2 ok x L.length ++ (L.take k).flatMap enE) ++ (encN y1 ++ EY ++ encS y4) := by rw [htk, ← List.append_assoc, ← hEY]; rfl
    have hlk : (L.take k).length ≤ 1000 := by rw [List.length_take]; omega
    have q1 : ¬ IntKind.i64.max < (((encN y1).length + EY.length : Nat) : Int) := by rw [mx]; omega
    have q2 : ¬ IntKind.i64.max < (((encN y1 ++ EY).length + (encS y4).length : Nat) : Int) := by rw [mx, List.length_append]; omega
    have q3 : ¬ IntKind.i64.max < (((hdI k2 k3 k4 C n1 s1 s2 ok x L.length ++ (L.take k).flatMap enE).length + (encN y1 ++ EY ++ encS y4).length : Nat) : Int) := by rw [mx]; simp only [List.length_append]; omega
    obtain ⟨P, hP⟩ : ∃ P, hdI k2 k3 k4 C n1 s1 s2 ok x L.length ++ (L.take k).flatMap enE = P := ⟨_, rfl⟩
    rw [hP] at q3 hnew ⊢
    clear hP htk hPl l1 l2 l3 hlk hy hLL
    repeat' (first
      | (refine wNil ?_) | (refine xPure ?_)
      | (refine xMk ?_; intro id hid; (try simp only [set_none_iff] at hid); have hz := hid; (repeat (replace hz := hz.2)); (try have := nei hLg hz); refine mkDo ?_)
      | (refine xChk ?_) | (refine xChkF ?_) | (refine xSkip ?_)
      | (refine xCall rfl rfl (sp58 y1 _ c1) ?_; rintro v j1 ⟨rfl, hu1⟩; have hb : j1 id = some ⟨true, [.int .i64 y1, .int .u64 (y2 : Int), .int .i64 y3, .str (bs y4)]⟩ := (by first | exact hu1 _ _ set_same | exact hu1 _ _ hb); have HU : Up h j1 := (by first | exact fun z b e => hu1 z b (by simp only [set_ne (nei (HU0 z b e) hid)]; exact HU0 z b e) | exact fun z b e => hu1 z b (HU z b e)); refine nTm ?_)
      | (refine xCall rfl rfl (sp36 y2 y3 _ c2 c3) ?_; rintro v j2 ⟨rfl, hu2⟩; have hb : j2 id = some ⟨true, [.int .i64 y1, .int .u64 (y2 : Int), .int .i64 y3, .str (bs y4)]⟩ := (by first | exact hu2 _ _ set_same | exact hu2 _ _ hb); have HU : Up h j2 := (by first | exact fun z b e => hu2 z b (by simp only [set_ne (nei (HU0 z b e) hid)]; exact HU0 z b e) | exact fun z b e => hu2 z b (HU z b e)); rw [hEY]; refine nTm ?_)
      | (refine xCall rfl rfl (sp60 y4 _ (by omega)) ?_; rintro v j3 ⟨rfl, hu3⟩; have hb : j3 id = some ⟨true, [.int .i64 y1, .int .u64 (y2 : Int), .int .i64 y3, .str (bs y4)]⟩ := (by first | exact hu3 _ _ set_same | exact hu3 _ _ hb); have HU : Up h j3 := (by first | exact fun z b e => hu3 z b (by simp only [set_ne (nei (HU0 z b e) hid)]; exact HU0 z b e) | exact fun z b e => hu3 z b (HU z b e)); refine nTm ?_)
      | (refine cSeq ?_) | (refine cNorm ?_) | (refine cRet ?_) | (refine cExit ?_) | (refine W_reg rfl ?_) | (refine W_block ?_) | (refine W_ret ?_) | (refine W_skip ?_) | (refine W_exit ?_) | (refine bNorm ?_) | (refine bRet ?_) | (refine bExit ?_) | (refine bExitN rfl ?_)
      | (refine xMask ?_) | (refine xT ?_) | (refine xF ?_) | (refine xRet ?_) | (refine xNorm ?_)
      | (refine wSplit _ rfl (by (first | (simp only [go_sem, *]; (first | done | exact rfl)) | rfl)) ?_ ?_ <;> intro hb <;> (try simp only [beq_false, beq_true, Bool.not_true, Bool.not_false, Bool.not_eq_true', Bool.not_eq_false', decide_eq_false_iff_not, decide_eq_true_eq, bne_iff_ne, beq_iff_eq, Bool.true_eq, Bool.false_eq, Bool.not_not, Bool.and_eq_true, Bool.or_eq_true, Bool.bne_true, Bool.bne_false, bne_eq_false_iff_eq, beq_eq_false_iff_ne, ne_eq] at hb))
      | (refine W_cond _ (by (first | (simp only [go_sem, *]; (first | done | exact rfl)) | rfl)) ?_ ?_ <;> intro hb <;> (try simp only [beq_false, beq_true, Bool.not_true, Bool.not_false, Bool.not_eq_true', Bool.not_eq_false', decide_eq_false_iff_not, decide_eq_true_eq, bne_iff_ne, beq_iff_eq, Bool.true_eq, Bool.false_eq, Bool.not_not, Bool.and_eq_true, Bool.or_eq_true, Bool.bne_true, Bool.bne_false, bne_eq_false_iff_eq, beq_eq_false_iff_ne, ne_eq] at hb)))
    all_goals exact ⟨m - 1, by omega, k + 1, by omega, HU, by rw [hnew]; simp only [keep, List.contains_cons, List.contains_nil, Nat.reduceBEq, Bool.or_true, Bool.true_or, Bool.or_false, Bool.false_or, if_true, if_false, Bool.false_eq_true, beq_self_eq_true, Nat.zero_add, Nat.reduceAdd, eq_self]⟩
  · have d1 : ¬ (k : Int) < (L.length : Int) := by omega
    rw [List.take_of_length_le (by omega)]
    repeat' (first
      | (refine wNil ?_) | (refine xPure ?_)
      | (refine xMk ?_; intro id hid; (try simp only [set_none_iff] at hid); refine mkDo ?_)
      | (refine xChk ?_) | (refine xChkF ?_) | (refine xSkip ?_)
      | (refine cSeq ?_) | (refine cNorm ?_) | (refine cRet ?_) | (refine cExit ?_) | (refine W_reg rfl ?_) | (refine W_block ?_) | (refine W_ret ?_) | (refine W_skip ?_) | (refine W_exit ?_) | (refine bNorm ?_) | (refine bRet ?_) | (refine bExit ?_) | (refine bExitN rfl ?_)
      | (refine xMask ?_) | (refine xT ?_) | (refine xF ?_) | (refine xRet ?_) | (refine xNorm ?_)
      | (refine wSplit _ rfl (by (first | (simp only [go_sem, *]; (first | done | exact rfl)) | rfl)) ?_ ?_ <;> intro hb <;> (try simp only [beq_false, beq_true, Bool.not_true, Bool.not_false, Bool.not_eq_true', Bool.not_eq_false', decide_eq_false_iff_not, decide_eq_true_eq, bne_iff_ne, beq_iff_eq, Bool.true_eq, Bool.false_eq, Bool.not_not, Bool.and_eq_true, Bool.or_eq_true, Bool.bne_true, Bool.bne_false, bne_eq_false_iff_eq, beq_eq_false_iff_ne, ne_eq] at hb))
      | (refine W_cond _ (by (first | (simp only [go_sem, *]; (first | done | exact rfl)) | rfl)) ?_ ?_ <;> intro hb <;> (try simp only [beq_false, beq_true, Bool.not_true, Bool.not_false, Bool.not_eq_true', Bool.not_eq_false', decide_eq_false_iff_not, decide_eq_true_eq, bne_iff_ne, beq_iff_eq, Bool.true_eq, Bool.false_eq, Bool.not_not, Bool.and_eq_true, Bool.or_eq_true, Bool.bne_true, Bool.bne_false, bne_eq_false_iff_eq, beq_eq_false_iff_ne, ne_eq] at hb)))
    all_goals exact ⟨rfl, HU0⟩
end Go.Proofs.YtgekngfnhhdamaaI
set_option linter.unusedVariables false
set_option linter.unusedSimpArgs false
set_option maxRecDepth 100000
set_option maxHeartbeats 4000000
namespace Go.Proofs.YtgekngfnhhdamaaI
open Go Go.Proofs.YtgekngfnhhdamaaM
attribute [local go_sem] aop ev fg_slc fg_slk fg_ptr fg_bool fg_int fg_str fg_iface fg_func fg_agg fg_tup fg_nils fg_nilp fg_nilI fg_nilF fg_und aboundsK alen_nils alen_slc alen_slk aslice_nils aslice_slc aslice_slk awanted abin aun aint aeqn aeqc aeqs apart abounds abnd amaxi amaxiGo cells_agg cells_slc cells_slk cells_ptr cells_bool cells_int cells_str cells_iface cells_func cells_tup cells_nils cells_nilp cells_nilI cells_nilF cells_und sc_slc sc_slk sc_ptr sc_bool sc_int sc_str sc_iface sc_func sc_nils sc_nilp sc_nilI sc_nilF gd_zero gd_succ List.all_cons List.all_nil Bool.and_self Bool.and_true Bool.true_and List.length_cons List.length_nil Option.map_some Option.some.injEq cell_same cell_ne cell_ne' cellsAt_same cellsAt_ne cellsAt_ne' put_same put_of set_same set_ne set_ne' List.getElem?_cons_zero List.getElem?_cons_succ if_true if_false and_self and_true true_and ne_eq not_true_eq_false not_false_eq_true decide_true decide_false Bool.false_eq_true Bool.true_eq_false beq_self_eq_true bne_self_eq_false beq_true beq_false Bool.not_true Bool.not_false List.map_cons List.map_nil putL List.set_cons_zero List.set_cons_succ afill Nat.zero_le Nat.le_refl Nat.zero_add Nat.add_zero List.drop_zero List.drop_succ_cons List.take_zero List.take_succ_cons Bool.not_eq_true Bool.not_eq_false decide_eq_true_eq decide_eq_false_iff_not Int.toNat_zero Nat.sub_zero Int.toNat_natCast Bool.bne_true Bool.bne_false AH.cell AH.cellsAt AH.put Nat.mul_one Nat.one_mul Int.natCast_nonneg List.length_set bs_append bs_size bs_toList bs_extract bs_get List.append_nil Nat.sub_zero bne_self_eq_false beq_self_eq_true azeros Int.le_refl
end Go.Proofs.YtgekngfnhhdamaaI
set_option linter.unusedVariables false
set_option linter.unusedSimpArgs false
set_option maxRecDepth 100000
set_option maxHeartbeats 4000000
namespace Go.Proofs.YtgekngfnhhdamaaI
open Go Go.Proofs.YtgekngfnhhdamaaM
attribute [local go_sem] aop ev fg_slc fg_slk fg_ptr fg_bool fg_int fg_str fg_iface fg_func fg_agg fg_tup fg_nils fg_nilp fg_nilI fg_nilF fg_und aboundsK alen_nils alen_slc alen_slk aslice_nils aslice_slc aslice_slk awanted abin aun aint aeqn aeqc aeqs apart abounds abnd amaxi amaxiGo cells_agg cells_slc cells_slk cells_ptr cells_bool cells_int cells_str cells_iface cells_func cells_tup cells_nils cells_nilp cells_nilI cells_nilF cells_und sc_slc sc_slk sc_ptr sc_bool sc_int sc_str sc_iface sc_func sc_nils sc_nilp sc_nilI sc_nilF gd_zero gd_succ List.all_cons List.all_nil Bool.and_self Bool.and_true Bool.true_and List.length_cons List.length_nil Option.map_some Option.some.injEq cell_same cell_ne cell_ne' cellsAt_same cellsAt_ne cellsAt_ne' put_same put_of set_same set_ne set_ne' List.getElem?_cons_zero List.getElem?_cons_succ if_true if_false and_self and_true true_and ne_eq not_true_eq_false not_false_eq_true decide_true decide_false Bool.false_eq_true Bool.true_eq_false beq_self_eq_true bne_self_eq_false beq_true beq_false Bool.not_true Bool.not_false List.map_cons List.map_nil putL List.set_cons_zero List.set_cons_succ afill Nat.zero_le Nat.le_refl Nat.zero_add Nat.add_zero List.drop_zero List.drop_succ_cons List.take_zero List.take_succ_cons Bool.not_eq_true Bool.not_eq_false decide_eq_true_eq decide_eq_false_iff_not Int.toNat_zero Nat.sub_zero Int.toNat_natCast Bool.bne_true Bool.bne_false AH.cell AH.cellsAt AH.put Nat.mul_one Nat.one_mul Int.natCast_nonneg List.length_set bs_append bs_size bs_toList bs_extract bs_get List.append_nil Nat.sub_zero bne_self_eq_false beq_self_eq_true azeros Int.le_refl
end Go.Proofs.YtgekngfnhhdamaaI
set_option linter.unusedVariables false
set_option linter.unusedSimpArgs false
set_option maxRecDepth 100000
set_option maxHeartbeats 4000000
namespace Go.Proofs.YtgekngfnhhdamaaI
open Go Go.Proofs.YtgekngfnhhdamaaM
attribute [local go_sem] aop ev fg_slc fg_slk fg_ptr fg_bool fg_int fg_str fg_iface fg_func fg_agg fg_tup fg_nils fg_nilp fg_nilI fg_nilF fg_und aboundsK alen_nils alen_slc alen_slk aslice_nils aslice_slc aslice_slk awanted abin aun aint aeqn aeqc aeqs apart abounds abnd amaxi amaxiGo cells_agg cells_slc cells_slk cells_ptr cells_bool cells_int cells_str cells_iface cells_func cells_tup cells_nils cells_nilp cells_nilI cells_nilF cells_und sc_slc sc_slk sc_ptr sc_bool sc_int sc_str sc_iface sc_func sc_nils sc_nilp sc_nilI sc_nilF gd_zero gd_succ List.all_cons List.all_nil Bool.and_self Bool.and_true Bool.true_and List.length_cons List.length_nil Option.map_some Option.some.injEq cell_same cell_ne cell_ne' cellsAt_same cellsAt_ne cellsAt_ne' put_same put_of set_same set_ne set_ne' List.getElem?_cons_zero List.getElem?_cons_succ if_true if_false and_self and_true true_and ne_eq not_true_eq_false not_false_eq_true decide_true decide_false Bool.false_eq_true Bool.true_eq_false beq_self_eq_true bne_self_eq_false beq_true beq_false Bool.not_true Bool.not_false List.map_cons List.map_nil putL List.set_cons_zero List.set_cons_succ afill Nat.zero_le Nat.le_refl Nat.zero_add Nat.add_zero List.drop_zero List.drop_succ_cons List.take_zero List.take_succ_cons Bool.not_eq_true Bool.not_eq_false decide_eq_true_eq decide_eq_false_iff_not Int.toNat_zero Nat.sub_zero Int.toNat_natCast Bool.bne_true Bool.bne_false AH.cell AH.cellsAt AH.put Nat.mul_one Nat.one_mul Int.natCast_nonneg List.length_set bs_append bs_size bs_toList bs_extract bs_get List.append_nil Nat.sub_zero bne_self_eq_false beq_self_eq_true azeros Int.le_refl
/-- Put -/
theorem sp35 (h0 : AH) (w : List Nat) (l : List UInt8) (C : Nat) (n : Int) (h : AH) (hw : Wr h0 w h l) (hl : l.length ≤ 1000000000) (hn : n ≤ 9223372036854775807) : Sp T 35 [.agg [.int .u64 C, .int .i64 n], .ptr w 0] h (fun r h' => Wr h0 w h' (l ++ encU C ++ encN n)) := by
  have b1 := encU_length C
  have b2 : (encN n).length ≤ 9 := encU_length n.toNat
  have gb : ∀ v ∈ [n], v ≤ 9223372036854775807 := by simp; omega
  refine Sp_of (fn := f35) rfl (show W T b35 [.agg [.int .u64 C, .int .i64 n], .ptr w 0, .tup [], .tup [], .tup [], .tup [], .tup [], .tup [], .tup [], .tup [], .tup [], .tup [], .tup []] _ _ from ?_)
  unfold b35
  repeat' (first
    | (refine wNil ?_) | (refine xPure ?_)
    | (refine xMk ?_; intro id hid; (try simp only [set_none_iff] at hid); have hz := hid; (repeat (replace hz := hz.2)); (try have := nei g1 hz); refine mkDo ?_)
    | (refine xChk ?_) | (refine xChkF ?_) | (refine xSkip ?_)
    | (refine xCall rfl rfl (sp30 ((h0.set _ (some ⟨true, _⟩)).set id (some ⟨true, [C].map fun (v : Nat) => AV.int .u64 (v : Int)⟩)) w id true l [C] _ (Wr.new (hw.new (by assumption)) (by simp only [set_none_iff]; assumption)) set_same (by simp only [List.flatMap_cons, List.flatMap_nil, List.append_nil, List.length_append]; omega) (by simp)) ?_; rintro r h2 ⟨rfl, hW2⟩; have hw2 := Wr.drop hW2 (by rw [set_ne hid.1]; exact hw.1.no hid.2); have g1 := hw2.get set_same; simp only [List.flatMap_cons, List.flatMap_nil, List.append_nil] at hw2; refine nTm ?_)
    | (refine xCall rfl rfl (sp40 ((h0.set _ (some ⟨true, _⟩)).set id (some ⟨true, [n].map fun (v : Int) => AV.int .i64 v⟩)) w id true _ [n] _ (hw2.new hid) set_same gb (by simp only [List.flatMap_cons, List.flatMap_nil, List.append_nil, List.length_append]; omega) (by simp)) ?_; rintro r h3 ⟨rfl, hW3⟩; have hw3 := Wr.drop hW3 (hw2.1.no hid); simp only [List.flatMap_cons, List.flatMap_nil, List.append_nil] at hw3; refine nTm ?_)
    | (refine cSeq ?_) | (refine cNorm ?_) | (refine cRet ?_) | (refine cExit ?_) | (refine W_reg rfl ?_) | (refine W_block ?_) | (refine W_ret ?_) | (refine W_skip ?_) | (refine W_exit ?_) | (refine bNorm ?_) | (refine bRet ?_) | (refine bExit ?_) | (refine bExitN rfl ?_)
    | (refine xMask ?_) | (refine xT ?_) | (refine xF ?_) | (refine xRet ?_) | (refine xNorm ?_)
    | (refine wSplit _ rfl (by (first | (simp only [go_sem, *]; (first | done | exact rfl)) | rfl)) ?_ ?_ <;> intro hb <;> (try simp only [beq_false, beq_true, Bool.not_true, Bool.not_false, Bool.not_eq_true', Bool.not_eq_false', decide_eq_false_iff_not, decide_eq_true_eq, bne_iff_ne, beq_iff_eq, Bool.true_eq, Bool.false_eq, Bool.not_not, Bool.and_eq_true, Bool.or_eq_true, Bool.bne_true, Bool.bne_false, bne_eq_false_iff_eq, beq_eq_false_iff_ne, ne_eq] at hb))
    | (refine W_cond _ (by (first | (simp only [go_sem, *]; (first | done | exact rfl)) | rfl)) ?_ ?_ <;> intro hb <;> (try simp only [beq_false, beq_true, Bool.not_true, Bool.not_false, Bool.not_eq_true', Bool.not_eq_false', decide_eq_false_iff_not, decide_eq_true_eq, bne_iff_ne, beq_iff_eq, Bool.true_eq, Bool.false_eq, Bool.not_not, Bool.and_eq_true, Bool.or_eq_true, Bool.bne_true, Bool.bne_false, bne_eq_false_iff_eq, beq_eq_false_iff_ne, ne_eq] at hb)))
  all_goals exact Wr.drop hw3 (hw.1.no (by assumption))
theorem encB_length (b : Bool) : (encB b).length = 1 := by cases b <;> rfl
theorem hdI_len (k2 k3 k4 : Int) (C : Nat) (n1 s1 s2 : Int) (ok : Bool) (x : List UInt8) (n : Nat) : (hdI k2 k3 k4 C n1 s1 s2 ok x n).length ≤ 200 + x.length := by
  have l1 : (encN k2).length ≤ 9 := encU_length k2.toNat
  have l2 : (encN k3).length ≤ 9 := encU_length k3.toNat
  have l3 : (encN k4).length ≤ 9 := encU_length k4.toNat
  have l4 : (encN s1).length ≤ 9 := encU_length s1.toNat
  have l5 : (encN s2).length ≤ 9 := encU_length s2.toNat
  have l6 : (encN (n : Int)).length ≤ 9 := encU_length (n : Int).toNat
  have l7 := encS_len x
  have l8 := encB_length ok
  have l9 := encU_length C
  have l10 : (encN n1).length ≤ 9 := encU_length n1.toNat
  unfold hdI
  simp only [List.length_append]
  omega
theorem inI_len (k2 k3 k4 : Int) (C : Nat) (n1 s1 s2 : Int) (ok : Bool) (x : List UInt8) (L : List En) (hL : ∀ y ∈ L, okE y) : (inI k2 k3 k4 C n1 s1 s2 ok x L).length ≤ 200 + x.length + 1036 * L.length := by
  have a := hdI_len k2 k3 k4 C n1 s1 s2 ok x L.length
  have b := enL_len hL
  unfold inI
  rw [List.length_append]; omega
/-- the document's Bytes -/
theorem sp51g (k1 k2 k3 k4 : Int) (C : Nat) (n1 s1 s2 : Int) (ok : Bool) (x : List UInt8) (S : AV) (L : List En) (h : AH) (hS : Lg h S L) (hk : 0 ≤ k1 ∧ k1 ≤ 255) (hl : L.length ≤ 64) (hx : x.length ≤ 131072) (b1 : k2 ≤ 9223372036854775807) (b2 : k3 ≤ 9223372036854775807) (b3 : k4 ≤ 9223372036854775807) (bC : C ≤ 18446744073709551615) (b4 : n1 ≤ 9223372036854775807) (b5 : s1 ≤ 9223372036854775807) (b6 : s2 ≤ 9223372036854775807) (hL : ∀ y ∈ L, okE y) :
    Sp T 51 [.agg [.int .i64 k1, .int .i64 k2, .int .i64 k3, .int .i64 k4, .int .u64 (C : Int), .int .i64 n1, .int .i64 s1, .int .i64 s2, .bool ok, .str (bs x), S]] h (fun v h' => v = .str (bs (fr k1.toNat (inI k2 k3 k4 C n1 s1 s2 ok x L))) ∧ Up h h') := by
  have hu0 := Up.refl h
  have hSc := hS.sc.2
  have hi := inI_len k2 k3 k4 C n1 s1 s2 ok x L hL
  have w1 : IntKind.u8.wrap k1 = ((k1.toNat : Nat) : Int) := by rw [wrapU8]; omega
  refine Sp_of (fn := f51) rfl (show W T b51 [.agg [.int .i64 k1, .int .i64 k2, .int .i64 k3, .int .i64 k4, .int .u64 (C : Int), .int .i64 n1, .int .i64 s1, .int .i64 s2, .bool ok, .str (bs x), S], .tup [], .tup [], .tup [], .tup [], .tup [], .tup [], .tup [], .tup []] _ _ from ?_)
  unfold b51
  repeat' (first
    | (refine wNil ?_) | (refine xPure ?_)
    | (refine xMk ?_; intro id hid; (try simp only [set_none_iff] at hid); have hz := hid; (repeat (replace hz := hz.2)); (try have := Up.none hu0 hz); refine mkDo ?_)
    | (refine xChk ?_) | (refine xChkF ?_) | (refine xSkip ?_)
    | (refine xCall rfl rfl (sp76g k1 k2 k3 k4 C n1 s1 s2 ok x S L _ (hS.up (by repeat' (first | assumption | exact Up.refl _ | refine Up.new ?_ ?_))) (by omega) (by omega) b1 b2 b3 bC b4 b5 b6 hL) ?_; rintro v j1 ⟨rfl, hu1⟩; have hb := hu1 _ _ set_same; have HU1 : Up h j1 := Up.trans (show Up h _ from (by repeat' (first | assumption | exact Up.refl _ | refine Up.new ?_ ?_))) hu1; refine nTm ?_)
    | (refine xCall rfl rfl (sp75 k1.toNat (inI k2 k3 k4 C n1 s1 s2 ok x L) _ (by omega) (by omega)) ?_; rintro v j2 ⟨rfl, hu2⟩; have HU2 := HU1.trans hu2; refine nTm ?_)
    | (refine cSeq ?_) | (refine cNorm ?_) | (refine cRet ?_) | (refine cExit ?_) | (refine W_reg rfl ?_) | (refine W_block ?_) | (refine W_ret ?_) | (refine W_skip ?_) | (refine W_exit ?_) | (refine bNorm ?_) | (refine bRet ?_) | (refine bExit ?_) | (refine bExitN rfl ?_)
    | (refine xMask ?_) | (refine xT ?_) | (refine xF ?_) | (refine xRet ?_) | (refine xNorm ?_)
    | (refine wSplit _ rfl (by (first | (simp only [go_sem, *]; (first | done | exact rfl)) | rfl)) ?_ ?_ <;> intro hb <;> (try simp only [beq_false, beq_true, Bool.not_true, Bool.not_false, Bool.not_eq_true', Bool.not_eq_false', decide_eq_false_iff_not, decide_eq_true_eq, bne_iff_ne, beq_iff_eq, Bool.true_eq, Bool.false_eq, Bool.not_not, Bool.and_eq_true, Bool.or_eq_true, Bool.bne_true, Bool.bne_false, bne_eq_false_iff_eq, beq_eq_false_iff_ne, ne_eq] at hb))
    | (refine W_cond _ (by (first | (simp only [go_sem, *]; (first | done | exact rfl)) | rfl)) ?_ ?_ <;> intro hb <;> (try simp only [beq_false, beq_true, Bool.not_true, Bool.not_false, Bool.not_eq_true', Bool.not_eq_false', decide_eq_false_iff_not, decide_eq_true_eq, bne_iff_ne, beq_iff_eq, Bool.true_eq, Bool.false_eq, Bool.not_not, Bool.and_eq_true, Bool.or_eq_true, Bool.bne_true, Bool.bne_false, bne_eq_false_iff_eq, beq_eq_false_iff_ne, ne_eq] at hb)))
  all_goals exact ⟨rfl, HU2⟩
theorem sp51 (k1 k2 k3 k4 : Int) (C : Nat) (n1 s1 s2 : Int) (ok : Bool) (x : List UInt8) (S : AV) (L : List En) (h : AH) (hS : Le h S L) (hk : 0 ≤ k1 ∧ k1 ≤ 255) (hl : L.length ≤ 64) (hx : x.length ≤ 131072) (b1 : k2 ≤ 9223372036854775807) (b2 : k3 ≤ 9223372036854775807) (b3 : k4 ≤ 9223372036854775807) (bC : C ≤ 18446744073709551615) (b4 : n1 ≤ 9223372036854775807) (b5 : s1 ≤ 9223372036854775807) (b6 : s2 ≤ 9223372036854775807) (hL : ∀ y ∈ L, okE y) :
    Sp T 51 [.agg [.int .i64 k1, .int .i64 k2, .int .i64 k3, .int .i64 k4, .int .u64 (C : Int), .int .i64 n1, .int .i64 s1, .int .i64 s2, .bool ok, .str (bs x), S]] h (fun v h' => v = .str (bs (fr k1.toNat (inI k2 k3 k4 C n1 s1 s2 ok x L))) ∧ Up h h') := sp51g k1 k2 k3 k4 C n1 s1 s2 ok x S L h hS.lg hk hl hx b1 b2 b3 bC b4 b5 b6 hL
end Go.Proofs.YtgekngfnhhdamaaI
set_option linter.unusedVariables false
set_option linter.unusedSimpArgs false
set_option maxRecDepth 100000
set_option maxHeartbeats 4000000
namespace Go.Proofs.YtgekngfnhhdamaaI
open Go Go.Proofs.YtgekngfnhhdamaaM
attribute [local go_sem] aop ev fg_slc fg_slk fg_ptr fg_bool fg_int fg_str fg_iface fg_func fg_agg fg_tup fg_nils fg_nilp fg_nilI fg_nilF fg_und aboundsK alen_nils alen_slc alen_slk aslice_nils aslice_slc aslice_slk awanted abin aun aint aeqn aeqc aeqs apart abounds abnd amaxi amaxiGo cells_agg cells_slc cells_slk cells_ptr cells_bool cells_int cells_str cells_iface cells_func cells_tup cells_nils cells_nilp cells_nilI cells_nilF cells_und sc_slc sc_slk sc_ptr sc_bool sc_int sc_str sc_iface sc_func sc_nils sc_nilp sc_nilI sc_nilF gd_zero gd_succ List.all_cons List.all_nil Bool.and_self Bool.and_true Bool.true_and List.length_cons List.length_nil Option.map_some Option.some.injEq cell_same cell_ne cell_ne' cellsAt_same cellsAt_ne cellsAt_ne' put_same put_of set_same set_ne set_ne' List.getElem?_cons_zero List.getElem?_cons_succ if_true if_false and_self and_true true_and ne_eq not_true_eq_false not_false_eq_true decide_true decide_false Bool.false_eq_true Bool.true_eq_false beq_self_eq_true bne_self_eq_false beq_true beq_false Bool.not_true Bool.not_false List.map_cons List.map_nil putL List.set_cons_zero List.set_cons_succ afill Nat.zero_le Nat.le_refl Nat.zero_add Nat.add_zero List.drop_zero List.drop_succ_cons List.take_zero List.take_succ_cons Bool.not_eq_true Bool.not_eq_false decide_eq_true_eq decide_eq_false_iff_not Int.toNat_zero Nat.sub_zero Int.toNat_natCast Bool.bne_true Bool.bne_false AH.cell AH.cellsAt AH.put Nat.mul_one Nat.one_mul Int.natCast_nonneg List.length_set bs_append bs_size bs_toList bs_extract bs_get List.append_nil Nat.sub_zero bne_self_eq_false beq_self_eq_true azeros Int.le_refl
end Go.Proofs.YtgekngfnhhdamaaI
set_option linter.unusedVariables false
set_option linter.unusedSimpArgs false
set_option maxRecDepth 100000
set_option maxHeartbeats 4000000
namespace Go.Proofs.YtgekngfnhhdamaaI
open Go Go.Proofs.YtgekngfnhhdamaaM
attribute [local go_sem] aop ev fg_slc fg_slk fg_ptr fg_bool fg_int fg_str fg_iface fg_func fg_agg fg_tup fg_nils fg_nilp fg_nilI fg_nilF fg_und aboundsK alen_nils alen_slc alen_slk aslice_nils aslice_slc aslice_slk awanted abin aun aint aeqn aeqc aeqs apart abounds abnd amaxi amaxiGo cells_agg cells_slc cells_slk cells_ptr cells_bool cells_int cells_str cells_iface cells_func cells_tup cells_nils cells_nilp cells_nilI cells_nilF cells_und sc_slc sc_slk sc_ptr sc_bool sc_int sc_str sc_iface sc_func sc_nils sc_nilp sc_nilI sc_nilF gd_zero gd_succ List.all_cons List.all_nil Bool.and_self Bool.and_true Bool.true_and List.length_cons List.length_nil Option.map_some Option.some.injEq cell_same cell_ne cell_ne' cellsAt_same cellsAt_ne cellsAt_ne' put_same put_of set_same set_ne set_ne' List.getElem?_cons_zero List.getElem?_cons_succ if_true if_false and_self and_true true_and ne_eq not_true_eq_false not_false_eq_true decide_true decide_false Bool.false_eq_true Bool.true_eq_false beq_self_eq_true bne_self_eq_false beq_true beq_false Bool.not_true Bool.not_false List.map_cons List.map_nil putL List.set_cons_zero List.set_cons_succ afill Nat.zero_le Nat.le_refl Nat.zero_add Nat.add_zero List.drop_zero List.drop_succ_cons List.take_zero List.take_succ_cons Bool.not_eq_true Bool.not_eq_false decide_eq_true_eq decide_eq_false_iff_not Int.toNat_zero Nat.sub_zero Int.toNat_natCast Bool.bne_true Bool.bne_false AH.cell AH.cellsAt AH.put Nat.mul_one Nat.one_mul Int.natCast_nonneg List.length_set
end Go.Proofs.YtgekngfnhhdamaaI
set_option linter.unusedVariables false
set_option linter.unusedSimpArgs false
set_option maxRecDepth 100000
set_option maxHeartbeats 4000000
namespace Go.Proofs.YtgekngfnhhdamaaI
open Go Go.Proofs.YtgekngfnhhdamaaM
attribute [local go_sem] aop ev fg_slc fg_slk fg_ptr fg_bool fg_int fg_str fg_iface fg_func fg_agg fg_tup fg_nils fg_nilp fg_nilI fg_nilF fg_und aboundsK alen_nils alen_slc alen_slk aslice_nils aslice_slc aslice_slk awanted abin aun aint aeqn aeqc aeqs apart abounds abnd amaxi amaxiGo cells_agg cells_slc cells_slk cells_ptr cells_bool cells_int cells_str cells_iface cells_func cells_tup cells_nils cells_nilp cells_nilI cells_nilF cells_und sc_slc sc_slk sc_ptr sc_bool sc_int sc_str sc_iface sc_func sc_nils sc_nilp sc_nilI sc_nilF gd_zero gd_succ List.all_cons List.all_nil Bool.and_self Bool.and_true Bool.true_and List.length_cons List.length_nil Option.map_some Option.some.injEq cell_same cell_ne cell_ne' cellsAt_same cellsAt_ne cellsAt_ne' put_same put_of set_same set_ne set_ne' List.getElem?_cons_zero List.getElem?_cons_succ if_true if_false and_self and_true true_and ne_eq not_true_eq_false not_false_eq_true decide_true decide_false Bool.false_eq_true Bool.true_eq_false beq_self_eq_true bne_self_eq_false beq_true beq_false Bool.not_true Bool.not_false List.map_cons List.map_nil putL List.set_cons_zero List.set_cons_succ afill Nat.zero_le Nat.le_refl Nat.zero_add Nat.add_zero List.drop_zero List.drop_succ_cons List.take_zero List.take_succ_cons Bool.not_eq_true Bool.not_eq_false decide_eq_true_eq decide_eq_false_iff_not Int.toNat_zero Nat.sub_zero Int.toNat_natCast Bool.bne_true Bool.bne_false AH.cell AH.cellsAt AH.put Nat.mul_one Nat.one_mul Int.natCast_nonneg List.length_set bs_append bs_size bs_toList bs_extract bs_get List.append_nil Nat.sub_zero bne_self_eq_false beq_self_eq_true azeros Int.le_refl
theorem chk_zero (k1 k2 k3 k4 : Int) (C : Nat) (n1 s1 s2 : Int) (ok : Bool) (x : List UInt8) (L : List En) (h : chk k1 k2 k3 k4 C n1 s1 s2 x L = 0) : (1 ≤ k1 ∧ k1 ≤ 13) ∧ (0 ≤ k2 ∧ k2 ≤ 11) ∧ (0 ≤ k3 ∧ k3 ≤ 11) ∧ (0 ≤ k4 ∧ k4 ≤ 3) ∧ snd C n1 = true ∧ (0 ≤ s1 ∧ s1 ≤ 1099511627776) ∧ (0 ≤ s2 ∧ s2 ≤ 1099511627776) ∧ x.length ≤ 131072 ∧ L.length ≤ 64 ∧ ris (-1) L = true ∧ (∀ y ∈ L, p2 y = true) ∧ ∀ y ∈ L, y.2.2.2.length ≤ 400 := by
  unfold chk r1 r2 r3 r4 at h
  repeat' (split at h)
  all_goals first | (exfalso; revert h; decide) | skip
  simp_all [p4]
  assumption
end Go.Proofs.YtgekngfnhhdamaaI
set_option linter.unusedVariables false
set_option linter.unusedSimpArgs false
set_option maxRecDepth 100000
set_option maxHeartbeats 4000000
namespace Go.Proofs.YtgekngfnhhdamaaI
open Go Go.Proofs.YtgekngfnhhdamaaM
attribute [local go_sem] aop ev fg_slc fg_slk fg_ptr fg_bool fg_int fg_str fg_iface fg_func fg_agg fg_tup fg_nils fg_nilp fg_nilI fg_nilF fg_und aboundsK alen_nils alen_slc alen_slk aslice_nils aslice_slc aslice_slk awanted abin aun aint aeqn aeqc aeqs apart abounds abnd amaxi amaxiGo cells_agg cells_slc cells_slk cells_ptr cells_bool cells_int cells_str cells_iface cells_func cells_tup cells_nils cells_nilp cells_nilI cells_nilF cells_und sc_slc sc_slk sc_ptr sc_bool sc_int sc_str sc_iface sc_func sc_nils sc_nilp sc_nilI sc_nilF gd_zero gd_succ List.all_cons List.all_nil Bool.and_self Bool.and_true Bool.true_and List.length_cons List.length_nil Option.map_some Option.some.injEq cell_same cell_ne cell_ne' cellsAt_same cellsAt_ne cellsAt_ne' put_same put_of set_same set_ne set_ne' List.getElem?_cons_zero List.getElem?_cons_succ if_true if_false and_self and_true true_and ne_eq not_true_eq_false not_false_eq_true decide_true decide_false Bool.false_eq_true Bool.true_eq_false beq_self_eq_true bne_self_eq_false beq_true beq_false Bool.not_true Bool.not_false List.map_cons List.map_nil putL List.set_cons_zero List.set_cons_succ afill Nat.zero_le Nat.le_refl Nat.zero_add Nat.add_zero List.drop_zero List.drop_succ_cons List.take_zero List.take_succ_cons Bool.not_eq_true Bool.not_eq_false decide_eq_true_eq decide_eq_false_iff_not Int.toNat_zero Nat.sub_zero Int.toNat_natCast Bool.bne_true Bool.bne_false AH.cell AH.cellsAt AH.put Nat.mul_one Nat.one_mul Int.natCast_nonneg List.length_set bs_append bs_size bs_toList bs_extract bs_get List.append_nil Nat.sub_zero bne_self_eq_false beq_self_eq_true azeros Int.le_refl
theorem encT_bs (l : List UInt8) : encT (bs l) = encS l := by unfold encT; rfl
theorem Wr.new' {h0 h : AH} {p q : List Nat} {l : List UInt8} {a b : Option Blk} (hw : Wr h0 p h l) (hq : h q = none) : Wr (h0.set q b) p ((h.set q a).set q b) l := by
  rw [set_set]; exact hw.new hq
def L50c : ICode := (.seq (.block 0 (.loop (.seq (.mask [1, 3, 45, 46, 47]) (.seq (.reg [(0, false)] r50_8)
 (.seq (.cond (.t 48) .skip
 (.exit 0))
 (.seq (.seq (.block 1 (.seq (.reg [(0, false), (1, false), (2, false), (3, false)] r50_9)
 (.seq (.reg [(0, false), (1, false), (2, false), (3, false), (4, false)] r50_10)
 (.seq (.reg [(0, false), (1, false), (2, false), (3, false)] r50_11)
 (.reg [(0, false), (1, false), (2, false), (3, false), (4, false)] r50_12))))) (.mask [1, 3, 45, 46, 47]))
 (.reg [(0, false), (1, false)] r50_13))))))) (.mask [1, 3]))
def R50c : ICode := (.seq (.reg [(0, false), (1, false), (2, false), (3, false), (4, false), (1, true), (5, false), (6, false)] r50_14)
 .ret)
theorem tail50 (k1 k2 k3 k4 : Int) (C : Nat) (n1 s1 s2 : Int) (ok : Bool) (x : List UInt8) (S : AV) (L : List En) (h j1 g : AH) (b1 w : List Nat) (hS : Le h S L) (hk : 1 ≤ k1 ∧ k1 ≤ 13) (hl : L.length ≤ 64) (hx : x.length ≤ 131072) (hL : ∀ y ∈ L, okE y) (HU1 : Up h j1) (hb : j1 b1 = some ⟨true, [.int .i64 k1, .int .i64 k2, .int .i64 k3, .int .i64 k4, .int .u64 (C : Int), .int .i64 n1, .int .i64 s1, .int .i64 s2, .bool ok, .str (bs x), S]⟩) (hw : Wr j1 w g (hdI k2 k3 k4 C n1 s1 s2 ok x L.length))
    (tm : List AV) (htm : keep [1, 3, 45, 46, 47] 0 tm = [.und, .ptr b1 0, .und, .ptr w 0, .und, .und, .und, .und, .und, .und, .und, .und, .und, .und, .und, .und, .und, .und, .und, .und, .und, .und, .und, .und, .und, .und, .und, .und, .und, .und, .und, .und, .und, .und, .und, .und, .und, .und, .und, .und, .und, .und, .und, .und, .und, S, .int .i64 (L.length : Int), .int .i64 0, .und, .und, .und, .und, .und, .und, .und, .und, .und, .und, .und, .und, .und, .und, .und, .und, .und, .und, .und, .und, .und, .und, .und, .und]) :
    W T L50c tm g (Then (fun tm' h' => W T R50c tm' h' (Rets f50 fun v h' => v = .str (bs (fr k1.toNat (inI k2 k3 k4 C n1 s1 s2 ok x L))) ∧ Up h h')) (Rets f50 fun v h' => v = .str (bs (fr k1.toNat (inI k2 k3 k4 C n1 s1 s2 ok x L))) ∧ Up h h')) := by
  have hHl := hdI_len k2 k3 k4 C n1 s1 s2 ok x L.length
  have hInl := inI_len k2 k3 k4 C n1 s1 s2 ok x L hL
  have w0 : IntKind.u8.wrap k1 = ((k1.toNat : Nat) : Int) := by rw [wrapU8]; omega
  unfold L50c
  refine cSeq ?_
  refine W_block ?_
  refine W_loop (fun m tm g => ∃ k : Nat, k + m = L.length ∧ Wr j1 w g (hdI k2 k3 k4 C n1 s1 s2 ok x L.length ++ (L.take k).flatMap enE) ∧ keep [1, 3, 45, 46, 47] 0 tm = [.und, .ptr b1 0, .und, .ptr w 0, .und, .und, .und, .und, .und, .und, .und, .und, .und, .und, .und, .und, .und, .und, .und, .und, .und, .und, .und, .und, .und, .und, .und, .und, .und, .und, .und, .und, .und, .und, .und, .und, .und, .und, .und, .und, .und, .und, .und, .und, .und, S, .int .i64 (L.length : Int), .int .i64 (k : Int), .und, .und, .und, .und, .und, .und, .und, .und, .und, .und, .und, .und, .und, .und, .und, .und, .und, .und, .und, .und, .und, .und, .und, .und]) L.length ⟨0, by omega, by simpa using hw, htm⟩ ?_
  clear htm hw
  rintro m tm g ⟨k, hk, hw, htm⟩
  refine cSeq (cMask (cNorm ?_))
  rw [htm]; clear htm
  have hbg := hw.get hb
  by_cases hkl : k < L.length
  · have d1 : (k : Int) < (L.length : Int) := by omega
    have d2 : (0 : Int) ≤ (k : Int) := by omega
    have w1 : IntKind.i64.wrap ((k : Int) + 1) = ((k + 1 : Nat) : Int) := by rw [wrap64 (by omega) (by omega)]; rfl
    obtain ⟨⟨y1, y2, y3, y4⟩, hy⟩ : ∃ y, L[k]? = some y := ⟨_, List.getElem?_eq_getElem hkl⟩
    obtain ⟨c1, c2, c3, c4⟩ := hL _ (List.mem_of_getElem? hy)
    simp only at c1 c2 c3 c4
    have htk : (L.take (k + 1)).flatMap enE = (L.take k).flatMap enE ++ enE (y1, y2, y3, y4) := by rw [List.take_add_one, hy, List.flatMap_append]; simp
    have hPl := enL_len (L := L.take k) (fun z hz => hL z (List.mem_of_mem_take hz))
    have hlk : (L.take k).length ≤ 1000 := by rw [List.length_take]; omega
    rcases hS with ⟨rfl, rfl⟩ | ⟨iL, ow, rfl, hLL⟩
    · simp at hkl
    have hLj := HU1 _ _ hLL
    have hLg := hw.get hLj
    obtain ⟨g1, g2⟩ := flat_get eMz hy []
    rw [List.append_nil] at g1 g2
    simp only [eM] at g2
    have l1 : (encN y1).length ≤ 9 := encU_length y1.toNat
    have l2 := encU_length y2
    have l3 : (encN y3).length ≤ 9 := encU_length y3.toNat
    have l4 := encS_len y4
    rw [← encT_bs] at l4
    have gy1 : ∀ v ∈ [y1], v ≤ 9223372036854775807 := by simp; omega
    have hnew : (hdI k2 k3 k4 C n1 s1 s2 ok x L.length ++ (L.take (k + 1)).flatMap enE) = (hdI k2 k3 k4 C n1 s1 s2 ok x L.length ++ (L.take k).flatMap enE) ++ (encN y1 ++ (encU y2 ++ encN y3) ++ encS y4) := by rw [htk, ← List.append_assoc]; rfl
    have hPl2 : ((hdI k2 k3 k4 C n1 s1 s2 ok x L.length ++ (L.take k).flatMap enE)).length ≤ 2000000 := by rw [List.length_append]; omega
    obtain ⟨P, hP⟩ : ∃ P, (hdI k2 k3 k4 C n1 s1 s2 ok x L.length ++ (L.take k).flatMap enE) = P := ⟨_, rfl⟩
    rw [hP] at hnew hw hPl2
    clear hP htk hPl hlk hy hHl hInl hL c1 c2
    repeat' (first
      | (refine wNil ?_) | (refine xPure ?_)
      | (refine xMk ?_; intro id hid; (try simp only [set_none_iff] at hid); have hz := hid; (repeat (replace hz := hz.2)); (try have := nei hLg hz); (try have := nei hbA hz); (try have := nei hbB hz); refine mkDo ?_)
      | (refine xChk ?_) | (refine xChkF ?_) | (refine xSkip ?_)
      | (refine xCall rfl rfl (sp40 ((j1.set _ (some ⟨true, [.int .i64 y1, .int .u64 (y2 : Int), .int .i64 y3, .str (bs y4)]⟩)).set id (some ⟨true, [y1].map fun (v : Int) => AV.int .i64 v⟩)) _ id true _ [y1] _ (Wr.new (Wr.new' hw (by assumption)) (by simp only [set_none_iff]; assumption)) set_same gy1 (by simp only [List.flatMap_cons, List.flatMap_nil, List.append_nil, List.nil_append, List.length_append]; omega) (by simp)) ?_; rintro r gA ⟨rfl, hWn⟩; have hwA := Wr.drop hWn (by rw [set_ne hid.1]; exact hw.1.no (by first | exact hid.2.2 | exact hid.2)); clear hWn; simp only [List.flatMap_cons, List.flatMap_nil, List.append_nil, List.nil_append] at hwA; have hbA := hwA.get set_same; refine nTm ?_)
      | (refine xCall rfl rfl (sp35 (j1.set _ (some ⟨true, [.int .i64 y1, .int .u64 (y2 : Int), .int .i64 y3, .str (bs y4)]⟩)) _ _ y2 y3 _ hwA (by simp only [List.length_append]; omega) c3) ?_; rintro r gB hwB; have hbB := hwB.get set_same; refine nTm ?_)
      | (refine xCall rfl rfl (sp41 ((j1.set _ (some ⟨true, [.int .i64 y1, .int .u64 (y2 : Int), .int .i64 y3, .str (bs y4)]⟩)).set id (some ⟨true, [(bs y4)].map fun (v : ByteArray) => AV.str v⟩)) _ id true _ [(bs y4)] _ (hwB.new hid) set_same  (by simp only [List.flatMap_cons, List.flatMap_nil, List.append_nil, List.nil_append, List.length_append]; omega) (by simp)) ?_; rintro r gC ⟨rfl, hWn⟩; have hwC := Wr.drop hWn (hwB.1.no hid); clear hWn; simp only [List.flatMap_cons, List.flatMap_nil, List.append_nil, List.nil_append] at hwC; have hbC := hwC.get set_same; rw [encT_bs] at hwC; refine nTm ?_)
      | (refine cSeq ?_) | (refine cNorm ?_) | (refine cRet ?_) | (refine cExit ?_) | (refine W_reg rfl ?_) | (refine W_block ?_) | (refine W_ret ?_) | (refine W_skip ?_) | (refine W_exit ?_) | (refine bNorm ?_) | (refine bRet ?_) | (refine bExit ?_) | (refine bExitN rfl ?_)
      | (refine xMask ?_) | (refine xT ?_) | (refine xF ?_) | (refine xRet ?_) | (refine xNorm ?_)
      | (refine wSplit _ rfl (by (first | (simp only [go_sem, *]; (first | done | exact rfl)) | rfl)) ?_ ?_ <;> intro hb <;> (try simp only [beq_false, beq_true, Bool.not_true, Bool.not_false, Bool.not_eq_true', Bool.not_eq_false', decide_eq_false_iff_not, decide_eq_true_eq, bne_iff_ne, beq_iff_eq, Bool.true_eq, Bool.false_eq, Bool.not_not, Bool.and_eq_true, Bool.or_eq_true, Bool.bne_true, Bool.bne_false, bne_eq_false_iff_eq, beq_eq_false_iff_ne, ne_eq] at hb))
      | (refine W_cond _ (by (first | (simp only [go_sem, *]; (first | done | exact rfl)) | rfl)) ?_ ?_ <;> intro hb <;> (try simp only [beq_false, beq_true, Bool.not_true, Bool.not_false, Bool.not_eq_true', Bool.not_eq_false', decide_eq_false_iff_not, decide_eq_true_eq, bne_iff_ne, beq_iff_eq, Bool.true_eq, Bool.false_eq, Bool.not_not, Bool.and_eq_true, Bool.or_eq_true, Bool.bne_true, Bool.bne_false, bne_eq_false_iff_eq, beq_eq_false_iff_ne, ne_eq] at hb)))
    have hwZ := Wr.drop hwC (hw.1.no (by assumption))
    exact ⟨m - 1, by omega, k + 1, by omega, by rw [hnew]; simp only [List.append_assoc] at hwZ ⊢; exact hwZ, by simp only [keep, List.contains_cons, List.contains_nil, Nat.reduceBEq, Bool.or_true, Bool.true_or, Bool.or_false, Bool.false_or, if_true, if_false, Bool.false_eq_true, beq_self_eq_true, Nat.zero_add, Nat.reduceAdd, eq_self]⟩
  · have d1 : ¬ (k : Int) < (L.length : Int) := by omega
    rw [List.take_of_length_le (by omega)] at hw
    rw [show hdI k2 k3 k4 C n1 s1 s2 ok x L.length ++ L.flatMap enE = inI k2 k3 k4 C n1 s1 s2 ok x L from rfl] at hw
    unfold R50c
    repeat' (first
      | (refine wNil ?_) | (refine xPure ?_)
      | (refine xMk ?_; intro id hid; (try simp only [set_none_iff] at hid); refine mkDo ?_)
      | (refine xChk ?_) | (refine xChkF ?_) | (refine xSkip ?_)
      | (refine xCall rfl rfl (sp31 j1 _ _ _ hw) ?_; rintro r q6 ⟨rfl, hx⟩; cases hx; refine nTm ?_)
      | (refine xCall rfl rfl (sp39 k1.toNat (inI k2 k3 k4 C n1 s1 s2 ok x L) _ ⟨by omega, by omega⟩ (by omega)) ?_; rintro r g8 ⟨rfl, hu8⟩; refine nTm ?_)
      | (refine cSeq ?_) | (refine cNorm ?_) | (refine cRet ?_) | (refine cExit ?_) | (refine W_reg rfl ?_) | (refine W_block ?_) | (refine W_ret ?_) | (refine W_skip ?_) | (refine W_exit ?_) | (refine bNorm ?_) | (refine bRet ?_) | (refine bExit ?_) | (refine bExitN rfl ?_)
      | (refine xMask ?_) | (refine xT ?_) | (refine xF ?_) | (refine xRet ?_) | (refine xNorm ?_)
      | (refine wSplit _ rfl (by (first | (simp only [go_sem, *]; (first | done | exact rfl)) | rfl)) ?_ ?_ <;> intro hb <;> (try simp only [beq_false, beq_true, Bool.not_true, Bool.not_false, Bool.not_eq_true', Bool.not_eq_false', decide_eq_false_iff_not, decide_eq_true_eq, bne_iff_ne, beq_iff_eq, Bool.true_eq, Bool.false_eq, Bool.not_not, Bool.and_eq_true, Bool.or_eq_true, Bool.bne_true, Bool.bne_false, bne_eq_false_iff_eq, beq_eq_false_iff_ne, ne_eq] at hb))
      | (refine W_cond _ (by (first | (simp only [go_sem, *]; (first | done | exact rfl)) | rfl)) ?_ ?_ <;> intro hb <;> (try simp only [beq_false, beq_true, Bool.not_true, Bool.not_false, Bool.not_eq_true', Bool.not_eq_false', decide_eq_false_iff_not, decide_eq_true_eq, bne_iff_ne, beq_iff_eq, Bool.true_eq, Bool.false_eq, Bool.not_not, Bool.and_eq_true, Bool.or_eq_true, Bool.bne_true, Bool.bne_false, bne_eq_false_iff_eq, beq_eq_false_iff_ne, ne_eq] at hb)))
    all_goals exact ⟨rfl, fun z b e => hu8 z b (hw.1 z b (HU1 z b e))⟩
/-- Bytes -/
theorem sp50 (k1 k2 k3 k4 : Int) (C : Nat) (n1 s1 s2 : Int) (ok : Bool) (x : List UInt8) (S : AV) (L : List En) (h : AH) (hS : Le h S L) (hl : L.length ≤ 1000) (hx : x.length ≤ 1000) (bC : C ≤ 18446744073709551615) (b1 : k2 ≤ 9223372036854775807) (b2 : k3 ≤ 9223372036854775807) (b3 : k4 ≤ 9223372036854775807) (b4 : n1 ≤ 9223372036854775807) (b5 : s1 ≤ 9223372036854775807) (b6 : s2 ≤ 9223372036854775807) (hL : ∀ y ∈ L, okE y) :
    Sp T 50 [.agg [.int .i64 k1, .int .i64 k2, .int .i64 k3, .int .i64 k4, .int .u64 (C : Int), .int .i64 n1, .int .i64 s1, .int .i64 s2, .bool ok, .str (bs x), S]] h (fun v h' => v = .str (bs (if chk k1 k2 k3 k4 C n1 s1 s2 x L = 0 then fr k1.toNat (inI k2 k3 k4 C n1 s1 s2 ok x L) else [])) ∧ Up h h') := by
  have hu0 := Up.refl h
  have hSl := hS.len
  have hSc : S.scalar = true := by rcases hS with ⟨rfl, rfl⟩ | ⟨i, _, rfl, _⟩ <;> rfl
  obtain ⟨ck, hck⟩ : ∃ c, chk k1 k2 k3 k4 C n1 s1 s2 x L = c := ⟨_, rfl⟩
  by_cases hz : ck = 0
  · subst hz
    rw [if_pos hck]
    obtain ⟨a1, a2, a3, a4, a5, a6, a7, a8, a9, a10, a11, a12⟩ := chk_zero _ _ _ _ _ _ _ _ ok _ _ hck
    have gb1 : ∀ v ∈ [k2, k3, k4], v ≤ 9223372036854775807 := by simp; omega
    have gb2 : ∀ v ∈ [s1, s2], v ≤ 9223372036854775807 := by simp; omega
    have gb3 : ∀ v ∈ [(L.length : Int)], v ≤ 9223372036854775807 := by simp; omega
    have l1 : (encN k2).length ≤ 9 := encU_length k2.toNat
    have l2 : (encN k3).length ≤ 9 := encU_length k3.toNat
    have l3 : (encN k4).length ≤ 9 := encU_length k4.toNat
    have l4 : (encN s1).length ≤ 9 := encU_length s1.toNat
    have l5 : (encN s2).length ≤ 9 := encU_length s2.toNat
    have l6 : (encN (L.length : Int)).length ≤ 9 := encU_length (L.length : Int).toNat
    have l7 := encS_len x
    have l7' := encS_len x
    rw [← encT_bs] at l7'
    have l8 := encB_length ok
    have l9 := encU_length C
    have l10 : (encN n1).length ≤ 9 := encU_length n1.toNat
    have ehd : encN k2 ++ (encN k3 ++ encN k4) ++ encU C ++ encN n1 ++ (encN s1 ++ encN s2) ++ encB ok ++ encS x ++ encN (L.length : Int) = hdI k2 k3 k4 C n1 s1 s2 ok x L.length := by
      unfold hdI; simp only [List.append_assoc]
    clear a2 a3 a4 a5 a6 a7 a10 a11 a12
    refine Sp_of (fn := f50) rfl (show W T b50 [.agg [.int .i64 k1, .int .i64 k2, .int .i64 k3, .int .i64 k4, .int .u64 (C : Int), .int .i64 n1, .int .i64 s1, .int .i64 s2, .bool ok, .str (bs x), S], .tup [], .tup [], .tup [], .tup [], .tup [], .tup [], .tup [], .tup [], .tup [], .tup [], .tup [], .tup [], .tup [], .tup [], .tup [], .tup [], .tup [], .tup [], .tup [], .tup [], .tup [], .tup [], .tup [], .tup [], .tup [], .tup [], .tup [], .tup [], .tup [], .tup [], .tup [], .tup [], .tup [], .tup [], .tup [], .tup [], .tup [], .tup [], .tup [], .tup [], .tup [], .tup [], .tup [], .tup [], .tup [], .tup [], .tup [], .tup [], .tup [], .tup [], .tup [], .tup [], .tup [], .tup [], .tup [], .tup [], .tup [], .tup [], .tup [], .tup [], .tup [], .tup [], .tup [], .tup [], .tup [], .tup [], .tup [], .tup [], .tup [], .tup [], .tup []] _ _ from ?_)
    unfold b50
    repeat' (first
      | (refine wNil ?_) | (refine xPure ?_)
      | (refine xMk ?_; intro id hid; (try simp only [set_none_iff] at hid); have hz := hid; (repeat (replace hz := hz.2)); (try have := nei hb hz); (try have := nei hb2 hz); (try have := nei hb3 hz); (try have := nei hb4 hz); (try have := nei hb5 hz); (try have := nei hb6 hz); (try have := nei hb7 hz); (try have := Up.none hu0 hz); refine mkDo ?_)
      | (refine xChk ?_) | (refine xChkF ?_) | (refine xSkip ?_)
      | (refine xCall rfl rfl (sp49 k1 k2 k3 k4 C n1 s1 s2 ok x S L _ (hS.up (by repeat' (first | assumption | exact Up.refl _ | refine Up.new ?_ ?_))) (by omega)) ?_; rintro v j1 ⟨rfl, hu1⟩; rw [hck]; have hb := hu1 _ _ set_same; have HU1 : Up h j1 := Up.trans (show Up h _ from (by repeat' (first | assumption | exact Up.refl _ | refine Up.new ?_ ?_))) hu1; clear hu1; refine nTm ?_)
      | (refine xCall rfl rfl (sp40 ((j1).set id (some ⟨true, [k2, k3, k4].map fun (v : Int) => AV.int .i64 v⟩)) _ id true _ [k2, k3, k4] _ (Wr.new (Wr.start Sub.rfl' (by assumption)) (set_none_iff.2 hid)) set_same gb1 (by simp only [List.flatMap_cons, List.flatMap_nil, List.append_nil, List.nil_append, List.length_append]; omega) (by simp)) ?_; rintro r g2 ⟨rfl, hWn⟩; have hw2 := Wr.drop hWn (hid.2); clear hWn; simp only [List.flatMap_cons, List.flatMap_nil, List.append_nil, List.nil_append] at hw2; have hb2 := hw2.get hb; refine nTm ?_)
      | (refine xCall rfl rfl (sp35 j1 _ _ C n1 _ hw2 (by simp only [List.length_append]; omega) b4) ?_; rintro r g3 hw3; have hb3 := hw3.get hb; refine nTm ?_)
      | (refine xCall rfl rfl (sp40 ((j1).set id (some ⟨true, [s1, s2].map fun (v : Int) => AV.int .i64 v⟩)) _ id true _ [s1, s2] _ (hw3.new hid) set_same gb2 (by simp only [List.flatMap_cons, List.flatMap_nil, List.append_nil, List.nil_append, List.length_append]; omega) (by simp)) ?_; rintro r g4 ⟨rfl, hWn⟩; have hw4 := Wr.drop hWn (hw3.1.no hid); clear hWn; simp only [List.flatMap_cons, List.flatMap_nil, List.append_nil, List.nil_append] at hw4; have hb4 := hw4.get hb; refine nTm ?_)
      | (refine xCall rfl rfl (sp42 ((j1).set id (some ⟨true, [ok].map fun (v : Bool) => AV.bool v⟩)) _ id true _ [ok] _ (hw4.new hid) set_same  (by simp only [List.flatMap_cons, List.flatMap_nil, List.append_nil, List.nil_append, List.length_append]; omega) (by simp)) ?_; rintro r g5 ⟨rfl, hWn⟩; have hw5 := Wr.drop hWn (hw4.1.no hid); clear hWn; simp only [List.flatMap_cons, List.flatMap_nil, List.append_nil, List.nil_append] at hw5; have hb5 := hw5.get hb; refine nTm ?_)
      | (refine xCall rfl rfl (sp41 ((j1).set id (some ⟨true, [(bs x)].map fun (v : ByteArray) => AV.str v⟩)) _ id true _ [(bs x)] _ (hw5.new hid) set_same  (by simp only [List.flatMap_cons, List.flatMap_nil, List.append_nil, List.nil_append, List.length_append]; omega) (by simp)) ?_; rintro r g6 ⟨rfl, hWn⟩; have hw6 := Wr.drop hWn (hw5.1.no hid); clear hWn; simp only [List.flatMap_cons, List.flatMap_nil, List.append_nil, List.nil_append] at hw6; have hb6 := hw6.get hb; rw [encT_bs] at hw6; refine nTm ?_)
      | (refine xCall rfl rfl (sp40 ((j1).set id (some ⟨true, [(L.length : Int)].map fun (v : Int) => AV.int .i64 v⟩)) _ id true _ [(L.length : Int)] _ (hw6.new hid) set_same gb3 (by simp only [List.flatMap_cons, List.flatMap_nil, List.append_nil, List.nil_append, List.length_append]; omega) (by simp)) ?_; rintro r g7 ⟨rfl, hWn⟩; have hw7 := Wr.drop hWn (hw6.1.no hid); clear hWn; simp only [List.flatMap_cons, List.flatMap_nil, List.append_nil, List.nil_append] at hw7; have hb7 := hw7.get hb; refine nTm ?_)
      | (exact tail50 k1 k2 k3 k4 C n1 s1 s2 ok x S L h j1 _ _ _ hS a1 (by omega) a8 hL HU1 hb (ehd ▸ hw7) _ rfl)
      | (refine cSeq ?_) | (refine cNorm ?_) | (refine cRet ?_) | (refine cExit ?_) | (refine W_reg rfl ?_) | (refine W_block ?_) | (refine W_ret ?_) | (refine W_skip ?_) | (refine W_exit ?_) | (refine bNorm ?_) | (refine bRet ?_) | (refine bExit ?_) | (refine bExitN rfl ?_)
      | (refine xMask ?_) | (refine xT ?_) | (refine xF ?_) | (refine xRet ?_) | (refine xNorm ?_)
      | (refine wSplit _ rfl (by (first | (simp only [go_sem, *]; (first | done | exact rfl)) | rfl)) ?_ ?_ <;> intro hb <;> (try simp only [beq_false, beq_true, Bool.not_true, Bool.not_false, Bool.not_eq_true', Bool.not_eq_false', decide_eq_false_iff_not, decide_eq_true_eq, bne_iff_ne, beq_iff_eq, Bool.true_eq, Bool.false_eq, Bool.not_not, Bool.and_eq_true, Bool.or_eq_true, Bool.bne_true, Bool.bne_false, bne_eq_false_iff_eq, beq_eq_false_iff_ne, ne_eq] at hb))
      | (refine W_cond _ (by (first | (simp only [go_sem, *]; (first | done | exact rfl)) | rfl)) ?_ ?_ <;> intro hb <;> (try simp only [beq_false, beq_true, Bool.not_true, Bool.not_false, Bool.not_eq_true', Bool.not_eq_false', decide_eq_false_iff_not, decide_eq_true_eq, bne_iff_ne, beq_iff_eq, Bool.true_eq, Bool.false_eq, Bool.not_not, Bool.and_eq_true, Bool.or_eq_true, Bool.bne_true, Bool.bne_false, bne_eq_false_iff_eq, beq_eq_false_iff_ne, ne_eq] at hb)))
  · have hz' : (ck != 0) = true := by simpa using hz
    rw [if_neg (by rw [hck]; exact hz)]
    refine Sp_of (fn := f50) rfl (show W T b50 [.agg [.int .i64 k1, .int .i64 k2, .int .i64 k3, .int .i64 k4, .int .u64 (C : Int), .int .i64 n1, .int .i64 s1, .int .i64 s2, .bool ok, .str (bs x), S], .tup [], .tup [], .tup [], .tup [], .tup [], .tup [], .tup [], .tup [], .tup [], .tup [], .tup [], .tup [], .tup [], .tup [], .tup [], .tup [], .tup [], .tup [], .tup [], .tup [], .tup [], .tup [], .tup [], .tup [], .tup [], .tup [], .tup [], .tup [], .tup [], .tup [], .tup [], .tup [], .tup [], .tup [], .tup [], .tup [], .tup [], .tup [], .tup [], .tup [], .tup [], .tup [], .tup [], .tup [], .tup [], .tup [], .tup [], .tup [], .tup [], .tup [], .tup [], .tup [], .tup [], .tup [], .tup [], .tup [], .tup [], .tup [], .tup [], .tup [], .tup [], .tup [], .tup [], .tup [], .tup [], .tup [], .tup [], .tup [], .tup [], .tup [], .tup []] _ _ from ?_)
    unfold b50
    repeat' (first
      | (refine wNil ?_) | (refine xPure ?_)
      | (refine xMk ?_; intro id hid; (try simp only [set_none_iff] at hid); have hz := hid; (repeat (replace hz := hz.2)); (try have := Up.none hu0 hz); refine mkDo ?_)
      | (refine xChk ?_) | (refine xChkF ?_) | (refine xSkip ?_)
      | (refine xCall rfl rfl (sp49 k1 k2 k3 k4 C n1 s1 s2 ok x S L _ (hS.up (by repeat' (first | assumption | exact Up.refl _ | refine Up.new ?_ ?_))) (by omega)) ?_; rintro v j1 ⟨rfl, hu1⟩; rw [hck]; have hb := hu1 _ _ set_same; have HU1 : Up h j1 := Up.trans (show Up h _ from (by repeat' (first | assumption | exact Up.refl _ | refine Up.new ?_ ?_))) hu1; clear hu1; refine nTm ?_)
      | (refine cSeq ?_) | (refine cNorm ?_) | (refine cRet ?_) | (refine cExit ?_) | (refine W_reg rfl ?_) | (refine W_block ?_) | (refine W_ret ?_) | (refine W_skip ?_) | (refine W_exit ?_) | (refine bNorm ?_) | (refine bRet ?_) | (refine bExit ?_) | (refine bExitN rfl ?_)
      | (refine xMask ?_) | (refine xT ?_) | (refine xF ?_) | (refine xRet ?_) | (refine xNorm ?_)
      | (refine wSplit _ rfl (by (first | (simp only [go_sem, *]; (first | done | exact rfl)) | rfl)) ?_ ?_ <;> intro hb <;> (try simp only [beq_false, beq_true, Bool.not_true, Bool.not_false, Bool.not_eq_true', Bool.not_eq_false', decide_eq_false_iff_not, decide_eq_true_eq, bne_iff_ne, beq_iff_eq, Bool.true_eq, Bool.false_eq, Bool.not_not, Bool.and_eq_true, Bool.or_eq_true, Bool.bne_true, Bool.bne_false, bne_eq_false_iff_eq, beq_eq_false_iff_ne, ne_eq] at hb))
      | (refine W_cond _ (by (first | (simp only [go_sem, *]; (first | done | exact rfl)) | rfl)) ?_ ?_ <;> intro hb <;> (try simp only [beq_false, beq_true, Bool.not_true, Bool.not_false, Bool.not_eq_true', Bool.not_eq_false', decide_eq_false_iff_not, decide_eq_true_eq, bne_iff_ne, beq_iff_eq, Bool.true_eq, Bool.false_eq, Bool.not_not, Bool.and_eq_true, Bool.or_eq_true, Bool.bne_true, Bool.bne_false, bne_eq_false_iff_eq, beq_eq_false_iff_ne, ne_eq] at hb)))
    all_goals exact ⟨rfl, HU1⟩
end Go.Proofs.YtgekngfnhhdamaaI
set_option linter.unusedVariables false
set_option linter.unusedSimpArgs false
set_option maxRecDepth 100000
set_option maxHeartbeats 4000000
namespace Go.Proofs.YtgekngfnhhdamaaI
open Go Go.Proofs.YtgekngfnhhdamaaM
attribute [local go_sem] aop ev fg_slc fg_slk fg_ptr fg_bool fg_int fg_str fg_iface fg_func fg_agg fg_tup fg_nils fg_nilp fg_nilI fg_nilF fg_und aboundsK alen_nils alen_slc alen_slk aslice_nils aslice_slc aslice_slk awanted abin aun aint aeqn aeqc aeqs apart abounds abnd amaxi amaxiGo cells_agg cells_slc cells_slk cells_ptr cells_bool cells_int cells_str cells_iface cells_func cells_tup cells_nils cells_nilp cells_nilI cells_nilF cells_und sc_slc sc_slk sc_ptr sc_bool sc_int sc_str sc_iface sc_func sc_nils sc_nilp sc_nilI sc_nilF gd_zero gd_succ List.all_cons List.all_nil Bool.and_self Bool.and_true Bool.true_and List.length_cons List.length_nil Option.map_some Option.some.injEq cell_same cell_ne cell_ne' cellsAt_same cellsAt_ne cellsAt_ne' put_same put_of set_same set_ne set_ne' List.getElem?_cons_zero List.getElem?_cons_succ if_true if_false and_self and_true true_and ne_eq not_true_eq_false not_false_eq_true decide_true decide_false Bool.false_eq_true Bool.true_eq_false beq_self_eq_true bne_self_eq_false beq_true beq_false Bool.not_true Bool.not_false List.map_cons List.map_nil putL List.set_cons_zero List.set_cons_succ afill Nat.zero_le Nat.le_refl Nat.zero_add Nat.add_zero List.drop_zero List.drop_succ_cons List.take_zero List.take_succ_cons Bool.not_eq_true Bool.not_eq_false decide_eq_true_eq decide_eq_false_iff_not Int.toNat_zero Nat.sub_zero Int.toNat_natCast Bool.bne_true Bool.bne_false AH.cell AH.cellsAt AH.put Nat.mul_one Nat.one_mul Int.natCast_nonneg List.length_set bs_append bs_size bs_toList bs_extract bs_get List.append_nil Nat.sub_zero bne_self_eq_false beq_self_eq_true azeros Int.le_refl
def Fa (h : AH) (S : AV) (L : List En) : Prop := S = .nils ∧ L = [] ∨ ∃ i, S = .slc i 0 L.length 4 ∧ h i = some ⟨false, L.flatMap eM⟩
theorem Fa.up {h h' : AH} {S : AV} {L : List En} (hP : Fa h S L) (hu : Up h h') : Fa h' S L := by
  rcases hP with h | ⟨i, h1, h2⟩
  · exact .inl h
  · exact .inr ⟨i, h1, hu _ _ h2⟩
/-- Within the kinds. -/
def rgE (y : En) : Prop := y.1 ≤ 9223372036854775807 ∧ y.2.1 ≤ 18446744073709551615 ∧ y.2.2.1 ≤ 9223372036854775807
theorem cutL_len (L : List En) : (cutL L).length ≤ 1000 := by unfold cutL; rw [List.length_map, List.length_take]; omega
theorem cutL_ok {L : List En} (h : ∀ y ∈ L, rgE y) : ∀ y ∈ cutL L, okE y := by
  intro y hy
  unfold cutL at hy
  obtain ⟨z, hz, rfl⟩ := List.mem_map.1 hy
  obtain ⟨a, b, c⟩ := h z (List.mem_of_mem_take hz)
  refine ⟨a, b, c, ?_⟩
  show (z.2.2.2.take 402).length ≤ 1000
  rw [List.length_take]; omega
end Go.Proofs.YtgekngfnhhdamaaI
set_option linter.unusedVariables false
set_option linter.unusedSimpArgs false
set_option maxRecDepth 100000
set_option maxHeartbeats 4000000
namespace Go.Proofs.YtgekngfnhhdamaaI
open Go Go.Proofs.YtgekngfnhhdamaaM
attribute [local go_sem] aop ev fg_slc fg_slk fg_ptr fg_bool fg_int fg_str fg_iface fg_func fg_agg fg_tup fg_nils fg_nilp fg_nilI fg_nilF fg_und aboundsK alen_nils alen_slc alen_slk aslice_nils aslice_slc aslice_slk awanted abin aun aint aeqn aeqc aeqs apart abounds abnd amaxi amaxiGo cells_agg cells_slc cells_slk cells_ptr cells_bool cells_int cells_str cells_iface cells_func cells_tup cells_nils cells_nilp cells_nilI cells_nilF cells_und sc_slc sc_slk sc_ptr sc_bool sc_int sc_str sc_iface sc_func sc_nils sc_nilp sc_nilI sc_nilF gd_zero gd_succ List.all_cons List.all_nil Bool.and_self Bool.and_true Bool.true_and List.length_cons List.length_nil Option.map_some Option.some.injEq cell_same cell_ne cell_ne' cellsAt_same cellsAt_ne cellsAt_ne' put_same put_of set_same set_ne set_ne' List.getElem?_cons_zero List.getElem?_cons_succ if_true if_false and_self and_true true_and ne_eq not_true_eq_false not_false_eq_true decide_true decide_false Bool.false_eq_true Bool.true_eq_false beq_self_eq_true bne_self_eq_false beq_true beq_false Bool.not_true Bool.not_false List.map_cons List.map_nil putL List.set_cons_zero List.set_cons_succ afill Nat.zero_le Nat.le_refl Nat.zero_add Nat.add_zero List.drop_zero List.drop_succ_cons List.take_zero List.take_succ_cons Bool.not_eq_true Bool.not_eq_false decide_eq_true_eq decide_eq_false_iff_not Int.toNat_zero Nat.sub_zero Int.toNat_natCast Bool.bne_true Bool.bne_false AH.cell AH.cellsAt AH.put Nat.mul_one Nat.one_mul Int.natCast_nonneg List.length_set bs_append bs_size bs_toList bs_extract bs_get List.append_nil Nat.sub_zero bne_self_eq_false beq_self_eq_true azeros Int.le_refl
/-- MsgChecks -/
theorem sp9 (k1 k2 k3 k4 : Int) (C : Nat) (n1 s1 s2 : Int) (ok : Bool) (x : List UInt8) (S : AV) (L : List En) (h : AH) (hS : Fa h S L) (hk1 : -9223372036854775808 ≤ k1 ∧ k1 ≤ 9223372036854775807) (b1 : k2 ≤ 9223372036854775807) (b2 : k3 ≤ 9223372036854775807) (b3 : k4 ≤ 9223372036854775807) (bC : C ≤ 18446744073709551615) (b4 : n1 ≤ 9223372036854775807) (b5 : s1 ≤ 9223372036854775807) (b6 : s2 ≤ 9223372036854775807) (hL : ∀ y ∈ L, rgE y) :
    Sp T 9 [.agg [.int .i64 k1, .int .i64 k2, .int .i64 k3, .int .i64 k4, .int .u64 (C : Int), .int .i64 n1, .int .i64 s1, .int .i64 s2, .bool ok, .str (bs x), S]] h (fun v _ => v = .bool true) := by
  have hu0 := Up.refl h
  have sc : S.scalar = true := by rcases hS with ⟨rfl, _⟩ | ⟨i, rfl, _⟩ <;> rfl
  have hl := cutL_len L
  have hL7 := cutL_ok hL
  have hx : (x.take 300).length ≤ 1000 := by rw [List.length_take]; omega
  obtain ⟨x300, ex⟩ : ∃ z, x.take 300 = z := ⟨_, rfl⟩
  obtain ⟨L70, eL⟩ : ∃ z, cutL L = z := ⟨_, rfl⟩
  rw [eL] at hl hL7
  rw [ex] at hx
  obtain ⟨ck, hck⟩ : ∃ c, chk k1 k2 k3 k4 C n1 s1 s2 x300 L70 = c := ⟨_, rfl⟩
  have n0 : (ck != ck) = false := by simp
  by_cases hz : ck = 0
  · subst hz
    obtain ⟨a1, a2, a3, a4, a5, a6, a7, a8, a9, a10, a11, a12⟩ := chk_zero _ _ _ _ _ _ _ _ ok _ _ hck
    have e50 : (if chk k1 k2 k3 k4 C n1 s1 s2 x300 L70 = 0 then fr k1.toNat (inI k2 k3 k4 C n1 s1 s2 ok x300 L70) else []) = fr k1.toNat (inI k2 k3 k4 C n1 s1 s2 ok x300 L70) := if_pos hck
    clear a2 a3 a4 a5 a6 a7 a10 a11 a12
    refine Sp_of (fn := f9) rfl (show W T b9 [.agg [.int .i64 k1, .int .i64 k2, .int .i64 k3, .int .i64 k4, .int .u64 (C : Int), .int .i64 n1, .int .i64 s1, .int .i64 s2, .bool ok, .str (bs x), S], .tup [], .tup [], .tup [], .tup [], .tup [], .tup [], .tup [], .tup [], .tup [], .tup [], .tup [], .tup [], .tup [], .tup [], .tup [], .tup [], .tup [], .tup [], .tup [], .tup [], .tup [], .tup [], .tup [], .tup [], .tup [], .tup []] _ _ from ?_)
    unfold b9
    repeat' (first
      | (refine wNil ?_) | (refine xPure ?_)
      | (refine xMk ?_; intro id hid; (try simp only [set_none_iff] at hid); have hz := hid; (repeat (replace hz := hz.2)); (try have := nei hb2 hz); (try have := nei ha hz); (try have := nei hb3 hz); (try have := nei ha3 hz); (try have := Up.none hu0 hz); refine mkDo ?_)
      | (refine xChk ?_) | (refine xChkF ?_) | (refine xSkip ?_)
      | (refine xCall rfl rfl (sp45 _) ?_; rintro v j1 ⟨rfl, hu⟩; have HU1 : Up h j1 := Up.trans (show Up h _ from (by repeat' (first | assumption | exact Up.refl _ | refine Up.new ?_ ?_))) hu; have hb := hu _ _ set_same; have hSa := Fa.up hS HU1; clear hu; refine nTm ?_)
      | (refine xCall rfl rfl (sp46 k1 k2 k3 k4 C n1 s1 s2 ok x S L _ hSa) ?_; rintro v j2 ⟨ia, fa, rfl, ha, hu⟩; have na := nei hb fa; have HU2 := HU1.trans hu; have hb2 := hu _ _ hb; rw [ex, eL] at *; clear hu; refine nTm ?_)
      | (refine xCall rfl rfl (sp47 k1 k2 k3 k4 C n1 s1 s2 ok x300 _ L70 _ (.inr ⟨ia, true, rfl, (by simp only [set_ne, set_ne', set_same, ne_eq, not_false_eq_true, *])⟩) hl) ?_; rintro v j3 ⟨S', rfl, hP, hu⟩; have hLe := hP.rd; have hSc' : S'.scalar = true := (by rcases hLe with ⟨rfl, rfl⟩ | ⟨i, _, rfl, _⟩ <;> rfl); have hb3 := hu _ _ set_same; have ha3 := hu _ _ ((set_ne (Ne.symm na)).trans ha); have hLa : Le j3 (.slc ia 0 L70.length 4) L70 := .inr ⟨ia, true, rfl, ha3⟩; clear hu hP; refine nTm ?_)
      | (refine xCall rfl rfl (sp48 k1 k2 k3 k4 C n1 s1 s2 ok x300 _ L70 _ (hLa.up (by repeat' (first | assumption | exact Up.refl _ | refine Up.new ?_ ?_))) hl) ?_; rintro v j4 ⟨rfl, hu⟩; rw [hck]; have hp4 := hu _ _ set_same; have nX := nei hb3 hid; have hb4 := hu _ _ ((set_ne nX).trans ((set_ne nX).trans hb3)); have hLe4 := (hLe.up (show Up j3 _ from (by repeat' (first | assumption | exact Up.refl _ | refine Up.new ?_ ?_)))).up hu; have hLa4 := (hLa.up (show Up j3 _ from (by repeat' (first | assumption | exact Up.refl _ | refine Up.new ?_ ?_)))).up hu; clear hu; refine nTm ?_)
      | (refine xCall rfl rfl (sp49 k1 k2 k3 k4 C n1 s1 s2 ok x300 _ L70 _ hLe4 hl) ?_; rintro v j5 ⟨rfl, hu⟩; rw [hck]; have hp5 := hu _ _ hp4; have hb5 := hu _ _ hb4; have hLe5 := hLe4.up hu; have hLa5 := hLa4.up hu; clear hu; refine nTm ?_)
      | (refine xCall rfl rfl (sp50 k1 k2 k3 k4 C n1 s1 s2 ok x300 _ L70 _ hLe5 hl hx bC b1 b2 b3 b4 b5 b6 hL7) ?_; rintro v j6 ⟨rfl, hu⟩; rw [e50]; have hp6 := hu _ _ hp5; have hb6 := hu _ _ hb5; have hLa6 := hLa5.up hu; clear hu; refine nTm ?_)
      | (refine xCall rfl rfl (sp51 k1 k2 k3 k4 C n1 s1 s2 ok x300 _ L70 _ hLa6 ⟨by omega, by omega⟩ (by omega) (by omega) b1 b2 b3 bC b4 b5 b6 hL7) ?_; rintro v j7 ⟨rfl, hu⟩; clear hu; refine nTm ?_)
      | (refine cSeq ?_) | (refine cNorm ?_) | (refine cRet ?_) | (refine cExit ?_) | (refine W_reg rfl ?_) | (refine W_block ?_) | (refine W_ret ?_) | (refine W_skip ?_) | (refine W_exit ?_) | (refine bNorm ?_) | (refine bRet ?_) | (refine bExit ?_) | (refine bExitN rfl ?_)
      | (refine xMask ?_) | (refine xT ?_) | (refine xF ?_) | (refine xRet ?_) | (refine xNorm ?_)
      | (refine wSplit _ rfl (by (first | (simp only [go_sem, *]; (first | done | exact rfl)) | rfl)) ?_ ?_ <;> intro hb <;> (try simp only [beq_false, beq_true, Bool.not_true, Bool.not_false, Bool.not_eq_true', Bool.not_eq_false', decide_eq_false_iff_not, decide_eq_true_eq, bne_iff_ne, beq_iff_eq, Bool.true_eq, Bool.false_eq, Bool.not_not, Bool.and_eq_true, Bool.or_eq_true, Bool.bne_true, Bool.bne_false, bne_eq_false_iff_eq, beq_eq_false_iff_ne, ne_eq] at hb))
      | (refine W_cond _ (by (first | (simp only [go_sem, *]; (first | done | exact rfl)) | rfl)) ?_ ?_ <;> intro hb <;> (try simp only [beq_false, beq_true, Bool.not_true, Bool.not_false, Bool.not_eq_true', Bool.not_eq_false', decide_eq_false_iff_not, decide_eq_true_eq, bne_iff_ne, beq_iff_eq, Bool.true_eq, Bool.false_eq, Bool.not_not, Bool.and_eq_true, Bool.or_eq_true, Bool.bne_true, Bool.bne_false, bne_eq_false_iff_eq, beq_eq_false_iff_ne, ne_eq] at hb)))
    all_goals rfl
  · have hz' : (ck != 0) = true := by simpa using hz
    have e50 : (if chk k1 k2 k3 k4 C n1 s1 s2 x300 L70 = 0 then fr k1.toNat (inI k2 k3 k4 C n1 s1 s2 ok x300 L70) else []) = [] := if_neg (by rw [hck]; exact hz)
    have e0 : (bs [] : ByteArray) = ⟨#[]⟩ := rfl
    clear hz
    refine Sp_of (fn := f9) rfl (show W T b9 [.agg [.int .i64 k1, .int .i64 k2, .int .i64 k3, .int .i64 k4, .int .u64 (C : Int), .int .i64 n1, .int .i64 s1, .int .i64 s2, .bool ok, .str (bs x), S], .tup [], .tup [], .tup [], .tup [], .tup [], .tup [], .tup [], .tup [], .tup [], .tup [], .tup [], .tup [], .tup [], .tup [], .tup [], .tup [], .tup [], .tup [], .tup [], .tup [], .tup [], .tup [], .tup [], .tup [], .tup [], .tup []] _ _ from ?_)
    unfold b9
    repeat' (first
      | (refine wNil ?_) | (refine xPure ?_)
      | (refine xMk ?_; intro id hid; (try simp only [set_none_iff] at hid); have hz := hid; (repeat (replace hz := hz.2)); (try have := nei hb2 hz); (try have := nei ha hz); (try have := nei hb3 hz); (try have := nei ha3 hz); (try have := Up.none hu0 hz); refine mkDo ?_)
      | (refine xChk ?_) | (refine xChkF ?_) | (refine xSkip ?_)
      | (refine xCall rfl rfl (sp45 _) ?_; rintro v j1 ⟨rfl, hu⟩; have HU1 : Up h j1 := Up.trans (show Up h _ from (by repeat' (first | assumption | exact Up.refl _ | refine Up.new ?_ ?_))) hu; have hb := hu _ _ set_same; have hSa := Fa.up hS HU1; clear hu; refine nTm ?_)
      | (refine xCall rfl rfl (sp46 k1 k2 k3 k4 C n1 s1 s2 ok x S L _ hSa) ?_; rintro v j2 ⟨ia, fa, rfl, ha, hu⟩; have na := nei hb fa; have HU2 := HU1.trans hu; have hb2 := hu _ _ hb; rw [ex, eL] at *; clear hu; refine nTm ?_)
      | (refine xCall rfl rfl (sp47 k1 k2 k3 k4 C n1 s1 s2 ok x300 _ L70 _ (.inr ⟨ia, true, rfl, (by simp only [set_ne, set_ne', set_same, ne_eq, not_false_eq_true, *])⟩) hl) ?_; rintro v j3 ⟨S', rfl, hP, hu⟩; have hLe := hP.rd; have hSc' : S'.scalar = true := (by rcases hLe with ⟨rfl, rfl⟩ | ⟨i, _, rfl, _⟩ <;> rfl); have hb3 := hu _ _ set_same; have ha3 := hu _ _ ((set_ne (Ne.symm na)).trans ha); have hLa : Le j3 (.slc ia 0 L70.length 4) L70 := .inr ⟨ia, true, rfl, ha3⟩; clear hu hP; refine nTm ?_)
      | (refine xCall rfl rfl (sp48 k1 k2 k3 k4 C n1 s1 s2 ok x300 _ L70 _ (hLa.up (by repeat' (first | assumption | exact Up.refl _ | refine Up.new ?_ ?_))) hl) ?_; rintro v j4 ⟨rfl, hu⟩; rw [hck]; have hp4 := hu _ _ set_same; have nX := nei hb3 hid; have hb4 := hu _ _ ((set_ne nX).trans ((set_ne nX).trans hb3)); have hLe4 := (hLe.up (show Up j3 _ from (by repeat' (first | assumption | exact Up.refl _ | refine Up.new ?_ ?_)))).up hu; have hLa4 := (hLa.up (show Up j3 _ from (by repeat' (first | assumption | exact Up.refl _ | refine Up.new ?_ ?_)))).up hu; clear hu; refine nTm ?_)
      | (refine xCall rfl rfl (sp49 k1 k2 k3 k4 C n1 s1 s2 ok x300 _ L70 _ hLe4 hl) ?_; rintro v j5 ⟨rfl, hu⟩; rw [hck]; have hp5 := hu _ _ hp4; have hb5 := hu _ _ hb4; have hLe5 := hLe4.up hu; have hLa5 := hLa4.up hu; clear hu; refine nTm ?_)
      | (refine xCall rfl rfl (sp50 k1 k2 k3 k4 C n1 s1 s2 ok x300 _ L70 _ hLe5 hl hx bC b1 b2 b3 b4 b5 b6 hL7) ?_; rintro v j6 ⟨rfl, hu⟩; rw [e50, e0]; have hp6 := hu _ _ hp5; have hb6 := hu _ _ hb5; have hLa6 := hLa5.up hu; clear hu; refine nTm ?_)
      | (refine cSeq ?_) | (refine cNorm ?_) | (refine cRet ?_) | (refine cExit ?_) | (refine W_reg rfl ?_) | (refine W_block ?_) | (refine W_ret ?_) | (refine W_skip ?_) | (refine W_exit ?_) | (refine bNorm ?_) | (refine bRet ?_) | (refine bExit ?_) | (refine bExitN rfl ?_)
      | (refine xMask ?_) | (refine xT ?_) | (refine xF ?_) | (refine xRet ?_) | (refine xNorm ?_)
      | (refine wSplit _ rfl (by (first | (simp only [go_sem, *]; (first | done | exact rfl)) | rfl)) ?_ ?_ <;> intro hb <;> (try simp only [beq_false, beq_true, Bool.not_true, Bool.not_false, Bool.not_eq_true', Bool.not_eq_false', decide_eq_false_iff_not, decide_eq_true_eq, bne_iff_ne, beq_iff_eq, Bool.true_eq, Bool.false_eq, Bool.not_not, Bool.and_eq_true, Bool.or_eq_true, Bool.bne_true, Bool.bne_false, bne_eq_false_iff_eq, beq_eq_false_iff_ne, ne_eq] at hb))
      | (refine W_cond _ (by (first | (simp only [go_sem, *]; (first | done | exact rfl)) | rfl)) ?_ ?_ <;> intro hb <;> (try simp only [beq_false, beq_true, Bool.not_true, Bool.not_false, Bool.not_eq_true', Bool.not_eq_false', decide_eq_false_iff_not, decide_eq_true_eq, bne_iff_ne, beq_iff_eq, Bool.true_eq, Bool.false_eq, Bool.not_not, Bool.and_eq_true, Bool.or_eq_true, Bool.bne_true, Bool.bne_false, bne_eq_false_iff_eq, beq_eq_false_iff_ne, ne_eq] at hb)))
    all_goals rfl
end Go.Proofs.YtgekngfnhhdamaaI
