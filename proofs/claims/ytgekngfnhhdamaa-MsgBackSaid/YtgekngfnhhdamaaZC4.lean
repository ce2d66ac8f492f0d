/- What the statement's proof needs (joined out of several texts); no conditions. -/
import Derived.Test.YtgekngfnhhdamaaZC3
import Derived.Test.YtgekngfnhhdamaaM33
import Derived.Test.YtgekngfnhhdamaaM34
set_option linter.unusedVariables false
set_option linter.unusedSimpArgs false
set_option maxRecDepth 100000
set_option maxHeartbeats 4000000
namespace Go.Proofs.YtgekngfnhhdamaaI
open Go Go.Proofs.YtgekngfnhhdamaaM
attribute [local go_sem] aop ev fg_slc fg_slk fg_ptr fg_bool fg_int fg_str fg_iface fg_func fg_agg fg_tup fg_nils fg_nilp fg_nilI fg_nilF fg_und aboundsK alen_nils alen_slc alen_slk aslice_nils aslice_slc aslice_slk awanted abin aun aint aeqn aeqc aeqs apart abounds abnd amaxi amaxiGo cells_agg cells_slc cells_slk cells_ptr cells_bool cells_int cells_str cells_iface cells_func cells_tup cells_nils cells_nilp cells_nilI cells_nilF cells_und sc_slc sc_slk sc_ptr sc_bool sc_int sc_str sc_iface sc_func sc_nils sc_nilp sc_nilI sc_nilF gd_zero gd_succ List.all_cons List.all_nil Bool.and_self Bool.and_true Bool.true_and List.length_cons List.length_nil Option.map_some Option.some.injEq cell_same cell_ne cell_ne' cellsAt_same cellsAt_ne cellsAt_ne' put_same put_of set_same set_ne set_ne' List.getElem?_cons_zero List.getElem?_cons_succ if_true if_false and_self and_true true_and ne_eq not_true_eq_false not_false_eq_true decide_true decide_false Bool.false_eq_true Bool.true_eq_false beq_self_eq_true bne_self_eq_false beq_true beq_false Bool.not_true Bool.not_false List.map_cons List.map_nil putL List.set_cons_zero List.set_cons_succ afill Nat.zero_le Nat.le_refl Nat.zero_add Nat.add_zero List.drop_zero List.drop_succ_cons List.take_zero List.take_succ_cons Bool.not_eq_true Bool.not_eq_false decide_eq_true_eq decide_eq_false_iff_not Int.toNat_zero Nat.sub_zero Int.toNat_natCast Bool.bne_true Bool.bne_false AH.cell AH.cellsAt AH.put Nat.mul_one Nat.one_mul Int.natCast_nonneg List.length_set bs_append bs_size bs_toList bs_extract bs_get List.cons_append List.nil_append List.append_nil Nat.sub_zero bne_self_eq_false beq_self_eq_true azeros Int.le_refl
theorem T_cl : ∀ f fn, T f = some fn → closedF fn = true := by
  intro f fn h
  unfold T at h
  split at h <;> cases h <;> (first | decide +kernel | rfl)
theorem sp45 (h : AH) : Sp T 45 [] h (fun r h' => r = .bool true ∧ Up h h') := Sp_run (n := 1000) T_cl rfl rfl (by decide +kernel) h
def snd (C : Nat) (n : Int) : Bool := decide ((0 ≤ n ∧ n ≤ 11) ∧ (n = 0 ∨ 0 < C))
end Go.Proofs.YtgekngfnhhdamaaI
set_option linter.unusedVariables false
set_option linter.unusedSimpArgs false
set_option maxRecDepth 100000
set_option maxHeartbeats 4000000
namespace Go.Proofs.YtgekngfnhhdamaaI
open Go Go.Proofs.YtgekngfnhhdamaaM
attribute [local go_sem] aop ev fg_slc fg_slk fg_ptr fg_bool fg_int fg_str fg_iface fg_func fg_agg fg_tup fg_nils fg_nilp fg_nilI fg_nilF fg_und aboundsK alen_nils alen_slc alen_slk aslice_nils aslice_slc aslice_slk awanted abin aun aint aeqn aeqc aeqs apart abounds abnd amaxi amaxiGo cells_agg cells_slc cells_slk cells_ptr cells_bool cells_int cells_str cells_iface cells_func cells_tup cells_nils cells_nilp cells_nilI cells_nilF cells_und sc_slc sc_slk sc_ptr sc_bool sc_int sc_str sc_iface sc_func sc_nils sc_nilp sc_nilI sc_nilF gd_zero gd_succ List.all_cons List.all_nil Bool.and_self Bool.and_true Bool.true_and List.length_cons List.length_nil Option.map_some Option.some.injEq cell_same cell_ne cell_ne' cellsAt_same cellsAt_ne cellsAt_ne' put_same put_of set_same set_ne set_ne' List.getElem?_cons_zero List.getElem?_cons_succ if_true if_false and_self and_true true_and ne_eq not_true_eq_false not_false_eq_true decide_true decide_false Bool.false_eq_true Bool.true_eq_false beq_self_eq_true bne_self_eq_false beq_true beq_false Bool.not_true Bool.not_false List.map_cons List.map_nil putL List.set_cons_zero List.set_cons_succ afill Nat.zero_le Nat.le_refl Nat.zero_add Nat.add_zero List.drop_zero List.drop_succ_cons List.take_zero List.take_succ_cons Bool.not_eq_true Bool.not_eq_false decide_eq_true_eq decide_eq_false_iff_not Int.toNat_zero Nat.sub_zero Int.toNat_natCast Bool.bne_true Bool.bne_false AH.cell AH.cellsAt AH.put Nat.mul_one Nat.one_mul Int.natCast_nonneg List.length_set bs_append bs_size bs_toList bs_extract bs_get List.cons_append List.nil_append List.append_nil Nat.sub_zero bne_self_eq_false beq_self_eq_true azeros Int.le_refl
/-- Cut -/
theorem cut16 (s : List UInt8) (n : Nat) (h : AH) : Sp T 16 [.str (bs s), .int .i64 n] h (fun r h' => r = .str (bs (s.take n)) ∧ h' = h) := by
  by_cases c : n < s.length
  · have c1 : (n : Int) < (s.length : Int) := by omega
    have c2 : (n : Int) ≤ (s.length : Int) := by omega
    have c3 : n ≤ s.length := by omega
    refine Sp_of (fn := f16) rfl (show W T b16 [.str (bs s), .int .i64 n, .tup [], .tup [], .tup [], .tup [], .tup [], .tup [], .tup [], .tup [], .tup [], .tup [], .tup []] _ _ from ?_)
    unfold b16
    repeat' (first
      | (refine wNil ?_) | (refine xPure ?_)
      | (refine xMk ?_; intro id hid; (try simp only [set_none_iff] at hid); refine mkDo ?_)
      | (refine xChk ?_) | (refine xChkF ?_) | (refine xSkip ?_)
      | (refine cSeq ?_) | (refine cNorm ?_) | (refine cRet ?_) | (refine cExit ?_) | (refine W_reg rfl ?_) | (refine W_block ?_) | (refine W_ret ?_) | (refine W_skip ?_) | (refine W_exit ?_) | (refine bNorm ?_) | (refine bRet ?_) | (refine bExit ?_) | (refine bExitN rfl ?_)
      | (refine xMask ?_) | (refine xT ?_) | (refine xF ?_) | (refine xRet ?_) | (refine xNorm ?_)
      | (refine wSplit _ rfl (by (first | (simp only [go_sem, *]; (first | done | exact rfl)) | rfl)) ?_ ?_ <;> intro hb <;> (try simp only [beq_false, beq_true, Bool.not_true, Bool.not_false, Bool.not_eq_true', Bool.not_eq_false', decide_eq_false_iff_not, decide_eq_true_eq, bne_iff_ne, beq_iff_eq, Bool.true_eq, Bool.false_eq, Bool.not_not, Bool.and_eq_true, Bool.or_eq_true, Bool.bne_true, Bool.bne_false, bne_eq_false_iff_eq, beq_eq_false_iff_ne, ne_eq] at hb))
      | (refine W_cond _ (by (first | (simp only [go_sem, *]; (first | done | exact rfl)) | rfl)) ?_ ?_ <;> intro hb <;> (try simp only [beq_false, beq_true, Bool.not_true, Bool.not_false, Bool.not_eq_true', Bool.not_eq_false', decide_eq_false_iff_not, decide_eq_true_eq, bne_iff_ne, beq_iff_eq, Bool.true_eq, Bool.false_eq, Bool.not_not, Bool.and_eq_true, Bool.or_eq_true, Bool.bne_true, Bool.bne_false, bne_eq_false_iff_eq, beq_eq_false_iff_ne, ne_eq] at hb)))
    all_goals exact ⟨rfl, rfl⟩
  · have c1 : ¬ (n : Int) < (s.length : Int) := by omega
    rw [List.take_of_length_le (by omega)]
    refine Sp_of (fn := f16) rfl (show W T b16 [.str (bs s), .int .i64 n, .tup [], .tup [], .tup [], .tup [], .tup [], .tup [], .tup [], .tup [], .tup [], .tup [], .tup []] _ _ from ?_)
    unfold b16
    repeat' (first
      | (refine wNil ?_) | (refine xPure ?_)
      | (refine xMk ?_; intro id hid; (try simp only [set_none_iff] at hid); refine mkDo ?_)
      | (refine xChk ?_) | (refine xChkF ?_) | (refine xSkip ?_)
      | (refine cSeq ?_) | (refine cNorm ?_) | (refine cRet ?_) | (refine cExit ?_) | (refine W_reg rfl ?_) | (refine W_block ?_) | (refine W_ret ?_) | (refine W_skip ?_) | (refine W_exit ?_) | (refine bNorm ?_) | (refine bRet ?_) | (refine bExit ?_) | (refine bExitN rfl ?_)
      | (refine xMask ?_) | (refine xT ?_) | (refine xF ?_) | (refine xRet ?_) | (refine xNorm ?_)
      | (refine wSplit _ rfl (by (first | (simp only [go_sem, *]; (first | done | exact rfl)) | rfl)) ?_ ?_ <;> intro hb <;> (try simp only [beq_false, beq_true, Bool.not_true, Bool.not_false, Bool.not_eq_true', Bool.not_eq_false', decide_eq_false_iff_not, decide_eq_true_eq, bne_iff_ne, beq_iff_eq, Bool.true_eq, Bool.false_eq, Bool.not_not, Bool.and_eq_true, Bool.or_eq_true, Bool.bne_true, Bool.bne_false, bne_eq_false_iff_eq, beq_eq_false_iff_ne, ne_eq] at hb))
      | (refine W_cond _ (by (first | (simp only [go_sem, *]; (first | done | exact rfl)) | rfl)) ?_ ?_ <;> intro hb <;> (try simp only [beq_false, beq_true, Bool.not_true, Bool.not_false, Bool.not_eq_true', Bool.not_eq_false', decide_eq_false_iff_not, decide_eq_true_eq, bne_iff_ne, beq_iff_eq, Bool.true_eq, Bool.false_eq, Bool.not_not, Bool.and_eq_true, Bool.or_eq_true, Bool.bne_true, Bool.bne_false, bne_eq_false_iff_eq, beq_eq_false_iff_ne, ne_eq] at hb)))
    all_goals exact ⟨rfl, rfl⟩
/-- An entry. -/
abbrev En := Int × Nat × Int × List UInt8
def eM (x : En) : List AV := [.int .i64 x.1, .int .u64 (x.2.1 : Int), .int .i64 x.2.2.1, .str (bs x.2.2.2)]
theorem eMz (x : En) : (eM x).length = 4 := rfl
theorem eMs (x : En) : (eM x).all AV.scalar = true := rfl
def cutE (x : En) : En := (x.1, x.2.1, x.2.2.1, x.2.2.2.take 402)
def cutL (L : List En) : List En := (L.take 70).map cutE
/-- A list of entries of an argument. -/
def La (h : AH) (S : AV) (L : List En) : Prop := S = .nils ∧ L = [] ∨ ∃ i own rest, S.fg = .slc i 0 L.length 4 ∧ h i = some ⟨own, L.flatMap eM ++ rest⟩
theorem cell3 {cs : List AV} {o : Nat} {a b c d : AV} (h : (cs.drop o).take 4 = [a, b, c, d]) : cs[o + 3]? = some d := by
  have := congrArg (·[3]?) h
  simpa [List.getElem?_take, List.getElem?_drop] using this
theorem set3 : ∀ (A : List En) (x : En) (B : List En), ((A ++ x :: B).flatMap eM).set (A.length * 4 + 3) (.str (bs (x.2.2.2.take 402))) = (A ++ cutE x :: B).flatMap eM
  | [], x, B => by simp [eM, cutE]
  | y :: A, x, B => by
    rw [List.cons_append, List.flatMap_cons, List.cons_append, List.flatMap_cons, List.set_append_right _ _ (by rw [eMz, List.length_cons]; omega), ← set3 A x B]
    congr 2
    rw [eMz, List.length_cons]; omega
def L46c : ICode := (.seq (.block 0 (.loop (.seq (.mask [1, 2, 3, 22, 23]) (.seq (.reg [(0, false)] r46_6)
 (.seq (.cond (.t 24) .skip
 (.exit 0))
 (.seq (.seq (.block 1 (.seq (.reg [(0, false), (1, false)] r46_7)
 (.reg [(0, false), (1, false), (2, false), (3, false), (4, false), (5, false), (6, false), (7, false), (8, false), (9, false), (10, false)] r46_8))) (.mask [1, 2, 3, 22, 23]))
 (.reg [(0, false), (1, false)] r46_9))))))) (.mask [1, 2, 3]))
def R46c : ICode := (.seq (.reg [(0, false), (1, false), (2, false)] r46_10)
 (.seq (.reg [(0, false), (1, false)] r46_11)
 .ret))
theorem loop46 (k1 k2 k3 k4 : Int) (C : Nat) (n1 s1 s2 : Int) (ok : Bool) (x : List UInt8) (S0 : AV) (L : List En) (h g : AH) (b1 b2 id0 : List Nat) (hl : L.length ≤ 70) (hu : Up h g) (h1 : g b1 = some ⟨true, [.int .i64 k1, .int .i64 k2, .int .i64 k3, .int .i64 k4, .int .u64 (C : Int), .int .i64 n1, .int .i64 s1, .int .i64 s2, .bool ok, .str (bs x), S0]⟩) (h2 : g b2 = some ⟨true, [.int .i64 0, .int .i64 0, .int .i64 0, .int .i64 0, .int .u64 0, .int .i64 0, .int .i64 0, .int .i64 0, .bool false, .str ⟨#[]⟩, .nils]⟩) (h3 : g id0 = some ⟨true, L.flatMap eM⟩) (hid : h id0 = none) (hb1 : h b1 = none) (hb2 : h b2 = none) (n12 : b1 ≠ b2) (n13 : b1 ≠ id0) (n23 : b2 ≠ id0)
    (Q : AV → AH → Prop) (hQ : ∀ g', Up h g' → g' id0 = some ⟨true, (L.map cutE).flatMap eM⟩ → Q (.agg [.int .i64 k1, .int .i64 k2, .int .i64 k3, .int .i64 k4, .int .u64 (C : Int), .int .i64 n1, .int .i64 s1, .int .i64 s2, .bool ok, .str (bs x), .slc id0 0 L.length 4]) g') (tm : List AV) (htm : keep [1, 2, 3, 22, 23] 0 tm = [.und, .ptr b1 0, .ptr b2 0, .slc id0 0 L.length 4, .und, .und, .und, .und, .und, .und, .und, .und, .und, .und, .und, .und, .und, .und, .und, .und, .und, .und, .int .i64 (L.length : Int), .int .i64 0, .und, .und, .und, .und, .und, .und, .und, .und, .und, .und, .und, .und, .und, .und, .und, .und]) :
    W T L46c tm g (Then (fun tm' h' => W T R46c tm' h' (Rets f46 Q)) (Rets f46 Q)) := by
  unfold L46c
  refine cSeq ?_
  refine W_block ?_
  refine W_loop (fun m tm g' => ∃ k : Nat, k + m = L.length ∧ g' = g.set id0 (some ⟨true, ((L.take k).map cutE ++ L.drop k).flatMap eM⟩) ∧ keep [1, 2, 3, 22, 23] 0 tm = [.und, .ptr b1 0, .ptr b2 0, .slc id0 0 L.length 4, .und, .und, .und, .und, .und, .und, .und, .und, .und, .und, .und, .und, .und, .und, .und, .und, .und, .und, .int .i64 (L.length : Int), .int .i64 (k : Int), .und, .und, .und, .und, .und, .und, .und, .und, .und, .und, .und, .und, .und, .und, .und, .und]) L.length ⟨0, by omega, by simp only [List.take_zero, List.map_nil, List.nil_append, List.drop_zero]; funext y; by_cases e : y = id0; (subst e; rw [set_same, h3]); rw [set_ne e], htm⟩ ?_
  clear htm
  rintro m tm g' ⟨k, hk, rfl, htm⟩
  refine cSeq (cMask (cNorm ?_))
  rw [htm]; clear htm
  by_cases hkl : k < L.length
  · have d1 : (k : Int) < (L.length : Int) := by omega
    have d2 : (0 : Int) ≤ (k : Int) := by omega
    have w1 : IntKind.i64.wrap ((k : Int) + 1) = ((k + 1 : Nat) : Int) := by rw [wrap64 (by omega) (by omega)]; rfl
    obtain ⟨y, hy⟩ : ∃ y, L[k]? = some y := ⟨_, List.getElem?_eq_getElem hkl⟩
    have hdr : L.drop k = y :: L.drop (k + 1) := by rw [List.drop_eq_getElem_cons hkl, (List.getElem?_eq_some_iff.1 hy).2]
    have htk : L.take (k + 1) = L.take k ++ [y] := by rw [List.take_add_one, hy]; rfl
    have hAl : ((L.take k).map cutE).length = k := by rw [List.length_map, List.length_take]; omega
    have hget : ((L.take k).map cutE ++ L.drop k)[k]? = some y := by rw [hdr, List.getElem?_append_right (by omega), hAl]; simp
    obtain ⟨g1, g2⟩ := flat_get eMz hget []
    rw [List.append_nil] at g1 g2
    have g3 := cell3 (show _ = [.int .i64 y.1, .int .u64 (y.2.1 : Int), .int .i64 y.2.2.1, .str (bs y.2.2.2)] from g2)
    have g4 := set3 ((L.take k).map cutE) y (L.drop (k + 1))
    rw [hAl, ← hdr] at g4
    have g5 : ((L.take (k + 1)).map cutE ++ L.drop (k + 1)).flatMap eM = ((L.take k).map cutE ++ cutE y :: L.drop (k + 1)).flatMap eM := by rw [htk, List.map_append, List.append_assoc]; rfl
    rw [← g5] at g4
    have c16 : ∀ h, Sp T 16 [.str (bs y.2.2.2), .int .i64 402] h (fun r h' => r = .str (bs (y.2.2.2.take 402)) ∧ h' = h) := fun h => cut16 y.2.2.2 402 h
    obtain ⟨cs, hcs⟩ : ∃ cs, ((L.take k).map cutE ++ L.drop k).flatMap eM = cs := ⟨_, rfl⟩
    rw [hcs] at g1 g3 g4 ⊢
    have g6 : k * 4 + 3 + 1 ≤ cs.length := by omega
    clear hcs g2 g5 hget hdr htk hAl hy hQ
    repeat' (first
      | (refine wNil ?_) | (refine xPure ?_)
      | (refine xMk ?_; intro id hid; (try simp only [set_none_iff] at hid); refine mkDo ?_)
      | (refine xChk ?_) | (refine xChkF ?_) | (refine xSkip ?_)
      | (refine xCall rfl rfl (c16 _) ?_; rintro r q3 ⟨rfl, hx⟩; cases hx; refine nTm ?_)
      | (refine cSeq ?_) | (refine cNorm ?_) | (refine cRet ?_) | (refine cExit ?_) | (refine W_reg rfl ?_) | (refine W_block ?_) | (refine W_ret ?_) | (refine W_skip ?_) | (refine W_exit ?_) | (refine bNorm ?_) | (refine bRet ?_) | (refine bExit ?_) | (refine bExitN rfl ?_)
      | (refine xMask ?_) | (refine xT ?_) | (refine xF ?_) | (refine xRet ?_) | (refine xNorm ?_)
      | (refine wSplit _ rfl (by (first | (simp only [go_sem, *]; (first | done | exact rfl)) | rfl)) ?_ ?_ <;> intro hb <;> (try simp only [beq_false, beq_true, Bool.not_true, Bool.not_false, Bool.not_eq_true', Bool.not_eq_false', decide_eq_false_iff_not, decide_eq_true_eq, bne_iff_ne, beq_iff_eq, Bool.true_eq, Bool.false_eq, Bool.not_not, Bool.and_eq_true, Bool.or_eq_true, Bool.bne_true, Bool.bne_false, bne_eq_false_iff_eq, beq_eq_false_iff_ne, ne_eq] at hb))
      | (refine W_cond _ (by (first | (simp only [go_sem, *]; (first | done | exact rfl)) | rfl)) ?_ ?_ <;> intro hb <;> (try simp only [beq_false, beq_true, Bool.not_true, Bool.not_false, Bool.not_eq_true', Bool.not_eq_false', decide_eq_false_iff_not, decide_eq_true_eq, bne_iff_ne, beq_iff_eq, Bool.true_eq, Bool.false_eq, Bool.not_not, Bool.and_eq_true, Bool.or_eq_true, Bool.bne_true, Bool.bne_false, bne_eq_false_iff_eq, beq_eq_false_iff_ne, ne_eq] at hb)))
    all_goals exact ⟨m - 1, by omega, k + 1, by omega, by first | (simp only [set_set]; done) | (simp only [set_set]; rw [g4]), by simp only [keep, List.contains_cons, List.contains_nil, Nat.reduceBEq, Bool.or_true, Bool.true_or, Bool.or_false, Bool.false_or, if_true, if_false, Bool.false_eq_true, beq_self_eq_true, Nat.zero_add, Nat.reduceAdd, eq_self]⟩
  · have d1 : ¬ (k : Int) < (L.length : Int) := by omega
    rw [List.take_of_length_le (by omega), List.drop_of_length_le (by omega), List.append_nil]
    unfold R46c
    repeat' (first
      | (refine wNil ?_) | (refine xPure ?_)
      | (refine xMk ?_; intro id hid; (try simp only [set_none_iff] at hid); refine mkDo ?_)
      | (refine xChk ?_) | (refine xChkF ?_) | (refine xSkip ?_)
      | (refine cSeq ?_) | (refine cNorm ?_) | (refine cRet ?_) | (refine cExit ?_) | (refine W_reg rfl ?_) | (refine W_block ?_) | (refine W_ret ?_) | (refine W_skip ?_) | (refine W_exit ?_) | (refine bNorm ?_) | (refine bRet ?_) | (refine bExit ?_) | (refine bExitN rfl ?_)
      | (refine xMask ?_) | (refine xT ?_) | (refine xF ?_) | (refine xRet ?_) | (refine xNorm ?_)
      | (refine wSplit _ rfl (by (first | (simp only [go_sem, *]; (first | done | exact rfl)) | rfl)) ?_ ?_ <;> intro hb <;> (try simp only [beq_false, beq_true, Bool.not_true, Bool.not_false, Bool.not_eq_true', Bool.not_eq_false', decide_eq_false_iff_not, decide_eq_true_eq, bne_iff_ne, beq_iff_eq, Bool.true_eq, Bool.false_eq, Bool.not_not, Bool.and_eq_true, Bool.or_eq_true, Bool.bne_true, Bool.bne_false, bne_eq_false_iff_eq, beq_eq_false_iff_ne, ne_eq] at hb))
      | (refine W_cond _ (by (first | (simp only [go_sem, *]; (first | done | exact rfl)) | rfl)) ?_ ?_ <;> intro hb <;> (try simp only [beq_false, beq_true, Bool.not_true, Bool.not_false, Bool.not_eq_true', Bool.not_eq_false', decide_eq_false_iff_not, decide_eq_true_eq, bne_iff_ne, beq_iff_eq, Bool.true_eq, Bool.false_eq, Bool.not_not, Bool.and_eq_true, Bool.or_eq_true, Bool.bne_true, Bool.bne_false, bne_eq_false_iff_eq, beq_eq_false_iff_ne, ne_eq] at hb)))
    all_goals (refine ⟨[.agg [.int .i64 k1, .int .i64 k2, .int .i64 k3, .int .i64 k4, .int .u64 (C : Int), .int .i64 n1, .int .i64 s1, .int .i64 s2, .bool ok, .str (bs x), .slc id0 0 L.length 4]], (by simp [ares, ares1, f46, ev, AH.cellsAt, AH.cell, set_same, set_ne', *]), ?_⟩)
    refine hQ _ (Up.new (Up.new (Up.new hu hid) hb1) hb2) ?_
    rw [set_ne (Ne.symm n23), set_ne (Ne.symm n13), set_same]
end Go.Proofs.YtgekngfnhhdamaaI
set_option linter.unusedVariables false
set_option linter.unusedSimpArgs false
set_option maxRecDepth 100000
set_option maxHeartbeats 4000000
namespace Go.Proofs.YtgekngfnhhdamaaI
open Go Go.Proofs.YtgekngfnhhdamaaM
attribute [local go_sem] aop ev fg_slc fg_slk fg_ptr fg_bool fg_int fg_str fg_iface fg_func fg_agg fg_tup fg_nils fg_nilp fg_nilI fg_nilF fg_und aboundsK alen_nils alen_slc alen_slk aslice_nils aslice_slc aslice_slk awanted abin aun aint aeqn aeqc aeqs apart abounds abnd amaxi amaxiGo cells_agg cells_slc cells_slk cells_ptr cells_bool cells_int cells_str cells_iface cells_func cells_tup cells_nils cells_nilp cells_nilI cells_nilF cells_und sc_slc sc_slk sc_ptr sc_bool sc_int sc_str sc_iface sc_func sc_nils sc_nilp sc_nilI sc_nilF gd_zero gd_succ List.all_cons List.all_nil Bool.and_self Bool.and_true Bool.true_and List.length_cons List.length_nil Option.map_some Option.some.injEq cell_same cell_ne cell_ne' cellsAt_same cellsAt_ne cellsAt_ne' put_same put_of set_same set_ne set_ne' List.getElem?_cons_zero List.getElem?_cons_succ if_true if_false and_self and_true true_and ne_eq not_true_eq_false not_false_eq_true decide_true decide_false Bool.false_eq_true Bool.true_eq_false beq_self_eq_true bne_self_eq_false beq_true beq_false Bool.not_true Bool.not_false List.map_cons List.map_nil putL List.set_cons_zero List.set_cons_succ afill Nat.zero_le Nat.le_refl Nat.zero_add Nat.add_zero List.drop_zero List.drop_succ_cons List.take_zero List.take_succ_cons Bool.not_eq_true Bool.not_eq_false decide_eq_true_eq decide_eq_false_iff_not Int.toNat_zero Nat.sub_zero Int.toNat_natCast Bool.bne_true Bool.bne_false AH.cell AH.cellsAt AH.put Nat.mul_one Nat.one_mul Int.natCast_nonneg List.length_set aslice azeros bs_append bs_size bs_toList bs_extract bs_get List.cons_append List.nil_append List.append_nil AV.scalar Int.le_refl List.length_append
def gB (s : List UInt8) (e : Int) : List UInt8 × Int × Nat × Nat :=
  let q := tU s e
  let w := tN q.1 q.2.1 11
  let e3 := if q.2.2 = 0 ∧ 0 < w.2.2 then fl w.2.1 4 else w.2.1
  (w.1, e3, if e3 = 0 then (q.2.2, w.2.2) else (0, 0))
theorem Rd.new {h0 h : AH} {p q : List Nat} {s : List UInt8} {e : Int} {b : Option Blk} (hr : Rd h0 p h s e) (hq : h q = none) : Rd (h0.set q b) p (h.set q b) s e := by
  have := hr.new2 (a := b) (b := b) hq
  rw [set_set] at this; exact this
theorem Rd.wr {h0 h : AH} {p q : List Nat} {s : List UInt8} {e : Int} {b : Option Blk} (hr : Rd h0 p h s e) (hq : h0 q = none) (hpq : p ≠ q) : Rd h0 p (h.set q b) s e := ⟨hr.1.set hq, hr.2.1, by rw [set_ne hpq]; exact hr.2.2⟩
/-- Get -/
theorem sp37 (h0 : AH) (p : List Nat) (s : List UInt8) (e : Int) (h : AH) (hr : Rd h0 p h s e) : Sp T 37 [.ptr p 0] h (fun r h' => r = .agg [.int .u64 (gB s e).2.2.1, .int .i64 (gB s e).2.2.2] ∧ Rd h0 p h' (gB s e).1 (gB s e).2.1) := by
  have hp := hr.2.2
  have k19 : ∀ (h0 h : AH), Rd h0 p h s e → Sp T 19 [.ptr p 0] h (fun r h' => r = .int .u64 (tU s e).2.2 ∧ Rd h0 p h' (tU s e).1 (tU s e).2.1) := fun h0 h hr => sp19 h0 p s e h hr
  unfold gB
  obtain ⟨⟨R, e2, C⟩, hq⟩ : ∃ q, tU s e = q := ⟨_, rfl⟩
  simp only [hq] at k19 ⊢
  clear hq
  have k21 : ∀ (h0 h : AH), Rd h0 p h R e2 → Sp T 21 [.ptr p 0, .int .i64 11] h (fun r h' => r = .int .i64 (tN R e2 11).2.2 ∧ Rd h0 p h' (tN R e2 11).1 (tN R e2 11).2.1) := fun h0 h hr => sp21 h0 p R e2 11 h hr (by decide)
  obtain ⟨⟨R2, e3, n⟩, hq⟩ : ∃ q, tN R e2 11 = q := ⟨_, rfl⟩
  simp only [hq] at k21 ⊢
  clear hq
  by_cases c : C = 0 ∧ 0 < n
  · have c1 : ((C : Int) == 0) = true := by simp [c.1]
    have c2 : (0 : Int) < (n : Int) := by omega
    rw [if_pos c]
    have f : ¬ fl e3 4 = 0 := by unfold fl; split <;> omega
    have f' : (fl e3 4 != 0) = true := by simpa using f
    rw [if_neg f]
    refine Sp_of (fn := f37) rfl (show W T b37 [.ptr p 0, .tup [], .tup [], .tup [], .tup [], .tup [], .tup [], .tup [], .tup [], .tup [], .tup [], .tup [], .tup [], .tup [], .tup [], .tup [], .tup [], .tup [], .tup [], .tup [], .tup [], .tup [], .tup [], .tup [], .tup []] _ _ from ?_)
    unfold b37
    repeat' (first
      | (refine wNil ?_) | (refine xPure ?_)
      | (refine xMk ?_; intro id hid; (try simp only [set_none_iff] at hid); have hz := hid; (repeat (replace hz := hz.2)); (try have := nei hp hz); (try have := nei hp2 hz); (try have := nei g2 hz); refine mkDo ?_)
      | (refine xChk ?_) | (refine xChkF ?_) | (refine xSkip ?_)
      | (refine xCall rfl rfl (k19 _ _ (hr.new hid)) ?_; rintro r h2 ⟨rfl, hr2⟩; have hp2 := hr2.2.2; have g2 := hr2.1 _ _ set_same; obtain ⟨r2, rfl⟩ : ∃ x, x = id := ⟨_, rfl⟩; refine nTm ?_)
      | (refine xCall rfl rfl (k21 _ _ (hr2.new2 hid)) ?_; rintro r h3 ⟨rfl, hr3⟩; have hp3 := hr3.2.2; have g3 := hr3.1 _ _ set_same; have g4 : h3 r2 = some ⟨true, [.int .u64 0, .int .i64 0]⟩ := hr3.1 _ _ (by simp only [go_sem, *]); have hr4 := hr3.drop (hr2.1.no hid); refine nTm ?_)
      | (refine xCall rfl rfl (sp32 _ p R2 e3 4 _ (Rd.wr hr4 (hr2.1.no hid) (nei hp2 hid))) ?_; rintro r h5 hr5; have hp5 := hr5.2.2; have g5 := hr5.1 _ _ set_same; refine nTm ?_)
      | (refine xCall rfl rfl (sp26 _ p R2 _ _ hr5) ?_; rintro r h' ⟨rfl, hx⟩; cases hx; refine nTm ?_)
      | (refine cSeq ?_) | (refine cNorm ?_) | (refine cRet ?_) | (refine cExit ?_) | (refine W_reg rfl ?_) | (refine W_block ?_) | (refine W_ret ?_) | (refine W_skip ?_) | (refine W_exit ?_) | (refine bNorm ?_) | (refine bRet ?_) | (refine bExit ?_) | (refine bExitN rfl ?_)
      | (refine xMask ?_) | (refine xT ?_) | (refine xF ?_) | (refine xRet ?_) | (refine xNorm ?_)
      | (refine wSplit _ rfl (by (first | (simp only [go_sem, *]; (first | done | exact rfl)) | rfl)) ?_ ?_ <;> intro hb <;> (try simp only [beq_false, beq_true, Bool.not_true, Bool.not_false, Bool.not_eq_true', Bool.not_eq_false', decide_eq_false_iff_not, decide_eq_true_eq, bne_iff_ne, beq_iff_eq, Bool.true_eq, Bool.false_eq, Bool.not_not, Bool.and_eq_true, Bool.or_eq_true, Bool.bne_true, Bool.bne_false, bne_eq_false_iff_eq, beq_eq_false_iff_ne, ne_eq] at hb))
      | (refine W_cond _ (by (first | (simp only [go_sem, *]; (first | done | exact rfl)) | rfl)) ?_ ?_ <;> intro hb <;> (try simp only [beq_false, beq_true, Bool.not_true, Bool.not_false, Bool.not_eq_true', Bool.not_eq_false', decide_eq_false_iff_not, decide_eq_true_eq, bne_iff_ne, beq_iff_eq, Bool.true_eq, Bool.false_eq, Bool.not_not, Bool.and_eq_true, Bool.or_eq_true, Bool.bne_true, Bool.bne_false, bne_eq_false_iff_eq, beq_eq_false_iff_ne, ne_eq] at hb)))
    all_goals (refine ⟨[.agg [.int .u64 0, .int .i64 0]], (by simp [ares, ares1, f37, ev, AH.cellsAt, AH.cell, set_same, set_ne', *]), rfl, Rd.wr (hr5.drop (hr.1.no (by assumption))) (hr.1.no (by assumption)) (by first | assumption | exact nei hp (by assumption))⟩)
  · rw [if_neg c]
    have cc : ((C : Int) == 0) = false ∨ (((C : Int) == 0) = true ∧ ¬ (0 : Int) < (n : Int)) := by
      by_cases c0 : C = 0
      · exact .inr ⟨by simp [c0], by omega⟩
      · exact .inl (by simp; omega)
    by_cases z : e3 = 0
    · subst z
      rw [if_pos rfl]
      rcases cc with c1 | ⟨c1, c2⟩
      all_goals
        refine Sp_of (fn := f37) rfl (show W T b37 [.ptr p 0, .tup [], .tup [], .tup [], .tup [], .tup [], .tup [], .tup [], .tup [], .tup [], .tup [], .tup [], .tup [], .tup [], .tup [], .tup [], .tup [], .tup [], .tup [], .tup [], .tup [], .tup [], .tup [], .tup [], .tup []] _ _ from ?_)
        unfold b37
        repeat' (first
          | (refine wNil ?_) | (refine xPure ?_)
          | (refine xMk ?_; intro id hid; (try simp only [set_none_iff] at hid); have hz := hid; (repeat (replace hz := hz.2)); (try have := nei hp hz); (try have := nei hp2 hz); (try have := nei g2 hz); refine mkDo ?_)
          | (refine xChk ?_) | (refine xChkF ?_) | (refine xSkip ?_)
          | (refine xCall rfl rfl (k19 _ _ (hr.new hid)) ?_; rintro r h2 ⟨rfl, hr2⟩; have hp2 := hr2.2.2; have g2 := hr2.1 _ _ set_same; obtain ⟨r2, rfl⟩ : ∃ x, x = id := ⟨_, rfl⟩; refine nTm ?_)
          | (refine xCall rfl rfl (k21 _ _ (hr2.new2 hid)) ?_; rintro r h3 ⟨rfl, hr3⟩; have hp3 := hr3.2.2; have g3 := hr3.1 _ _ set_same; have g4 : h3 r2 = some ⟨true, [.int .u64 0, .int .i64 0]⟩ := hr3.1 _ _ (by simp only [go_sem, *]); have hr4 := hr3.drop (hr2.1.no hid); refine nTm ?_)
          | (refine xCall rfl rfl (sp26 _ p R2 0 _ (Rd.wr hr4 (hr2.1.no hid) (nei hp2 hid))) ?_; rintro r h' ⟨rfl, hx⟩; cases hx; refine nTm ?_)
          | (refine cSeq ?_) | (refine cNorm ?_) | (refine cRet ?_) | (refine cExit ?_) | (refine W_reg rfl ?_) | (refine W_block ?_) | (refine W_ret ?_) | (refine W_skip ?_) | (refine W_exit ?_) | (refine bNorm ?_) | (refine bRet ?_) | (refine bExit ?_) | (refine bExitN rfl ?_)
          | (refine xMask ?_) | (refine xT ?_) | (refine xF ?_) | (refine xRet ?_) | (refine xNorm ?_)
          | (refine wSplit _ rfl (by (first | (simp only [go_sem, *]; (first | done | exact rfl)) | rfl)) ?_ ?_ <;> intro hb <;> (try simp only [beq_false, beq_true, Bool.not_true, Bool.not_false, Bool.not_eq_true', Bool.not_eq_false', decide_eq_false_iff_not, decide_eq_true_eq, bne_iff_ne, beq_iff_eq, Bool.true_eq, Bool.false_eq, Bool.not_not, Bool.and_eq_true, Bool.or_eq_true, Bool.bne_true, Bool.bne_false, bne_eq_false_iff_eq, beq_eq_false_iff_ne, ne_eq] at hb))
          | (refine W_cond _ (by (first | (simp only [go_sem, *]; (first | done | exact rfl)) | rfl)) ?_ ?_ <;> intro hb <;> (try simp only [beq_false, beq_true, Bool.not_true, Bool.not_false, Bool.not_eq_true', Bool.not_eq_false', decide_eq_false_iff_not, decide_eq_true_eq, bne_iff_ne, beq_iff_eq, Bool.true_eq, Bool.false_eq, Bool.not_not, Bool.and_eq_true, Bool.or_eq_true, Bool.bne_true, Bool.bne_false, bne_eq_false_iff_eq, beq_eq_false_iff_ne, ne_eq] at hb)))
      all_goals (refine ⟨[.agg [.int .u64 C, .int .i64 n]], (by simp [ares, ares1, f37, ev, AH.cellsAt, AH.cell, set_same, set_ne', *]), rfl, Rd.wr ((Rd.wr hr4 (hr2.1.no hid) (nei hp2 hid)).drop (hr.1.no (by assumption))) (hr.1.no (by assumption)) (by first | assumption | exact nei hp (by assumption))⟩)
    · have z' : (e3 != 0) = true := by simpa using z
      rw [if_neg z]
      rcases cc with c1 | ⟨c1, c2⟩
      all_goals
        refine Sp_of (fn := f37) rfl (show W T b37 [.ptr p 0, .tup [], .tup [], .tup [], .tup [], .tup [], .tup [], .tup [], .tup [], .tup [], .tup [], .tup [], .tup [], .tup [], .tup [], .tup [], .tup [], .tup [], .tup [], .tup [], .tup [], .tup [], .tup [], .tup [], .tup []] _ _ from ?_)
        unfold b37
        repeat' (first
          | (refine wNil ?_) | (refine xPure ?_)
          | (refine xMk ?_; intro id hid; (try simp only [set_none_iff] at hid); have hz := hid; (repeat (replace hz := hz.2)); (try have := nei hp hz); (try have := nei hp2 hz); (try have := nei g2 hz); refine mkDo ?_)
          | (refine xChk ?_) | (refine xChkF ?_) | (refine xSkip ?_)
          | (refine xCall rfl rfl (k19 _ _ (hr.new hid)) ?_; rintro r h2 ⟨rfl, hr2⟩; have hp2 := hr2.2.2; have g2 := hr2.1 _ _ set_same; obtain ⟨r2, rfl⟩ : ∃ x, x = id := ⟨_, rfl⟩; refine nTm ?_)
          | (refine xCall rfl rfl (k21 _ _ (hr2.new2 hid)) ?_; rintro r h3 ⟨rfl, hr3⟩; have hp3 := hr3.2.2; have g3 := hr3.1 _ _ set_same; have g4 : h3 r2 = some ⟨true, [.int .u64 0, .int .i64 0]⟩ := hr3.1 _ _ (by simp only [go_sem, *]); have hr4 := hr3.drop (hr2.1.no hid); refine nTm ?_)
          | (refine xCall rfl rfl (sp26 _ p R2 e3 _ (Rd.wr hr4 (hr2.1.no hid) (nei hp2 hid))) ?_; rintro r h' ⟨rfl, hx⟩; cases hx; refine nTm ?_)
          | (refine cSeq ?_) | (refine cNorm ?_) | (refine cRet ?_) | (refine cExit ?_) | (refine W_reg rfl ?_) | (refine W_block ?_) | (refine W_ret ?_) | (refine W_skip ?_) | (refine W_exit ?_) | (refine bNorm ?_) | (refine bRet ?_) | (refine bExit ?_) | (refine bExitN rfl ?_)
          | (refine xMask ?_) | (refine xT ?_) | (refine xF ?_) | (refine xRet ?_) | (refine xNorm ?_)
          | (refine wSplit _ rfl (by (first | (simp only [go_sem, *]; (first | done | exact rfl)) | rfl)) ?_ ?_ <;> intro hb <;> (try simp only [beq_false, beq_true, Bool.not_true, Bool.not_false, Bool.not_eq_true', Bool.not_eq_false', decide_eq_false_iff_not, decide_eq_true_eq, bne_iff_ne, beq_iff_eq, Bool.true_eq, Bool.false_eq, Bool.not_not, Bool.and_eq_true, Bool.or_eq_true, Bool.bne_true, Bool.bne_false, bne_eq_false_iff_eq, beq_eq_false_iff_ne, ne_eq] at hb))
          | (refine W_cond _ (by (first | (simp only [go_sem, *]; (first | done | exact rfl)) | rfl)) ?_ ?_ <;> intro hb <;> (try simp only [beq_false, beq_true, Bool.not_true, Bool.not_false, Bool.not_eq_true', Bool.not_eq_false', decide_eq_false_iff_not, decide_eq_true_eq, bne_iff_ne, beq_iff_eq, Bool.true_eq, Bool.false_eq, Bool.not_not, Bool.and_eq_true, Bool.or_eq_true, Bool.bne_true, Bool.bne_false, bne_eq_false_iff_eq, beq_eq_false_iff_ne, ne_eq] at hb)))
      all_goals (refine ⟨[.agg [.int .u64 0, .int .i64 0]], (by simp [ares, ares1, f37, ev, AH.cellsAt, AH.cell, set_same, set_ne', *]), rfl, Rd.wr ((Rd.wr hr4 (hr2.1.no hid) (nei hp2 hid)).drop (hr.1.no (by assumption))) (hr.1.no (by assumption)) (by first | assumption | exact nei hp (by assumption))⟩)
theorem Rd.both {B g : AH} {p q : List Nat} {s : List UInt8} {e : Int} {b : Option Blk} (hr : Rd B p g s e) (hq : q ≠ p) : Rd (B.set q b) p (g.set q b) s e :=
  ⟨hr.1.both, by rw [set_ne (Ne.symm hq)]; exact hr.2.1, by rw [set_ne (Ne.symm hq)]; exact hr.2.2⟩
theorem Rd.more2 {B g : AH} {p q : List Nat} {s : List UInt8} {e : Int} {a b : Option Blk} (hr : Rd B p g s e) (hq : g q = none) : Rd B p ((g.set q a).set q b) s e := by
  rw [set_set]; exact hr.more hq
theorem Rd.weak {B B' g : AH} {p : List Nat} {s : List UInt8} {e : Int} (hr : Rd B' p g s e) (hs : Sub B B') : Rd B p g s e :=
  ⟨fun x b h => hr.1 x b (hs x b h), hs.no hr.2.1, hr.2.2⟩
/-- An entry, read behind a slot. -/
def eG (s : List UInt8) (e last : Int) : List UInt8 × Int × En :=
  let q := tN s e 1099511627776
  let e1 := if (q.2.2 : Int) ≤ last then fl q.2.1 4 else q.2.1
  let b := gB q.1 e1
  let x := tS b.1 b.2.1 400
  (x.1, x.2.1, ((q.2.2 : Int), b.2.2.1, (b.2.2.2 : Int), x.2.2))
/-- entry -/
theorem sp78 (B : AH) (p : List Nat) (s : List UInt8) (e last : Int) (h : AH) (hr : Rd B p h s e) : Sp T 78 [.ptr p 0, .int .i64 last] h (fun r h' => r = .agg (eM (eG s e last).2.2) ∧ Rd B p h' (eG s e last).1 (eG s e last).2.1) := by
  have hp := hr.2.2
  have k21 : ∀ (B h : AH), Rd B p h s e → Sp T 21 [.ptr p 0, .int .i64 1099511627776] h (fun r h' => r = .int .i64 (tN s e 1099511627776).2.2 ∧ Rd B p h' (tN s e 1099511627776).1 (tN s e 1099511627776).2.1) := fun B h hr => sp21 B p s e 1099511627776 h hr (by decide)
  unfold eG
  obtain ⟨⟨R, e1, n⟩, hq⟩ : ∃ q, tN s e 1099511627776 = q := ⟨_, rfl⟩
  simp only [hq] at k21 ⊢
  clear hq
  obtain ⟨e2, hfl⟩ : ∃ z, fl e1 4 = z := ⟨_, rfl⟩
  by_cases c : (n : Int) ≤ last
  · rw [if_pos c, hfl]
    have k37 : ∀ (B h : AH), Rd B p h R e2 → Sp T 37 [.ptr p 0] h (fun r h' => r = .agg [.int .u64 (gB R e2).2.2.1, .int .i64 (gB R e2).2.2.2] ∧ Rd B p h' (gB R e2).1 (gB R e2).2.1) := fun B h hr => sp37 B p R e2 h hr
    obtain ⟨⟨R2, e3, C, m⟩, hq⟩ : ∃ q, gB R e2 = q := ⟨_, rfl⟩
    simp only [hq] at k37 ⊢
    clear hq
    have k25 : ∀ (B h : AH), Rd B p h R2 e3 → Sp T 25 [.ptr p 0, .int .i64 400] h (fun r h' => r = .str (bs (tS R2 e3 400).2.2) ∧ Rd B p h' (tS R2 e3 400).1 (tS R2 e3 400).2.1) := fun B h hr => sp25 B p R2 e3 400 h hr (by decide)
    obtain ⟨⟨R3, e4, w⟩, hq⟩ : ∃ q, tS R2 e3 400 = q := ⟨_, rfl⟩
    simp only [hq] at k25 ⊢
    clear hq
    refine Sp_of (fn := f78) rfl (show W T b78 [.ptr p 0, .int .i64 last, .tup [], .tup [], .tup [], .tup [], .tup [], .tup [], .tup [], .tup [], .tup [], .tup [], .tup [], .tup [], .tup [], .tup [], .tup [], .tup [], .tup [], .tup [], .tup [], .tup []] _ _ from ?_)
    unfold b78
    repeat' (first
      | (refine wNil ?_)
      | (refine wPure rfl (by (first | (simp only [go_sem, bs_append, bs_size, bs_toList, bs_extract, bs_get, reduceIte, List.append_nil, Nat.sub_zero, bne_self_eq_false, beq_self_eq_true, azeros, Int.le_refl, *]; (first | done | exact rfl)) | rfl)) rfl (by (first | (simp only [go_sem, bs_append, bs_size, bs_toList, bs_extract, bs_get, reduceIte, List.append_nil, Nat.sub_zero, bne_self_eq_false, beq_self_eq_true, azeros, Int.le_refl, *]; (first | done | exact rfl)) | rfl)) ?_; dsimp only [putT, ev, Int.toNat_zero, Nat.sub_zero, Int.toNat_natCast,  gd_zero, gd_succ, Nat.zero_add, Nat.add_zero, Nat.reduceAdd, Nat.reduceMul, List.set_cons_zero, List.set_cons_succ, keep, List.contains_cons, List.contains_nil])
      | (refine wMk rfl (by (first | (simp only [go_sem, bs_append, bs_size, bs_toList, bs_extract, bs_get, reduceIte, List.append_nil, Nat.sub_zero, bne_self_eq_false, beq_self_eq_true, azeros, Int.le_refl, *]; (first | done | exact rfl)) | rfl)) rfl ?_; intro id hid; (try simp only [set_none_iff] at hid); have hz := hid; (repeat (replace hz := hz.2)); (try have := nei hp hz); (try have := nei hp2 hz); (try have := nei g2 hz); (try have := nei g3 hz); (try have := nei g4 hz); refine ⟨_, (by (first | (simp only [go_sem, bs_append, bs_size, bs_toList, bs_extract, bs_get, reduceIte, List.append_nil, Nat.sub_zero, bne_self_eq_false, beq_self_eq_true, azeros, Int.le_refl, *]; (first | done | exact rfl)) | rfl)), ?_⟩; dsimp only [putT, ev, Int.toNat_zero, Nat.sub_zero, Int.toNat_natCast,  gd_zero, gd_succ, Nat.zero_add, Nat.add_zero, Nat.reduceAdd, Nat.reduceMul, List.set_cons_zero, List.set_cons_succ, keep, List.contains_cons, List.contains_nil])
      | (refine wChk rfl (by (first | (simp only [go_sem, bs_append, bs_size, bs_toList, bs_extract, bs_get, reduceIte, List.append_nil, Nat.sub_zero, bne_self_eq_false, beq_self_eq_true, azeros, Int.le_refl, *]; (first | done | exact rfl)) | rfl)) rfl (by (first | (simp only [go_sem, bs_append, bs_size, bs_toList, bs_extract, bs_get, reduceIte, List.append_nil, Nat.sub_zero, bne_self_eq_false, beq_self_eq_true, azeros, Int.le_refl, *]; (first | done | exact rfl)) | rfl)) rfl ?_) | (refine wChkF rfl (by (first | (simp only [go_sem, bs_append, bs_size, bs_toList, bs_extract, bs_get, reduceIte, List.append_nil, Nat.sub_zero, bne_self_eq_false, beq_self_eq_true, azeros, Int.le_refl, *]; (first | done | exact rfl)) | rfl)) rfl ?_)
      | (refine wSkip rfl (by (first | (simp only [go_sem, bs_append, bs_size, bs_toList, bs_extract, bs_get, reduceIte, List.append_nil, Nat.sub_zero, bne_self_eq_false, beq_self_eq_true, azeros, Int.le_refl, *]; (first | done | exact rfl)) | rfl)) ?_; dsimp only [putT, ev, Int.toNat_zero, Nat.sub_zero, Int.toNat_natCast,  gd_zero, gd_succ, Nat.zero_add, Nat.add_zero, Nat.reduceAdd, Nat.reduceMul, List.set_cons_zero, List.set_cons_succ, keep, List.contains_cons, List.contains_nil])
      | (refine xCall rfl rfl (k21 _ _ (hr.new hid)) ?_; rintro r h2 ⟨rfl, hr2⟩; have hB2 := hr.1.no hid; have hn2 := nei hp hid; have hp2 := hr2.2.2; have g2 := hr2.1 _ _ set_same; obtain ⟨r2, rfl⟩ : ∃ x, x = id := ⟨_, rfl⟩; refine nTm ?_)
      | (refine xCall rfl rfl (sp32 _ p R e1 4 _ (hr2.new2 hid)) ?_; rintro r h3 hr3; rw [hfl] at hr3; have hp3 := hr3.2.2; have g3 := hr3.1 _ _ set_same; have g4 : h3 r2 = some ⟨true, [.int .i64 0, .int .u64 0, .int .i64 0, .str ⟨#[]⟩]⟩ := hr3.1 _ _ (by simp only [go_sem, *]); refine nTm ?_)
      | (refine xCall rfl rfl (k37 _ _ (hr3)) ?_; rintro r h4 ⟨rfl, hr4⟩; have hne := Ne.symm (nei hp2 hid); have hBi := (Rd.drop hr2 hB2).1.no hid; have hp4 := hr4.2.2; have g5 := hr4.1 _ _ set_same; have g6 : h4 r2 = some ⟨true, [.int .i64 0, .int .u64 0, .int .i64 0, .str ⟨#[]⟩]⟩ := hr4.1 _ _ (by simp only [go_sem, *]); refine nTm ?_)
      | (refine xCall rfl rfl (k25 _ _ (Rd.both hr4 hne)) ?_; rintro r h5 ⟨rfl, hr5⟩; have hp5 := hr5.2.2; have g7 := hr5.1 _ _ set_same; have g8 : h5 r2 = some ⟨true, [.int .i64 0, .int .u64 0, .int .i64 0, .str ⟨#[]⟩]⟩ := hr5.1 _ _ (by simp only [go_sem, *]); refine nTm ?_)
      | (refine cSeq ?_) | (refine cNorm ?_) | (refine cRet ?_) | (refine cExit ?_) | (refine W_reg rfl ?_) | (refine W_block ?_) | (refine W_ret ?_) | (refine W_skip ?_) | (refine W_exit ?_) | (refine bNorm ?_) | (refine bRet ?_) | (refine bExit ?_) | (refine bExitN rfl ?_)
      | (refine cMask' (by simp only [keep, List.contains_cons, List.contains_nil, Nat.reduceBEq, Bool.or_true, Bool.true_or, Bool.or_false, Bool.false_or, if_true, if_false, Bool.false_eq_true, beq_self_eq_true, Nat.zero_add, Nat.reduceAdd, eq_self]; exact rfl) ?_)
      | (refine cT (by (first | (simp only [go_sem, bs_append, bs_size, bs_toList, bs_extract, bs_get, reduceIte, List.append_nil, Nat.sub_zero, bne_self_eq_false, beq_self_eq_true, azeros, Int.le_refl, *]; (first | done | exact rfl)) | rfl)) ?_) | (refine cF (by (first | (simp only [go_sem, bs_append, bs_size, bs_toList, bs_extract, bs_get, reduceIte, List.append_nil, Nat.sub_zero, bne_self_eq_false, beq_self_eq_true, azeros, Int.le_refl, *]; (first | done | exact rfl)) | rfl)) ?_)
      | (refine rRet (by (first | (simp only [go_sem, bs_append, bs_size, bs_toList, bs_extract, bs_get, reduceIte, List.append_nil, Nat.sub_zero, bne_self_eq_false, beq_self_eq_true, azeros, Int.le_refl, *]; (first | done | exact rfl)) | rfl)) ?_) | (refine rNorm (by (first | (simp only [go_sem, bs_append, bs_size, bs_toList, bs_extract, bs_get, reduceIte, List.append_nil, Nat.sub_zero, bne_self_eq_false, beq_self_eq_true, azeros, Int.le_refl, *]; (first | done | exact rfl)) | rfl)) ?_)
      | (refine wSplit _ rfl (by (first | (simp only [go_sem, bs_append, bs_size, bs_toList, bs_extract, bs_get, reduceIte, List.append_nil, Nat.sub_zero, bne_self_eq_false, beq_self_eq_true, azeros, Int.le_refl, *]; (first | done | exact rfl)) | rfl)) ?_ ?_ <;> intro hb <;> (try simp only [beq_false, beq_true, Bool.not_true, Bool.not_false, Bool.not_eq_true', Bool.not_eq_false', decide_eq_false_iff_not, decide_eq_true_eq, bne_iff_ne, beq_iff_eq, Bool.true_eq, Bool.false_eq, Bool.not_not, Bool.and_eq_true, Bool.or_eq_true, Bool.bne_true, Bool.bne_false, bne_eq_false_iff_eq, beq_eq_false_iff_ne, ne_eq] at hb))
      | (refine W_cond _ (by (first | (simp only [go_sem, bs_append, bs_size, bs_toList, bs_extract, bs_get, reduceIte, List.append_nil, Nat.sub_zero, bne_self_eq_false, beq_self_eq_true, azeros, Int.le_refl, *]; (first | done | exact rfl)) | rfl)) ?_ ?_ <;> intro hb <;> (try simp only [beq_false, beq_true, Bool.not_true, Bool.not_false, Bool.not_eq_true', Bool.not_eq_false', decide_eq_false_iff_not, decide_eq_true_eq, bne_iff_ne, beq_iff_eq, Bool.true_eq, Bool.false_eq, Bool.not_not, Bool.and_eq_true, Bool.or_eq_true, Bool.bne_true, Bool.bne_false, bne_eq_false_iff_eq, beq_eq_false_iff_ne, ne_eq] at hb)))
    all_goals (refine ⟨[.agg [.int .i64 (n : Int), .int .u64 (C : Int), .int .i64 (m : Int), .str (bs w)]], (by simp [ares, ares1, f78, ev, AH.cellsAt, AH.cell, set_same, set_ne', *]), rfl, Rd.weak (Rd.both (Rd.both hr5 hne) (Ne.symm hn2)) (by repeat' (first | exact Sub.rfl' | exact hB2 | exact hBi | refine Sub.set ?_ ?_))⟩)
  · rw [if_neg c]
    have k37 : ∀ (B h : AH), Rd B p h R e1 → Sp T 37 [.ptr p 0] h (fun r h' => r = .agg [.int .u64 (gB R e1).2.2.1, .int .i64 (gB R e1).2.2.2] ∧ Rd B p h' (gB R e1).1 (gB R e1).2.1) := fun B h hr => sp37 B p R e1 h hr
    obtain ⟨⟨R2, e3, C, m⟩, hq⟩ : ∃ q, gB R e1 = q := ⟨_, rfl⟩
    simp only [hq] at k37 ⊢
    clear hq
    have k25 : ∀ (B h : AH), Rd B p h R2 e3 → Sp T 25 [.ptr p 0, .int .i64 400] h (fun r h' => r = .str (bs (tS R2 e3 400).2.2) ∧ Rd B p h' (tS R2 e3 400).1 (tS R2 e3 400).2.1) := fun B h hr => sp25 B p R2 e3 400 h hr (by decide)
    obtain ⟨⟨R3, e4, w⟩, hq⟩ : ∃ q, tS R2 e3 400 = q := ⟨_, rfl⟩
    simp only [hq] at k25 ⊢
    clear hq
    refine Sp_of (fn := f78) rfl (show W T b78 [.ptr p 0, .int .i64 last, .tup [], .tup [], .tup [], .tup [], .tup [], .tup [], .tup [], .tup [], .tup [], .tup [], .tup [], .tup [], .tup [], .tup [], .tup [], .tup [], .tup [], .tup [], .tup [], .tup []] _ _ from ?_)
    unfold b78
    repeat' (first
      | (refine wNil ?_)
      | (refine wPure rfl (by (first | (simp only [go_sem, bs_append, bs_size, bs_toList, bs_extract, bs_get, reduceIte, List.append_nil, Nat.sub_zero, bne_self_eq_false, beq_self_eq_true, azeros, Int.le_refl, *]; (first | done | exact rfl)) | rfl)) rfl (by (first | (simp only [go_sem, bs_append, bs_size, bs_toList, bs_extract, bs_get, reduceIte, List.append_nil, Nat.sub_zero, bne_self_eq_false, beq_self_eq_true, azeros, Int.le_refl, *]; (first | done | exact rfl)) | rfl)) ?_; dsimp only [putT, ev, Int.toNat_zero, Nat.sub_zero, Int.toNat_natCast,  gd_zero, gd_succ, Nat.zero_add, Nat.add_zero, Nat.reduceAdd, Nat.reduceMul, List.set_cons_zero, List.set_cons_succ, keep, List.contains_cons, List.contains_nil])
      | (refine wMk rfl (by (first | (simp only [go_sem, bs_append, bs_size, bs_toList, bs_extract, bs_get, reduceIte, List.append_nil, Nat.sub_zero, bne_self_eq_false, beq_self_eq_true, azeros, Int.le_refl, *]; (first | done | exact rfl)) | rfl)) rfl ?_; intro id hid; (try simp only [set_none_iff] at hid); have hz := hid; (repeat (replace hz := hz.2)); (try have := nei hp hz); (try have := nei hp2 hz); (try have := nei g2 hz); refine ⟨_, (by (first | (simp only [go_sem, bs_append, bs_size, bs_toList, bs_extract, bs_get, reduceIte, List.append_nil, Nat.sub_zero, bne_self_eq_false, beq_self_eq_true, azeros, Int.le_refl, *]; (first | done | exact rfl)) | rfl)), ?_⟩; dsimp only [putT, ev, Int.toNat_zero, Nat.sub_zero, Int.toNat_natCast,  gd_zero, gd_succ, Nat.zero_add, Nat.add_zero, Nat.reduceAdd, Nat.reduceMul, List.set_cons_zero, List.set_cons_succ, keep, List.contains_cons, List.contains_nil])
      | (refine wChk rfl (by (first | (simp only [go_sem, bs_append, bs_size, bs_toList, bs_extract, bs_get, reduceIte, List.append_nil, Nat.sub_zero, bne_self_eq_false, beq_self_eq_true, azeros, Int.le_refl, *]; (first | done | exact rfl)) | rfl)) rfl (by (first | (simp only [go_sem, bs_append, bs_size, bs_toList, bs_extract, bs_get, reduceIte, List.append_nil, Nat.sub_zero, bne_self_eq_false, beq_self_eq_true, azeros, Int.le_refl, *]; (first | done | exact rfl)) | rfl)) rfl ?_) | (refine wChkF rfl (by (first | (simp only [go_sem, bs_append, bs_size, bs_toList, bs_extract, bs_get, reduceIte, List.append_nil, Nat.sub_zero, bne_self_eq_false, beq_self_eq_true, azeros, Int.le_refl, *]; (first | done | exact rfl)) | rfl)) rfl ?_)
      | (refine wSkip rfl (by (first | (simp only [go_sem, bs_append, bs_size, bs_toList, bs_extract, bs_get, reduceIte, List.append_nil, Nat.sub_zero, bne_self_eq_false, beq_self_eq_true, azeros, Int.le_refl, *]; (first | done | exact rfl)) | rfl)) ?_; dsimp only [putT, ev, Int.toNat_zero, Nat.sub_zero, Int.toNat_natCast,  gd_zero, gd_succ, Nat.zero_add, Nat.add_zero, Nat.reduceAdd, Nat.reduceMul, List.set_cons_zero, List.set_cons_succ, keep, List.contains_cons, List.contains_nil])
      | (refine xCall rfl rfl (k21 _ _ (hr.new hid)) ?_; rintro r h2 ⟨rfl, hr2⟩; have hB2 := hr.1.no hid; have hn2 := nei hp hid; have hp2 := hr2.2.2; have g2 := hr2.1 _ _ set_same; obtain ⟨r2, rfl⟩ : ∃ x, x = id := ⟨_, rfl⟩; refine nTm ?_)
      | (refine xCall rfl rfl (k37 _ _ (hr2.new2 hid)) ?_; rintro r h4 ⟨rfl, hr4⟩; have hne := Ne.symm (nei hp2 hid); have hBi := (Rd.drop hr2 hB2).1.no hid; have hp4 := hr4.2.2; have g5 := hr4.1 _ _ set_same; have g6 : h4 r2 = some ⟨true, [.int .i64 0, .int .u64 0, .int .i64 0, .str ⟨#[]⟩]⟩ := hr4.1 _ _ (by simp only [go_sem, *]); refine nTm ?_)
      | (refine xCall rfl rfl (k25 _ _ (Rd.both hr4 hne)) ?_; rintro r h5 ⟨rfl, hr5⟩; have hp5 := hr5.2.2; have g7 := hr5.1 _ _ set_same; have g8 : h5 r2 = some ⟨true, [.int .i64 0, .int .u64 0, .int .i64 0, .str ⟨#[]⟩]⟩ := hr5.1 _ _ (by simp only [go_sem, *]); refine nTm ?_)
      | (refine cSeq ?_) | (refine cNorm ?_) | (refine cRet ?_) | (refine cExit ?_) | (refine W_reg rfl ?_) | (refine W_block ?_) | (refine W_ret ?_) | (refine W_skip ?_) | (refine W_exit ?_) | (refine bNorm ?_) | (refine bRet ?_) | (refine bExit ?_) | (refine bExitN rfl ?_)
      | (refine cMask' (by simp only [keep, List.contains_cons, List.contains_nil, Nat.reduceBEq, Bool.or_true, Bool.true_or, Bool.or_false, Bool.false_or, if_true, if_false, Bool.false_eq_true, beq_self_eq_true, Nat.zero_add, Nat.reduceAdd, eq_self]; exact rfl) ?_)
      | (refine cT (by (first | (simp only [go_sem, bs_append, bs_size, bs_toList, bs_extract, bs_get, reduceIte, List.append_nil, Nat.sub_zero, bne_self_eq_false, beq_self_eq_true, azeros, Int.le_refl, *]; (first | done | exact rfl)) | rfl)) ?_) | (refine cF (by (first | (simp only [go_sem, bs_append, bs_size, bs_toList, bs_extract, bs_get, reduceIte, List.append_nil, Nat.sub_zero, bne_self_eq_false, beq_self_eq_true, azeros, Int.le_refl, *]; (first | done | exact rfl)) | rfl)) ?_)
      | (refine rRet (by (first | (simp only [go_sem, bs_append, bs_size, bs_toList, bs_extract, bs_get, reduceIte, List.append_nil, Nat.sub_zero, bne_self_eq_false, beq_self_eq_true, azeros, Int.le_refl, *]; (first | done | exact rfl)) | rfl)) ?_) | (refine rNorm (by (first | (simp only [go_sem, bs_append, bs_size, bs_toList, bs_extract, bs_get, reduceIte, List.append_nil, Nat.sub_zero, bne_self_eq_false, beq_self_eq_true, azeros, Int.le_refl, *]; (first | done | exact rfl)) | rfl)) ?_)
      | (refine wSplit _ rfl (by (first | (simp only [go_sem, bs_append, bs_size, bs_toList, bs_extract, bs_get, reduceIte, List.append_nil, Nat.sub_zero, bne_self_eq_false, beq_self_eq_true, azeros, Int.le_refl, *]; (first | done | exact rfl)) | rfl)) ?_ ?_ <;> intro hb <;> (try simp only [beq_false, beq_true, Bool.not_true, Bool.not_false, Bool.not_eq_true', Bool.not_eq_false', decide_eq_false_iff_not, decide_eq_true_eq, bne_iff_ne, beq_iff_eq, Bool.true_eq, Bool.false_eq, Bool.not_not, Bool.and_eq_true, Bool.or_eq_true, Bool.bne_true, Bool.bne_false, bne_eq_false_iff_eq, beq_eq_false_iff_ne, ne_eq] at hb))
      | (refine W_cond _ (by (first | (simp only [go_sem, bs_append, bs_size, bs_toList, bs_extract, bs_get, reduceIte, List.append_nil, Nat.sub_zero, bne_self_eq_false, beq_self_eq_true, azeros, Int.le_refl, *]; (first | done | exact rfl)) | rfl)) ?_ ?_ <;> intro hb <;> (try simp only [beq_false, beq_true, Bool.not_true, Bool.not_false, Bool.not_eq_true', Bool.not_eq_false', decide_eq_false_iff_not, decide_eq_true_eq, bne_iff_ne, beq_iff_eq, Bool.true_eq, Bool.false_eq, Bool.not_not, Bool.and_eq_true, Bool.or_eq_true, Bool.bne_true, Bool.bne_false, bne_eq_false_iff_eq, beq_eq_false_iff_ne, ne_eq] at hb)))
    all_goals (refine ⟨[.agg [.int .i64 (n : Int), .int .u64 (C : Int), .int .i64 (m : Int), .str (bs w)]], (by simp [ares, ares1, f78, ev, AH.cellsAt, AH.cell, set_same, set_ne', *]), rfl, Rd.weak (Rd.both (Rd.both hr5 hne) (Ne.symm hn2)) (by repeat' (first | exact Sub.rfl' | exact hB2 | exact hBi | refine Sub.set ?_ ?_))⟩)
end Go.Proofs.YtgekngfnhhdamaaI
set_option linter.unusedVariables false
set_option linter.unusedSimpArgs false
set_option maxRecDepth 100000
set_option maxHeartbeats 4000000
namespace Go.Proofs.YtgekngfnhhdamaaI
open Go Go.Proofs.YtgekngfnhhdamaaM
attribute [local go_sem] aop ev fg_slc fg_slk fg_ptr fg_bool fg_int fg_str fg_iface fg_func fg_agg fg_tup fg_nils fg_nilp fg_nilI fg_nilF fg_und aboundsK alen_nils alen_slc alen_slk aslice_nils aslice_slc aslice_slk awanted abin aun aint aeqn aeqc aeqs apart abounds abnd amaxi amaxiGo cells_agg cells_slc cells_slk cells_ptr cells_bool cells_int cells_str cells_iface cells_func cells_tup cells_nils cells_nilp cells_nilI cells_nilF cells_und sc_slc sc_slk sc_ptr sc_bool sc_int sc_str sc_iface sc_func sc_nils sc_nilp sc_nilI sc_nilF gd_zero gd_succ List.all_cons List.all_nil Bool.and_self Bool.and_true Bool.true_and List.length_cons List.length_nil Option.map_some Option.some.injEq cell_same cell_ne cell_ne' cellsAt_same cellsAt_ne cellsAt_ne' put_same put_of set_same set_ne set_ne' List.getElem?_cons_zero List.getElem?_cons_succ if_true if_false and_self and_true true_and ne_eq not_true_eq_false not_false_eq_true decide_true decide_false Bool.false_eq_true Bool.true_eq_false beq_self_eq_true bne_self_eq_false beq_true beq_false Bool.not_true Bool.not_false List.map_cons List.map_nil putL List.set_cons_zero List.set_cons_succ afill Nat.zero_le Nat.le_refl Nat.zero_add Nat.add_zero List.drop_zero List.drop_succ_cons List.take_zero List.take_succ_cons Bool.not_eq_true Bool.not_eq_false decide_eq_true_eq decide_eq_false_iff_not Int.toNat_zero Nat.sub_zero Int.toNat_natCast Bool.bne_true Bool.bne_false AH.cell AH.cellsAt AH.put Nat.mul_one Nat.one_mul Int.natCast_nonneg List.length_set bs_append bs_size bs_toList bs_extract bs_get List.cons_append List.nil_append List.append_nil Nat.sub_zero bne_self_eq_false beq_self_eq_true azeros Int.le_refl aapp
theorem loop46n (k1 k2 k3 k4 : Int) (C : Nat) (n1 s1 s2 : Int) (ok : Bool) (x : List UInt8) (S0 : AV) (L : List En) (h g : AH) (b1 b2 id0 : List Nat) (hl : L.length ≤ 70) (hu : Up h g) (h1 : g b1 = some ⟨true, [.int .i64 k1, .int .i64 k2, .int .i64 k3, .int .i64 k4, .int .u64 (C : Int), .int .i64 n1, .int .i64 s1, .int .i64 s2, .bool ok, .str (bs x), S0]⟩) (h2 : g b2 = some ⟨true, [.int .i64 0, .int .i64 0, .int .i64 0, .int .i64 0, .int .u64 0, .int .i64 0, .int .i64 0, .int .i64 0, .bool false, .str ⟨#[]⟩, .nils]⟩) (h3 : g id0 = some ⟨true, L.flatMap eM⟩) (hid : h id0 = none) (hb1 : h b1 = none) (hb2 : h b2 = none) (n12 : b1 ≠ b2) (n13 : b1 ≠ id0) (n23 : b2 ≠ id0)
    (Q : AV → AH → Prop) (hQ : ∀ g', Up h g' → g' id0 = some ⟨true, (L.map cutE).flatMap eM⟩ → Q (.agg [.int .i64 k1, .int .i64 k2, .int .i64 k3, .int .i64 k4, .int .u64 (C : Int), .int .i64 n1, .int .i64 s1, .int .i64 s2, .bool ok, .str (bs x), .slc id0 0 L.length 4]) g') (tm : List AV) (nL : Nat) (hnL : L.length = nL) (htm : keep [1, 2, 3, 22, 23] 0 tm = [.und, .ptr b1 0, .ptr b2 0, .slc id0 0 nL 4, .und, .und, .und, .und, .und, .und, .und, .und, .und, .und, .und, .und, .und, .und, .und, .und, .und, .und, .int .i64 (nL : Int), .int .i64 0, .und, .und, .und, .und, .und, .und, .und, .und, .und, .und, .und, .und, .und, .und, .und, .und]) :
    W T L46c tm g (Then (fun tm' h' => W T R46c tm' h' (Rets f46 Q)) (Rets f46 Q)) := by
  subst hnL
  exact loop46 k1 k2 k3 k4 C n1 s1 s2 ok x S0 L h g b1 b2 id0 hl hu h1 h2 h3 hid hb1 hb2 n12 n13 n23 Q hQ tm htm
/-- Few -/
theorem sp46 (k1 k2 k3 k4 : Int) (C : Nat) (n1 s1 s2 : Int) (ok : Bool) (x : List UInt8) (S : AV) (L : List En) (h : AH) (hS : S = .nils ∧ L = [] ∨ ∃ i, S = .slc i 0 L.length 4 ∧ h i = some ⟨false, L.flatMap eM⟩) :
    Sp T 46 [.agg [.int .i64 k1, .int .i64 k2, .int .i64 k3, .int .i64 k4, .int .u64 (C : Int), .int .i64 n1, .int .i64 s1, .int .i64 s2, .bool ok, .str (bs x), S]] h (fun v h' => ∃ id, h id = none ∧ v = .agg [.int .i64 k1, .int .i64 k2, .int .i64 k3, .int .i64 k4, .int .u64 (C : Int), .int .i64 n1, .int .i64 s1, .int .i64 s2, .bool ok, .str (bs (x.take 300)), .slc id 0 (cutL L).length 4] ∧ h' id = some ⟨true, (cutL L).flatMap eM⟩ ∧ Up h h') := by
  have c16 : ∀ h, Sp T 16 [.str (bs x), .int .i64 300] h (fun r h' => r = .str (bs (x.take 300)) ∧ h' = h) := fun h => cut16 x 300 h
  have hu0 := Up.refl h
  rcases hS with ⟨rfl, rfl⟩ | ⟨i, rfl, hi⟩
  · refine Sp_of (fn := f46) rfl (show W T b46 [.agg [.int .i64 k1, .int .i64 k2, .int .i64 k3, .int .i64 k4, .int .u64 (C : Int), .int .i64 n1, .int .i64 s1, .int .i64 s2, .bool ok, .str (bs x), .nils], .tup [], .tup [], .tup [], .tup [], .tup [], .tup [], .tup [], .tup [], .tup [], .tup [], .tup [], .tup [], .tup [], .tup [], .tup [], .tup [], .tup [], .tup [], .tup [], .tup [], .tup [], .tup [], .tup [], .tup [], .tup [], .tup [], .tup [], .tup [], .tup [], .tup [], .tup [], .tup [], .tup [], .tup [], .tup [], .tup [], .tup [], .tup [], .tup []] _ _ from ?_)
    unfold b46
    repeat' (first
      | (refine wNil ?_) | (refine xPure ?_)
      | (refine xMk ?_; intro id hid; (try simp only [set_none_iff] at hid); have hz := hid; (repeat (replace hz := hz.2)); (try have := Up.none hu0 hz); refine mkDo ?_)
      | (refine xChk ?_) | (refine xChkF ?_) | (refine xSkip ?_)
      | (refine xCall rfl rfl (c16 _) ?_; rintro r q3 ⟨rfl, hx⟩; cases hx; refine nTm ?_)
      | (exact loop46 k1 k2 k3 k4 C n1 s1 s2 ok (x.take 300) (.nils) [] h _ _ _ _ (by simp) (by repeat' (first | assumption | exact Up.refl _ | refine Up.new ?_ ?_)) (by first | exact set_same | (simp only [set_ne, set_ne', set_same, ne_eq, not_false_eq_true, *]; done)) (by first | exact set_same | (simp only [set_ne, set_ne', set_same, ne_eq, not_false_eq_true, *]; done)) (by first | exact set_same | (simp only [set_ne, set_ne', set_same, ne_eq, not_false_eq_true, *]; done)) (by assumption) (by assumption) (by assumption) (by intro e; simp_all) (by intro e; simp_all) (by intro e; simp_all) _ (fun g' hu' hg' => ⟨_, by assumption, by simp [cutL], hg', hu'⟩) _ rfl)
      | (refine cSeq ?_) | (refine cNorm ?_) | (refine cRet ?_) | (refine cExit ?_) | (refine W_reg rfl ?_) | (refine W_block ?_) | (refine W_ret ?_) | (refine W_skip ?_) | (refine W_exit ?_) | (refine bNorm ?_) | (refine bRet ?_) | (refine bExit ?_) | (refine bExitN rfl ?_)
      | (refine xMask ?_) | (refine xT ?_) | (refine xF ?_) | (refine xRet ?_) | (refine xNorm ?_)
      | (refine wSplit _ rfl (by (first | (simp only [go_sem, *]; (first | done | exact rfl)) | rfl)) ?_ ?_ <;> intro hb <;> (try simp only [beq_false, beq_true, Bool.not_true, Bool.not_false, Bool.not_eq_true', Bool.not_eq_false', decide_eq_false_iff_not, decide_eq_true_eq, bne_iff_ne, beq_iff_eq, Bool.true_eq, Bool.false_eq, Bool.not_not, Bool.and_eq_true, Bool.or_eq_true, Bool.bne_true, Bool.bne_false, bne_eq_false_iff_eq, beq_eq_false_iff_ne, ne_eq] at hb))
      | (refine W_cond _ (by (first | (simp only [go_sem, *]; (first | done | exact rfl)) | rfl)) ?_ ?_ <;> intro hb <;> (try simp only [beq_false, beq_true, Bool.not_true, Bool.not_false, Bool.not_eq_true', Bool.not_eq_false', decide_eq_false_iff_not, decide_eq_true_eq, bne_iff_ne, beq_iff_eq, Bool.true_eq, Bool.false_eq, Bool.not_not, Bool.and_eq_true, Bool.or_eq_true, Bool.bne_true, Bool.bne_false, bne_eq_false_iff_eq, beq_eq_false_iff_ne, ne_eq] at hb)))
  · have hsc := flat_sc eMs L
    have hfl := flat_len eMz L
    cases L with
    | nil =>
      refine Sp_of (fn := f46) rfl (show W T b46 [.agg [.int .i64 k1, .int .i64 k2, .int .i64 k3, .int .i64 k4, .int .u64 (C : Int), .int .i64 n1, .int .i64 s1, .int .i64 s2, .bool ok, .str (bs x), .slc i 0 0 4], .tup [], .tup [], .tup [], .tup [], .tup [], .tup [], .tup [], .tup [], .tup [], .tup [], .tup [], .tup [], .tup [], .tup [], .tup [], .tup [], .tup [], .tup [], .tup [], .tup [], .tup [], .tup [], .tup [], .tup [], .tup [], .tup [], .tup [], .tup [], .tup [], .tup [], .tup [], .tup [], .tup [], .tup [], .tup [], .tup [], .tup [], .tup [], .tup []] _ _ from ?_)
      unfold b46
      repeat' (first
        | (refine wNil ?_) | (refine xPure ?_)
        | (refine xMk ?_; intro id hid; (try simp only [set_none_iff] at hid); have hz := hid; (repeat (replace hz := hz.2)); (try have := nei hi hz); (try have := Up.none hu0 hz); refine mkDo ?_)
        | (refine xChk ?_) | (refine xChkF ?_) | (refine xSkip ?_)
        | (refine xCall rfl rfl (c16 _) ?_; rintro r q3 ⟨rfl, hx⟩; cases hx; refine nTm ?_)
        | (exact loop46 k1 k2 k3 k4 C n1 s1 s2 ok (x.take 300) (.slc i 0 0 4) [] h _ _ _ _ (by simp) (by repeat' (first | assumption | exact Up.refl _ | refine Up.new ?_ ?_)) (by first | exact set_same | (simp only [set_ne, set_ne', set_same, ne_eq, not_false_eq_true, *]; done)) (by first | exact set_same | (simp only [set_ne, set_ne', set_same, ne_eq, not_false_eq_true, *]; done)) (by first | exact set_same | (simp only [set_ne, set_ne', set_same, ne_eq, not_false_eq_true, *]; done)) (by assumption) (by assumption) (by assumption) (by intro e; simp_all) (by intro e; simp_all) (by intro e; simp_all) _ (fun g' hu' hg' => ⟨_, by assumption, by simp [cutL], hg', hu'⟩) _ rfl)
        | (refine cSeq ?_) | (refine cNorm ?_) | (refine cRet ?_) | (refine cExit ?_) | (refine W_reg rfl ?_) | (refine W_block ?_) | (refine W_ret ?_) | (refine W_skip ?_) | (refine W_exit ?_) | (refine bNorm ?_) | (refine bRet ?_) | (refine bExit ?_) | (refine bExitN rfl ?_)
        | (refine xMask ?_) | (refine xT ?_) | (refine xF ?_) | (refine xRet ?_) | (refine xNorm ?_)
        | (refine wSplit _ rfl (by (first | (simp only [go_sem, *]; (first | done | exact rfl)) | rfl)) ?_ ?_ <;> intro hb <;> (try simp only [beq_false, beq_true, Bool.not_true, Bool.not_false, Bool.not_eq_true', Bool.not_eq_false', decide_eq_false_iff_not, decide_eq_true_eq, bne_iff_ne, beq_iff_eq, Bool.true_eq, Bool.false_eq, Bool.not_not, Bool.and_eq_true, Bool.or_eq_true, Bool.bne_true, Bool.bne_false, bne_eq_false_iff_eq, beq_eq_false_iff_ne, ne_eq] at hb))
        | (refine W_cond _ (by (first | (simp only [go_sem, *]; (first | done | exact rfl)) | rfl)) ?_ ?_ <;> intro hb <;> (try simp only [beq_false, beq_true, Bool.not_true, Bool.not_false, Bool.not_eq_true', Bool.not_eq_false', decide_eq_false_iff_not, decide_eq_true_eq, bne_iff_ne, beq_iff_eq, Bool.true_eq, Bool.false_eq, Bool.not_not, Bool.and_eq_true, Bool.or_eq_true, Bool.bne_true, Bool.bne_false, bne_eq_false_iff_eq, beq_eq_false_iff_ne, ne_eq] at hb)))
    | cons y L' =>
      obtain ⟨L, hL⟩ : ∃ L, y :: L' = L := ⟨_, rfl⟩
      have hne : ¬ L.length = 0 := by rw [← hL]; simp
      rw [hL] at hi hsc hfl ⊢
      clear hL
      by_cases h70 : L.length ≤ 70
      · have d1 : ¬ (L.length : Int) > 70 := by omega
        have e1 : (L.flatMap eM).take (L.length * 4) = L.flatMap eM := List.take_of_length_le (by omega)
        have e2 : L.take 70 = L := List.take_of_length_le h70
        have r1 : (0 + L.length) * 40 ≤ roomMost := by unfold roomMost; omega
        have r2 : L.length * 40 ≤ roomMost := by unfold roomMost; omega
        refine Sp_of (fn := f46) rfl (show W T b46 [.agg [.int .i64 k1, .int .i64 k2, .int .i64 k3, .int .i64 k4, .int .u64 (C : Int), .int .i64 n1, .int .i64 s1, .int .i64 s2, .bool ok, .str (bs x), .slc i 0 L.length 4], .tup [], .tup [], .tup [], .tup [], .tup [], .tup [], .tup [], .tup [], .tup [], .tup [], .tup [], .tup [], .tup [], .tup [], .tup [], .tup [], .tup [], .tup [], .tup [], .tup [], .tup [], .tup [], .tup [], .tup [], .tup [], .tup [], .tup [], .tup [], .tup [], .tup [], .tup [], .tup [], .tup [], .tup [], .tup [], .tup [], .tup [], .tup [], .tup []] _ _ from ?_)
        unfold b46
        repeat' (first
          | (refine wNil ?_) | (refine xPure ?_)
          | (refine xMk ?_; intro id hid; (try simp only [set_none_iff] at hid); have hz := hid; (repeat (replace hz := hz.2)); (try have := nei hi hz); (try have := Up.none hu0 hz); refine mkDo ?_)
          | (refine xChk ?_) | (refine xChkF ?_) | (refine xSkip ?_)
          | (refine xCall rfl rfl (c16 _) ?_; rintro r q3 ⟨rfl, hx⟩; cases hx; refine nTm ?_)
          | (exact loop46 k1 k2 k3 k4 C n1 s1 s2 ok (x.take 300) (.slc i 0 L.length 4) L h _ _ _ _ h70 (by repeat' (first | assumption | exact Up.refl _ | refine Up.new ?_ ?_)) (by first | exact set_same | (simp only [set_ne, set_ne', set_same, ne_eq, not_false_eq_true, *]; done)) (by first | exact set_same | (simp only [set_ne, set_ne', set_same, ne_eq, not_false_eq_true, *]; done)) (by first | exact set_same | (simp only [set_ne, set_ne', set_same, ne_eq, not_false_eq_true, *]; done)) (by assumption) (by assumption) (by assumption) (by intro e; simp_all) (by intro e; simp_all) (by intro e; simp_all) _ (fun g' hu' hg' => ⟨_, by assumption, by simp [cutL, e2], by simpa [cutL, e2] using hg', hu'⟩) _ rfl)
          | (refine cSeq ?_) | (refine cNorm ?_) | (refine cRet ?_) | (refine cExit ?_) | (refine W_reg rfl ?_) | (refine W_block ?_) | (refine W_ret ?_) | (refine W_skip ?_) | (refine W_exit ?_) | (refine bNorm ?_) | (refine bRet ?_) | (refine bExit ?_) | (refine bExitN rfl ?_)
          | (refine xMask ?_) | (refine xT ?_) | (refine xF ?_) | (refine xRet ?_) | (refine xNorm ?_)
          | (refine wSplit _ rfl (by (first | (simp only [go_sem, *]; (first | done | exact rfl)) | rfl)) ?_ ?_ <;> intro hb <;> (try simp only [beq_false, beq_true, Bool.not_true, Bool.not_false, Bool.not_eq_true', Bool.not_eq_false', decide_eq_false_iff_not, decide_eq_true_eq, bne_iff_ne, beq_iff_eq, Bool.true_eq, Bool.false_eq, Bool.not_not, Bool.and_eq_true, Bool.or_eq_true, Bool.bne_true, Bool.bne_false, bne_eq_false_iff_eq, beq_eq_false_iff_ne, ne_eq] at hb))
          | (refine W_cond _ (by (first | (simp only [go_sem, *]; (first | done | exact rfl)) | rfl)) ?_ ?_ <;> intro hb <;> (try simp only [beq_false, beq_true, Bool.not_true, Bool.not_false, Bool.not_eq_true', Bool.not_eq_false', decide_eq_false_iff_not, decide_eq_true_eq, bne_iff_ne, beq_iff_eq, Bool.true_eq, Bool.false_eq, Bool.not_not, Bool.and_eq_true, Bool.or_eq_true, Bool.bne_true, Bool.bne_false, bne_eq_false_iff_eq, beq_eq_false_iff_ne, ne_eq] at hb)))
      · have d1 : (L.length : Int) > 70 := by omega
        have d2 : (70 : Int) ≤ (L.length : Int) := by omega
        have d3 : (0 : Int) ≤ 70 := by decide
        have d4 : Int.toNat 70 = 70 := rfl
        have d5 : ¬ 70 = L.length := by omega
        have d6 : ¬ (70 : Nat) = 0 := by decide
        have e1 : (L.flatMap eM).take (70 * 4) = (L.take 70).flatMap eM := flat_take eMz L 70
        have e3 : (L.flatMap eM).take 280 = (L.take 70).flatMap eM := e1
        have e2 : 70 * 4 ≤ L.length * 4 := by omega
        have e4 : 280 ≤ L.length * 4 := by omega
        have e5 := flat_sc eMs (L.take 70)
        have e6 : ((L.take 70).flatMap eM).length = 280 := by rw [flat_len eMz, List.length_take]; omega
        have e7 : (L.take 70).length = 70 := by rw [List.length_take]; omega
        have r1 : (0 + 70) * 40 ≤ roomMost := by unfold roomMost; omega
        have r2 : 70 * 40 ≤ roomMost := by unfold roomMost; omega
        have r3 : 2800 ≤ roomMost := by unfold roomMost; omega
        refine Sp_of (fn := f46) rfl (show W T b46 [.agg [.int .i64 k1, .int .i64 k2, .int .i64 k3, .int .i64 k4, .int .u64 (C : Int), .int .i64 n1, .int .i64 s1, .int .i64 s2, .bool ok, .str (bs x), .slc i 0 L.length 4], .tup [], .tup [], .tup [], .tup [], .tup [], .tup [], .tup [], .tup [], .tup [], .tup [], .tup [], .tup [], .tup [], .tup [], .tup [], .tup [], .tup [], .tup [], .tup [], .tup [], .tup [], .tup [], .tup [], .tup [], .tup [], .tup [], .tup [], .tup [], .tup [], .tup [], .tup [], .tup [], .tup [], .tup [], .tup [], .tup [], .tup [], .tup [], .tup []] _ _ from ?_)
        unfold b46
        repeat' (first
          | (refine wNil ?_) | (refine xPure ?_)
          | (refine xMk ?_; intro id hid; (try simp only [set_none_iff] at hid); have hz := hid; (repeat (replace hz := hz.2)); (try have := nei hi hz); (try have := Up.none hu0 hz); refine mkDo ?_)
          | (refine xChk ?_) | (refine xChkF ?_) | (refine xSkip ?_)
          | (refine xCall rfl rfl (c16 _) ?_; rintro r q3 ⟨rfl, hx⟩; cases hx; refine nTm ?_)
          | (exact loop46n k1 k2 k3 k4 C n1 s1 s2 ok (x.take 300) (.slk i 0 70 4 L.length false) (L.take 70) h _ _ _ _ (by omega) (by repeat' (first | assumption | exact Up.refl _ | refine Up.new ?_ ?_)) (by first | exact set_same | (simp only [set_ne, set_ne', set_same, ne_eq, not_false_eq_true, *]; done)) (by first | exact set_same | (simp only [set_ne, set_ne', set_same, ne_eq, not_false_eq_true, *]; done)) (by first | exact set_same | (simp only [set_ne, set_ne', set_same, ne_eq, not_false_eq_true, *]; done)) (by assumption) (by assumption) (by assumption) (by intro e; simp_all) (by intro e; simp_all) (by intro e; simp_all) _ (fun g' hu' hg' => ⟨_, by assumption, by simp [cutL], hg', hu'⟩) _ 70 e7 rfl)
          | (refine cSeq ?_) | (refine cNorm ?_) | (refine cRet ?_) | (refine cExit ?_) | (refine W_reg rfl ?_) | (refine W_block ?_) | (refine W_ret ?_) | (refine W_skip ?_) | (refine W_exit ?_) | (refine bNorm ?_) | (refine bRet ?_) | (refine bExit ?_) | (refine bExitN rfl ?_)
          | (refine xMask ?_) | (refine xT ?_) | (refine xF ?_) | (refine xRet ?_) | (refine xNorm ?_)
          | (refine wSplit _ rfl (by (first | (simp only [go_sem, *]; (first | done | exact rfl)) | rfl)) ?_ ?_ <;> intro hb <;> (try simp only [beq_false, beq_true, Bool.not_true, Bool.not_false, Bool.not_eq_true', Bool.not_eq_false', decide_eq_false_iff_not, decide_eq_true_eq, bne_iff_ne, beq_iff_eq, Bool.true_eq, Bool.false_eq, Bool.not_not, Bool.and_eq_true, Bool.or_eq_true, Bool.bne_true, Bool.bne_false, bne_eq_false_iff_eq, beq_eq_false_iff_ne, ne_eq] at hb))
          | (refine W_cond _ (by (first | (simp only [go_sem, *]; (first | done | exact rfl)) | rfl)) ?_ ?_ <;> intro hb <;> (try simp only [beq_false, beq_true, Bool.not_true, Bool.not_false, Bool.not_eq_true', Bool.not_eq_false', decide_eq_false_iff_not, decide_eq_true_eq, bne_iff_ne, beq_iff_eq, Bool.true_eq, Bool.false_eq, Bool.not_not, Bool.and_eq_true, Bool.or_eq_true, Bool.bne_true, Bool.bne_false, bne_eq_false_iff_eq, beq_eq_false_iff_ne, ne_eq] at hb)))
end Go.Proofs.YtgekngfnhhdamaaI
set_option linter.unusedVariables false
set_option linter.unusedSimpArgs false
set_option maxRecDepth 100000
set_option maxHeartbeats 4000000
namespace Go.Proofs.YtgekngfnhhdamaaI
open Go Go.Proofs.YtgekngfnhhdamaaM
attribute [local go_sem] aop ev fg_slc fg_slk fg_ptr fg_bool fg_int fg_str fg_iface fg_func fg_agg fg_tup fg_nils fg_nilp fg_nilI fg_nilF fg_und aboundsK alen_nils alen_slc alen_slk aslice_nils aslice_slc aslice_slk awanted abin aun aint aeqn aeqc aeqs apart abounds abnd amaxi amaxiGo cells_agg cells_slc cells_slk cells_ptr cells_bool cells_int cells_str cells_iface cells_func cells_tup cells_nils cells_nilp cells_nilI cells_nilF cells_und sc_slc sc_slk sc_ptr sc_bool sc_int sc_str sc_iface sc_func sc_nils sc_nilp sc_nilI sc_nilF gd_zero gd_succ List.all_cons List.all_nil Bool.and_self Bool.and_true Bool.true_and List.length_cons List.length_nil Option.map_some Option.some.injEq cell_same cell_ne cell_ne' cellsAt_same cellsAt_ne cellsAt_ne' put_same put_of set_same set_ne set_ne' List.getElem?_cons_zero List.getElem?_cons_succ if_true if_false and_self and_true true_and ne_eq not_true_eq_false not_false_eq_true decide_true decide_false Bool.false_eq_true Bool.true_eq_false beq_self_eq_true bne_self_eq_false beq_true beq_false Bool.not_true Bool.not_false List.map_cons List.map_nil putL List.set_cons_zero List.set_cons_succ afill Nat.zero_le Nat.le_refl Nat.zero_add Nat.add_zero List.drop_zero List.drop_succ_cons List.take_zero List.take_succ_cons Bool.not_eq_true Bool.not_eq_false decide_eq_true_eq decide_eq_false_iff_not Int.toNat_zero Nat.sub_zero Int.toNat_natCast Bool.bne_true Bool.bne_false AH.cell AH.cellsAt AH.put Nat.mul_one Nat.one_mul Int.natCast_nonneg List.length_set bs_append bs_size bs_toList bs_extract bs_get List.cons_append List.nil_append List.append_nil Nat.sub_zero bne_self_eq_false beq_self_eq_true azeros Int.le_refl aapp
/-- A list of entries, to be read. -/
def Le (h : AH) (S : AV) (L : List En) : Prop := S = .nils ∧ L = [] ∨ ∃ i own, S = .slc i 0 L.length 4 ∧ h i = some ⟨own, L.flatMap eM⟩
theorem Le.len {h : AH} {S : AV} {L : List En} (hP : Le h S L) : alen S = some (L.length : Int) := by
  rcases hP with ⟨rfl, rfl⟩ | ⟨i, _, rfl, _⟩ <;> rfl
theorem Le.up {h h' : AH} {S : AV} {L : List En} (hP : Le h S L) (hu : Up h h') : Le h' S L := by
  rcases hP with h | ⟨i, o, h1, h2⟩
  · exact .inl h
  · exact .inr ⟨i, o, h1, hu _ _ h2⟩
/-- The same, in a block of its own. -/
def Po (h0 h : AH) (S : AV) (L : List En) : Prop := S = .nils ∧ L = [] ∨ ∃ i, h0 i = none ∧ S = .slc i 0 L.length 4 ∧ h i = some ⟨true, L.flatMap eM⟩
theorem Po.rd {h0 h : AH} {S : AV} {L : List En} (hP : Po h0 h S L) : Le h S L := by
  rcases hP with h | ⟨i, _, h1, h2⟩
  · exact .inl h
  · exact .inr ⟨i, true, h1, h2⟩
/-- A list of entries, to be read; there may be more behind it. -/
def Lg (h : AH) (S : AV) (L : List En) : Prop := S = .nils ∧ L = [] ∨ ∃ i own rest, S.fg = .slc i 0 L.length 4 ∧ h i = some ⟨own, L.flatMap eM ++ rest⟩
theorem Le.lg {h : AH} {S : AV} {L : List En} (hP : Le h S L) : Lg h S L := by
  rcases hP with h | ⟨i, o, rfl, h2⟩
  · exact .inl h
  · exact .inr ⟨i, o, [], rfl, by rw [List.append_nil]; exact h2⟩
theorem Lg.len {h : AH} {S : AV} {L : List En} (hP : Lg h S L) : alen S = some (L.length : Int) := by
  rcases hP with ⟨rfl, rfl⟩ | ⟨i, _, _, hf, _⟩
  · rfl
  · unfold alen; rw [hf]
theorem Lg.up {h h' : AH} {S : AV} {L : List En} (hP : Lg h S L) (hu : Up h h') : Lg h' S L := by
  rcases hP with h | ⟨i, o, r, h1, h2⟩
  · exact .inl h
  · exact .inr ⟨i, o, r, h1, hu _ _ h2⟩
theorem Lg.sc {h : AH} {S : AV} {L : List En} (hP : Lg h S L) : S.cells = [S] ∧ S.scalar = true := by
  rcases hP with ⟨rfl, _⟩ | ⟨i, _, _, hf, _⟩
  · exact ⟨rfl, rfl⟩
  · cases S <;> simp [AV.fg] at hf <;> exact ⟨rfl, rfl⟩
/-- Own -/
theorem sp47g (k1 k2 k3 k4 : Int) (C : Nat) (n1 s1 s2 : Int) (ok : Bool) (x : List UInt8) (S : AV) (L : List En) (h : AH) (hS : Lg h S L) (hl : L.length ≤ 1000) :
    Sp T 47 [.agg [.int .i64 k1, .int .i64 k2, .int .i64 k3, .int .i64 k4, .int .u64 (C : Int), .int .i64 n1, .int .i64 s1, .int .i64 s2, .bool ok, .str (bs x), S]] h (fun v h' => ∃ S', v = .agg [.int .i64 k1, .int .i64 k2, .int .i64 k3, .int .i64 k4, .int .u64 (C : Int), .int .i64 n1, .int .i64 s1, .int .i64 s2, .bool ok, .str (bs x), S'] ∧ Po h h' S' L ∧ Up h h') := by
  have hu0 := Up.refl h
  have hSl := hS.len
  have hSc := hS.sc
  obtain ⟨sc1, sc2⟩ := hSc
  refine Sp_of (fn := f47) rfl (show W T b47 [.agg [.int .i64 k1, .int .i64 k2, .int .i64 k3, .int .i64 k4, .int .u64 (C : Int), .int .i64 n1, .int .i64 s1, .int .i64 s2, .bool ok, .str (bs x), S], .tup [], .tup [], .tup [], .tup [], .tup [], .tup [], .tup [], .tup [], .tup [], .tup [], .tup [], .tup [], .tup [], .tup [], .tup [], .tup [], .tup [], .tup [], .tup [], .tup [], .tup [], .tup [], .tup [], .tup [], .tup [], .tup [], .tup [], .tup [], .tup [], .tup [], .tup [], .tup [], .tup [], .tup [], .tup [], .tup [], .tup [], .tup [], .tup [], .tup [], .tup [], .tup [], .tup [], .tup [], .tup []] _ _ from ?_)
  unfold b47
  repeat' (first
    | (refine wNil ?_) | (refine xPure ?_)
    | (refine xMk ?_; intro id hid; (try simp only [set_none_iff] at hid); have hz := hid; (repeat (replace hz := hz.2)); (try have := Up.none hu0 hz); refine mkDo ?_)
    | (refine xChk ?_) | (refine xChkF ?_) | (refine xSkip ?_)
    | (refine cSeq ?_) | (refine cNorm ?_) | (refine cRet ?_) | (refine cExit ?_) | (refine W_reg rfl ?_) | (refine W_block ?_) | (refine W_ret ?_) | (refine W_skip ?_) | (refine W_exit ?_) | (refine bNorm ?_) | (refine bRet ?_) | (refine bExit ?_) | (refine bExitN rfl ?_)
    | (refine xMask ?_) | (refine xT ?_) | (refine xF ?_) | (refine xRet ?_) | (refine xNorm ?_)
    | (refine wSplit _ rfl (by (first | (simp only [go_sem, *]; (first | done | exact rfl)) | rfl)) ?_ ?_ <;> intro hb <;> (try simp only [beq_false, beq_true, Bool.not_true, Bool.not_false, Bool.not_eq_true', Bool.not_eq_false', decide_eq_false_iff_not, decide_eq_true_eq, bne_iff_ne, beq_iff_eq, Bool.true_eq, Bool.false_eq, Bool.not_not, Bool.and_eq_true, Bool.or_eq_true, Bool.bne_true, Bool.bne_false, bne_eq_false_iff_eq, beq_eq_false_iff_ne, ne_eq] at hb))
    | (refine W_cond _ (by (first | (simp only [go_sem, *]; (first | done | exact rfl)) | rfl)) ?_ ?_ <;> intro hb <;> (try simp only [beq_false, beq_true, Bool.not_true, Bool.not_false, Bool.not_eq_true', Bool.not_eq_false', decide_eq_false_iff_not, decide_eq_true_eq, bne_iff_ne, beq_iff_eq, Bool.true_eq, Bool.false_eq, Bool.not_not, Bool.and_eq_true, Bool.or_eq_true, Bool.bne_true, Bool.bne_false, bne_eq_false_iff_eq, beq_eq_false_iff_ne, ne_eq] at hb)))
  rename_i b1 c1 z1 u1 b2 c2 z2 u2
  obtain ⟨b3, rfl⟩ : ∃ x, x = id := ⟨_, rfl⟩
  have n32 : b3 ≠ b2 := hid.1
  refine W_loop (fun m tm g => ∃ (k : Nat) (S' : AV), k + m = L.length ∧ Up h g ∧ g b2 = some ⟨true, [.int .i64 0, .int .i64 0, .int .i64 0, .int .i64 0, .int .u64 0, .int .i64 0, .int .i64 0, .int .i64 0, .bool false, .str ⟨#[]⟩, .nils]⟩ ∧ g b3 = some ⟨true, [.int .i64 k1, .int .i64 k2, .int .i64 k3, .int .i64 k4, .int .u64 (C : Int), .int .i64 n1, .int .i64 s1, .int .i64 s2, .bool ok, .str (bs x), S']⟩ ∧ Po h g S' (L.take k) ∧ keep [2, 3, 26, 27, 28] 0 tm = [.und, .und, .ptr b2 0, .ptr b3 0, .und, .und, .und, .und, .und, .und, .und, .und, .und, .und, .und, .und, .und, .und, .und, .und, .und, .und, .und, .und, .und, .und, S, .int .i64 (L.length : Int), .int .i64 (k : Int), .und, .und, .und, .und, .und, .und, .und, .und, .und, .und, .und, .und, .und, .und, .und, .und, .und]) L.length ⟨0, .nils, by omega, (by repeat' (first | assumption | exact Up.refl _ | refine Up.new ?_ ?_)), by simp only [set_ne, set_ne', set_same, ne_eq, not_false_eq_true, n32, Ne.symm n32, *], set_same, .inl ⟨rfl, by simp⟩, rfl⟩ ?_
  have hb3 := hz
  have hb2 := z2
  clear hid hz u2 u1 z2 z1 c2 c1 hu0 this
  rintro m tm g ⟨k, S', hk, hu, h2, h3, hP, htm⟩
  refine cSeq (cMask (cNorm ?_))
  rw [htm]; clear htm
  by_cases hkl : k < L.length
  · have d1 : (k : Int) < (L.length : Int) := by omega
    have d2 : (0 : Int) ≤ (k : Int) := by omega
    have w1 : IntKind.i64.wrap ((k : Int) + 1) = ((k + 1 : Nat) : Int) := by rw [wrap64 (by omega) (by omega)]; rfl
    obtain ⟨⟨y1, y2, y3, y4⟩, hy⟩ : ∃ y, L[k]? = some y := ⟨_, List.getElem?_eq_getElem hkl⟩
    have htk : L.take (k + 1) = L.take k ++ [(y1, y2, y3, y4)] := by rw [List.take_add_one, hy]; rfl
    rcases hS with ⟨rfl, rfl⟩ | ⟨iL, own, rest, hfg, hL⟩
    · simp at hkl
    have hLg := hu _ _ hL
    obtain ⟨g1, g2⟩ := flat_get eMz hy rest
    simp only [eM] at g2
    have hpl : (L.take k).length = k := by rw [List.length_take]; omega
    have r2 : 40 ≤ roomMost := by unfold roomMost; omega
    rcases hP with ⟨rfl, e0⟩ | ⟨j, j1, rfl, hj⟩
    · clear hpl
      repeat' (first
        | (refine wNil ?_) | (refine xPure ?_)
        | (refine xMk ?_; intro id hid; (try simp only [set_none_iff] at hid); have hz := hid; (repeat (replace hz := hz.2)); (try have := nei h2 hz); (try have := nei h3 hz); (try have := nei hLg hz); (try have := Up.none hu hz); refine mkDo ?_)
        | (refine xChk ?_) | (refine xChkF ?_) | (refine xSkip ?_)
        | (refine cSeq ?_) | (refine cNorm ?_) | (refine cRet ?_) | (refine cExit ?_) | (refine W_reg rfl ?_) | (refine W_block ?_) | (refine W_ret ?_) | (refine W_skip ?_) | (refine W_exit ?_) | (refine bNorm ?_) | (refine bRet ?_) | (refine bExit ?_) | (refine bExitN rfl ?_)
        | (refine xMask ?_) | (refine xT ?_) | (refine xF ?_) | (refine xRet ?_) | (refine xNorm ?_)
        | (refine wSplit _ rfl (by (first | (simp only [go_sem, *]; (first | done | exact rfl)) | rfl)) ?_ ?_ <;> intro hb <;> (try simp only [beq_false, beq_true, Bool.not_true, Bool.not_false, Bool.not_eq_true', Bool.not_eq_false', decide_eq_false_iff_not, decide_eq_true_eq, bne_iff_ne, beq_iff_eq, Bool.true_eq, Bool.false_eq, Bool.not_not, Bool.and_eq_true, Bool.or_eq_true, Bool.bne_true, Bool.bne_false, bne_eq_false_iff_eq, beq_eq_false_iff_ne, ne_eq] at hb))
        | (refine W_cond _ (by (first | (simp only [go_sem, *]; (first | done | exact rfl)) | rfl)) ?_ ?_ <;> intro hb <;> (try simp only [beq_false, beq_true, Bool.not_true, Bool.not_false, Bool.not_eq_true', Bool.not_eq_false', decide_eq_false_iff_not, decide_eq_true_eq, bne_iff_ne, beq_iff_eq, Bool.true_eq, Bool.false_eq, Bool.not_not, Bool.and_eq_true, Bool.or_eq_true, Bool.bne_true, Bool.bne_false, bne_eq_false_iff_eq, beq_eq_false_iff_ne, ne_eq] at hb)))
      exact ⟨m - 1, by omega, k + 1, .slc id 0 1 4, by omega, (by repeat' (first | assumption | exact Up.refl _ | refine Up.new ?_ ?_)), by simp only [set_ne, set_ne', ne_eq, not_false_eq_true, *], set_same, .inr ⟨id, by assumption, by rw [htk, e0]; rfl, by rw [htk, e0, set_ne (Ne.symm (by assumption)), set_same]; rfl⟩, by simp only [keep, List.contains_cons, List.contains_nil, Nat.reduceBEq, Bool.or_true, Bool.true_or, Bool.or_false, Bool.false_or, if_true, if_false, Bool.false_eq_true, beq_self_eq_true, Nat.zero_add, Nat.reduceAdd, eq_self]⟩
    · have r1 : ((L.take k).length + 1) * 40 ≤ roomMost := by rw [hpl]; unfold roomMost; omega
      have r3 := flat_len eMz (L.take k)
      have r4 : List.take ((L.take k).length * 4) ((L.take k).flatMap eM) = (L.take k).flatMap eM := List.take_of_length_le (by omega)
      have nj3 : j ≠ b3 := fun e => by
        subst e; rw [hj] at h3
        have := congrArg (fun b => (b.map fun b => b.cells.length)) h3
        simp [r3] at this; omega
      have nj2 : j ≠ b2 := fun e => by
        subst e; rw [hj] at h2
        have := congrArg (fun b => (b.map fun b => b.cells.length)) h2
        simp [r3] at this; omega
      clear hpl
      repeat' (first
        | (refine wNil ?_) | (refine xPure ?_)
        | (refine xMk ?_; intro id hid; (try simp only [set_none_iff] at hid); have hz := hid; (repeat (replace hz := hz.2)); (try have := nei h2 hz); (try have := nei h3 hz); (try have := nei hLg hz); (try have := nei hj hz); (try have := Up.none hu hz); refine mkDo ?_)
        | (refine xChk ?_) | (refine xChkF ?_) | (refine xSkip ?_)
        | (refine cSeq ?_) | (refine cNorm ?_) | (refine cRet ?_) | (refine cExit ?_) | (refine W_reg rfl ?_) | (refine W_block ?_) | (refine W_ret ?_) | (refine W_skip ?_) | (refine W_exit ?_) | (refine bNorm ?_) | (refine bRet ?_) | (refine bExit ?_) | (refine bExitN rfl ?_)
        | (refine xMask ?_) | (refine xT ?_) | (refine xF ?_) | (refine xRet ?_) | (refine xNorm ?_)
        | (refine wSplit _ rfl (by (first | (simp only [go_sem, *]; (first | done | exact rfl)) | rfl)) ?_ ?_ <;> intro hb <;> (try simp only [beq_false, beq_true, Bool.not_true, Bool.not_false, Bool.not_eq_true', Bool.not_eq_false', decide_eq_false_iff_not, decide_eq_true_eq, bne_iff_ne, beq_iff_eq, Bool.true_eq, Bool.false_eq, Bool.not_not, Bool.and_eq_true, Bool.or_eq_true, Bool.bne_true, Bool.bne_false, bne_eq_false_iff_eq, beq_eq_false_iff_ne, ne_eq] at hb))
        | (refine W_cond _ (by (first | (simp only [go_sem, *]; (first | done | exact rfl)) | rfl)) ?_ ?_ <;> intro hb <;> (try simp only [beq_false, beq_true, Bool.not_true, Bool.not_false, Bool.not_eq_true', Bool.not_eq_false', decide_eq_false_iff_not, decide_eq_true_eq, bne_iff_ne, beq_iff_eq, Bool.true_eq, Bool.false_eq, Bool.not_not, Bool.and_eq_true, Bool.or_eq_true, Bool.bne_true, Bool.bne_false, bne_eq_false_iff_eq, beq_eq_false_iff_ne, ne_eq] at hb)))
      exact ⟨m - 1, by omega, k + 1, .slc id 0 ((L.take k).length + 1) 4, by omega, (by repeat' (first | assumption | exact Up.refl _ | refine Up.new ?_ ?_)), by simp only [set_ne, set_ne', ne_eq, not_false_eq_true, *], set_same, .inr ⟨id, by assumption, by rw [htk, List.length_append]; rfl, by rw [htk, set_ne (Ne.symm (by assumption)), set_same, List.flatMap_append]; rfl⟩, by simp only [keep, List.contains_cons, List.contains_nil, Nat.reduceBEq, Bool.or_true, Bool.true_or, Bool.or_false, Bool.false_or, if_true, if_false, Bool.false_eq_true, beq_self_eq_true, Nat.zero_add, Nat.reduceAdd, eq_self]⟩
  · have d1 : ¬ (k : Int) < (L.length : Int) := by omega
    rw [List.take_of_length_le (by omega)] at hP
    have sc3 : S'.scalar = true := by rcases hP with ⟨rfl, _⟩ | ⟨j, _, rfl, _⟩ <;> rfl
    repeat' (first
      | (refine wNil ?_) | (refine xPure ?_)
      | (refine xMk ?_; intro id hid; (try simp only [set_none_iff] at hid); refine mkDo ?_)
      | (refine xChk ?_) | (refine xChkF ?_) | (refine xSkip ?_)
      | (refine cSeq ?_) | (refine cNorm ?_) | (refine cRet ?_) | (refine cExit ?_) | (refine W_reg rfl ?_) | (refine W_block ?_) | (refine W_ret ?_) | (refine W_skip ?_) | (refine W_exit ?_) | (refine bNorm ?_) | (refine bRet ?_) | (refine bExit ?_) | (refine bExitN rfl ?_)
      | (refine xMask ?_) | (refine xT ?_) | (refine xF ?_) | (refine xRet ?_) | (refine xNorm ?_)
      | (refine wSplit _ rfl (by (first | (simp only [go_sem, *]; (first | done | exact rfl)) | rfl)) ?_ ?_ <;> intro hb <;> (try simp only [beq_false, beq_true, Bool.not_true, Bool.not_false, Bool.not_eq_true', Bool.not_eq_false', decide_eq_false_iff_not, decide_eq_true_eq, bne_iff_ne, beq_iff_eq, Bool.true_eq, Bool.false_eq, Bool.not_not, Bool.and_eq_true, Bool.or_eq_true, Bool.bne_true, Bool.bne_false, bne_eq_false_iff_eq, beq_eq_false_iff_ne, ne_eq] at hb))
      | (refine W_cond _ (by (first | (simp only [go_sem, *]; (first | done | exact rfl)) | rfl)) ?_ ?_ <;> intro hb <;> (try simp only [beq_false, beq_true, Bool.not_true, Bool.not_false, Bool.not_eq_true', Bool.not_eq_false', decide_eq_false_iff_not, decide_eq_true_eq, bne_iff_ne, beq_iff_eq, Bool.true_eq, Bool.false_eq, Bool.not_not, Bool.and_eq_true, Bool.or_eq_true, Bool.bne_true, Bool.bne_false, bne_eq_false_iff_eq, beq_eq_false_iff_ne, ne_eq] at hb)))
    all_goals (refine ⟨[.agg [.int .i64 k1, .int .i64 k2, .int .i64 k3, .int .i64 k4, .int .u64 (C : Int), .int .i64 n1, .int .i64 s1, .int .i64 s2, .bool ok, .str (bs x), S']], (by simp [ares, ares1, f47, ev, AH.cellsAt, AH.cell, set_same, set_ne', *]), S', rfl, ?_, Up.new hu hb2⟩)
    rcases hP with hP | ⟨j, j1, j2, j3⟩
    · exact .inl hP
    · refine .inr ⟨j, j1, j2, ?_⟩
      rw [set_ne]; exact j3
      rintro rfl
      rw [j3] at h2
      have := congrArg (fun b => (b.map fun b => b.cells.length)) h2
      simp [flat_len eMz] at this; omega
end Go.Proofs.YtgekngfnhhdamaaI
set_option linter.unusedVariables false
set_option linter.unusedSimpArgs false
set_option maxRecDepth 100000
set_option maxHeartbeats 4000000
namespace Go.Proofs.YtgekngfnhhdamaaI
open Go Go.Proofs.YtgekngfnhhdamaaM
attribute [local go_sem] aop ev fg_slc fg_slk fg_ptr fg_bool fg_int fg_str fg_iface fg_func fg_agg fg_tup fg_nils fg_nilp fg_nilI fg_nilF fg_und aboundsK alen_nils alen_slc alen_slk aslice_nils aslice_slc aslice_slk awanted abin aun aint aeqn aeqc aeqs apart abounds abnd amaxi amaxiGo cells_agg cells_slc cells_slk cells_ptr cells_bool cells_int cells_str cells_iface cells_func cells_tup cells_nils cells_nilp cells_nilI cells_nilF cells_und sc_slc sc_slk sc_ptr sc_bool sc_int sc_str sc_iface sc_func sc_nils sc_nilp sc_nilI sc_nilF gd_zero gd_succ List.all_cons List.all_nil Bool.and_self Bool.and_true Bool.true_and List.length_cons List.length_nil Option.map_some Option.some.injEq cell_same cell_ne cell_ne' cellsAt_same cellsAt_ne cellsAt_ne' put_same put_of set_same set_ne set_ne' List.getElem?_cons_zero List.getElem?_cons_succ if_true if_false and_self and_true true_and ne_eq not_true_eq_false not_false_eq_true decide_true decide_false Bool.false_eq_true Bool.true_eq_false beq_self_eq_true bne_self_eq_false beq_true beq_false Bool.not_true Bool.not_false List.map_cons List.map_nil putL List.set_cons_zero List.set_cons_succ afill Nat.zero_le Nat.le_refl Nat.zero_add Nat.add_zero List.drop_zero List.drop_succ_cons List.take_zero List.take_succ_cons Bool.not_eq_true Bool.not_eq_false decide_eq_true_eq decide_eq_false_iff_not Int.toNat_zero Nat.sub_zero Int.toNat_natCast Bool.bne_true Bool.bne_false AH.cell AH.cellsAt AH.put Nat.mul_one Nat.one_mul Int.natCast_nonneg List.length_set bs_append bs_size bs_toList bs_extract bs_get List.append_nil Nat.sub_zero bne_self_eq_false beq_self_eq_true azeros Int.le_refl aapp
/-- A list of entries in a block of its own, that is neither of two others. -/
def Pl (h0 B : AH) (b2 b8 : List Nat) (S : AV) (L : List En) : Prop := S = .nils ∧ L = [] ∨ ∃ j, h0 j = none ∧ j ≠ b2 ∧ j ≠ b8 ∧ S = .slc j 0 L.length 4 ∧ B j = some ⟨true, L.flatMap eM⟩
theorem Pl.up {h0 B B' : AH} {b2 b8 : List Nat} {S : AV} {L : List En} (h : Pl h0 B b2 b8 S L) (hu : Sub B B') : Pl h0 B' b2 b8 S L := by
  rcases h with h | ⟨j, a, d, e, b, c⟩
  · exact .inl h
  · exact .inr ⟨j, a, d, e, b, hu _ _ c⟩
/-- What Parse holds: its result, its message. -/
def Bl (h0 B : AH) (b2 b8 : List Nat) (cs : List AV) : Prop := Up h0 B ∧ h0 b2 = none ∧ h0 b8 = none ∧ b2 ≠ b8 ∧ B b2 = some ⟨true, [.int .i64 0, .int .i64 0, .int .i64 0, .int .i64 0, .int .u64 0, .int .i64 0, .int .i64 0, .int .i64 0, .bool false, .str ⟨#[]⟩, .nils]⟩ ∧ B b8 = some ⟨true, cs⟩
def lpG : Nat → List UInt8 → Int → Int → List UInt8 × Int × List En
  | 0, s, e, _ => (s, e, [])
  | n + 1, s, e, last => if e = 0 then ((lpG n (eG s e last).1 (eG s e last).2.1 (eG s e last).2.2.1).1, (lpG n (eG s e last).1 (eG s e last).2.1 (eG s e last).2.2.1).2.1, (eG s e last).2.2 :: (lpG n (eG s e last).1 (eG s e last).2.1 (eG s e last).2.2.1).2.2) else (s, e, [])
theorem lpG_stop {n : Nat} {s : List UInt8} {e last : Int} (h : n = 0 ∨ ¬ e = 0) : lpG n s e last = (s, e, []) := by
  cases n with
  | zero => rfl
  | succ n =>
    rcases h with h | h
    · exact absurd h (by omega)
    · unfold lpG; rw [if_neg h]
def exE (inn s : List UInt8) (e : Int) : Int := if inn.length + 8 = s.length then e else fl e 4
def L55c : ICode := (.seq (.block 1 (.loop (.seq (.mask [0, 2, 5, 7, 8, 9, 10]) (.seq (.seq (.reg [(0, false), (1, false), (2, false), (3, false), (4, false), (5, false), (6, false)] r55_17)
 (.cond (.t 64) .skip
 (.exit 1)))
 (.seq (.seq (.block 2 (.seq (.reg [(0, false), (1, false), (2, false), (3, false), (4, false)] r55_18)
 (.seq (.reg [(0, false), (1, false), (2, false), (3, false), (4, false), (5, false), (6, false)] r55_19)
 (.reg [(0, false), (1, false), (2, false)] r55_20)))) (.mask [0, 2, 5, 7, 8, 9, 10]))
 (.reg [(0, false), (1, false), (2, false)] r55_21)))))) (.mask [0, 2, 5, 7, 8]))
def R55c : ICode := (.seq (.seq (.reg [(0, false), (1, false), (2, false), (3, false), (4, false), (5, false)] r55_22)
 (.seq (.cond (.t 83) (.reg [(0, false), (1, false)] r55_23)
 .skip) (.mask [2, 7, 8])))
 (.seq (.seq (.reg [(0, false), (1, false), (2, false)] r55_24)
 (.seq (.reg [(0, false), (1, false)] r55_25)
 (.cond (.t 89) (.seq (.reg [(0, false), (1, false), (2, false), (3, false)] r55_26)
 .ret)
 .skip)))
 (.seq (.reg [(0, false), (1, false), (2, false)] r55_27)
 .ret)))
/-- What Parse comes to. -/
def PQ (h0 : AH) (k1 k2 k3 k4 : Int) (C : Nat) (n1 s1 s2 : Int) (ok : Bool) (x : List UInt8) (L : List En) (ef : Int) (v : AV) (h' : AH) : Prop :=
  (ef = 0 → ∃ S, v = .tup [.agg [.int .i64 k1, .int .i64 k2, .int .i64 k3, .int .i64 k4, .int .u64 (C : Int), .int .i64 n1, .int .i64 s1, .int .i64 s2, .bool ok, .str (bs x), S], .int .i64 0] ∧ Po h0 h' S L ∧ Up h0 h') ∧ (¬ ef = 0 → v = .tup [.agg [.int .i64 0, .int .i64 0, .int .i64 0, .int .i64 0, .int .u64 0, .int .i64 0, .int .i64 0, .int .i64 0, .bool false, .str ⟨#[]⟩, .nils], .int .i64 ef] ∧ Up h0 h')
theorem PQ.good {h0 : AH} {k1 k2 k3 k4 : Int} {C : Nat} {n1 s1 s2 : Int} {ok : Bool} {x : List UInt8} {L : List En} {v : AV} {h' : AH} (S : AV) (h1 : v = .tup [.agg [.int .i64 k1, .int .i64 k2, .int .i64 k3, .int .i64 k4, .int .u64 (C : Int), .int .i64 n1, .int .i64 s1, .int .i64 s2, .bool ok, .str (bs x), S], .int .i64 0]) (h2 : Po h0 h' S L) (h3 : Up h0 h') : PQ h0 k1 k2 k3 k4 C n1 s1 s2 ok x L 0 v h' := by
  exact ⟨fun _ => ⟨S, h1, h2, h3⟩, fun h => absurd rfl h⟩
theorem PQ.bad {h0 : AH} {k1 k2 k3 k4 : Int} {C : Nat} {n1 s1 s2 : Int} {ok : Bool} {x : List UInt8} {L : List En} {v : AV} {h' : AH} {ef : Int} (hz : ¬ ef = 0) (h1 : v = .tup [.agg [.int .i64 0, .int .i64 0, .int .i64 0, .int .i64 0, .int .u64 0, .int .i64 0, .int .i64 0, .int .i64 0, .bool false, .str ⟨#[]⟩, .nils], .int .i64 ef]) (h3 : Up h0 h') : PQ h0 k1 k2 k3 k4 C n1 s1 s2 ok x L ef v h' := by
  exact ⟨fun h => absurd h hz, fun _ => ⟨h1, h3⟩⟩
theorem tail55 (h0 B g : AH) (b2 b8 p : List Nat) (inn s R : List UInt8) (e : Int) (k1 k2 k3 k4 : Int) (C : Nat) (n1 s1 s2 : Int) (ok : Bool) (x : List UInt8) (S : AV) (L : List En) (hB : Bl h0 B b2 b8 [.int .i64 k1, .int .i64 k2, .int .i64 k3, .int .i64 k4, .int .u64 (C : Int), .int .i64 n1, .int .i64 s1, .int .i64 s2, .bool ok, .str (bs x), S]) (hP : Pl h0 B b2 b8 S L) (hr : Rd B p g R e) (hs : s.length ≤ 1000000000) (hi : inn.length ≤ 1000000000) :
    W T R55c [.str (bs s), .und, .ptr b2 0, .und, .und, .str (bs inn), .und, .ptr p 0, .ptr b8 0, .und, .und, .und, .und, .und, .und, .und, .und, .und, .und, .und, .und, .und, .und, .und, .und, .und, .und, .und, .und, .und, .und, .und, .und, .und, .und, .und, .und, .und, .und, .und, .und, .und, .und, .und, .und, .und, .und, .und, .und, .und, .und, .und, .und, .und, .und, .und, .und, .und, .und, .und, .und, .und, .und, .und, .und, .und, .und, .und, .und, .und, .und, .und, .und, .und, .und, .und, .und, .und, .und, .und, .und, .und, .und, .und, .und, .und, .und, .und, .und, .und, .und, .und, .und] g (Rets f55 (PQ h0 k1 k2 k3 k4 C n1 s1 s2 ok x L (dn R (exE inn s e)))) := by
  obtain ⟨hu, n2, n8, n28, hb2, hb8⟩ := hB
  have hp := hr.2.2
  have g2 := hr.1 _ _ hb2
  have g8 := hr.1 _ _ hb8
  have sc : S.scalar = true ∧ S.cells = [S] := by rcases hP with ⟨rfl, _⟩ | ⟨j, _, _, _, rfl, _⟩ <;> exact ⟨rfl, rfl⟩
  obtain ⟨sc1, sc2⟩ := sc
  have w1 : IntKind.i64.wrap ((inn.length : Int) + 8) = ((inn.length + 8 : Nat) : Int) := by rw [wrap64 (by omega) (by omega)]; rfl
  unfold R55c
  by_cases c : inn.length + 8 = s.length
  · have c1 : (((inn.length + 8 : Nat) : Int) != (s.length : Int)) = false := by rw [c]; simp
    have e1 : exE inn s e = e := if_pos c
    rw [e1]
    have k29 : ∀ h, Rd B p h R e → Sp T 29 [.ptr p 0] h (fun r h' => r = .int .i64 (dn R e) ∧ Rd B p h' R (dn R e)) := fun h hr => sp29 B p R e h hr
    obtain ⟨ef, hef⟩ : ∃ z, dn R e = z := ⟨_, rfl⟩
    rw [hef] at k29 ⊢
    clear hef c
    by_cases z : ef = 0
    · subst z
      repeat' (first
        | (refine wNil ?_) | (refine xPure ?_)
        | (refine xMk ?_; intro id hid; (try simp only [set_none_iff] at hid); have hz := hid; (repeat (replace hz := hz.2)); (try have := nei g24 hz); (try have := nei g84 hz); refine mkDo ?_)
        | (refine xChk ?_) | (refine xChkF ?_) | (refine xSkip ?_)
        | (refine xCall rfl rfl (k29 _ (hr)) ?_; rintro r g4 ⟨rfl, hr4⟩; have g24 := hr4.1 _ _ hb2; have g84 := hr4.1 _ _ hb8; refine nTm ?_)
        | (refine cSeq ?_) | (refine cNorm ?_) | (refine cRet ?_) | (refine cExit ?_) | (refine W_reg rfl ?_) | (refine W_block ?_) | (refine W_ret ?_) | (refine W_skip ?_) | (refine W_exit ?_) | (refine bNorm ?_) | (refine bRet ?_) | (refine bExit ?_) | (refine bExitN rfl ?_)
        | (refine xMask ?_) | (refine xT ?_) | (refine xF ?_) | (refine xRet ?_) | (refine xNorm ?_)
        | (refine wSplit _ rfl (by (first | (simp only [go_sem, *]; (first | done | exact rfl)) | rfl)) ?_ ?_ <;> intro hb <;> (try simp only [beq_false, beq_true, Bool.not_true, Bool.not_false, Bool.not_eq_true', Bool.not_eq_false', decide_eq_false_iff_not, decide_eq_true_eq, bne_iff_ne, beq_iff_eq, Bool.true_eq, Bool.false_eq, Bool.not_not, Bool.and_eq_true, Bool.or_eq_true, Bool.bne_true, Bool.bne_false, bne_eq_false_iff_eq, beq_eq_false_iff_ne, ne_eq] at hb))
        | (refine W_cond _ (by (first | (simp only [go_sem, *]; (first | done | exact rfl)) | rfl)) ?_ ?_ <;> intro hb <;> (try simp only [beq_false, beq_true, Bool.not_true, Bool.not_false, Bool.not_eq_true', Bool.not_eq_false', decide_eq_false_iff_not, decide_eq_true_eq, bne_iff_ne, beq_iff_eq, Bool.true_eq, Bool.false_eq, Bool.not_not, Bool.and_eq_true, Bool.or_eq_true, Bool.bne_true, Bool.bne_false, bne_eq_false_iff_eq, beq_eq_false_iff_ne, ne_eq] at hb)))
      all_goals (refine ⟨[.agg [.int .i64 k1, .int .i64 k2, .int .i64 k3, .int .i64 k4, .int .u64 (C : Int), .int .i64 n1, .int .i64 s1, .int .i64 s2, .bool ok, .str (bs x), S], .int .i64 0], (by simp [ares, ares1, f55, ev, AH.cellsAt, AH.cell, set_same, set_ne', *]), PQ.good S rfl ?_ ?_⟩)
      · have hP4 := hP.up hr4.1
        rcases hP4 with ⟨a, b⟩ | ⟨j, a, d, f, b, c⟩
        · exact .inl ⟨a, b⟩
        · exact .inr ⟨j, a, b, by rw [set_ne d]; exact c⟩
      · exact fun z b e => by rw [set_ne (nei e n2)]; exact hr4.1 z b (hu z b e)
    · have z1 : (ef != 0) = true := by simpa using z
      repeat' (first
        | (refine wNil ?_) | (refine xPure ?_)
        | (refine xMk ?_; intro id hid; (try simp only [set_none_iff] at hid); have hz := hid; (repeat (replace hz := hz.2)); (try have := nei g24 hz); (try have := nei g84 hz); refine mkDo ?_)
        | (refine xChk ?_) | (refine xChkF ?_) | (refine xSkip ?_)
        | (refine xCall rfl rfl (k29 _ (hr)) ?_; rintro r g4 ⟨rfl, hr4⟩; have g24 := hr4.1 _ _ hb2; have g84 := hr4.1 _ _ hb8; refine nTm ?_)
        | (refine cSeq ?_) | (refine cNorm ?_) | (refine cRet ?_) | (refine cExit ?_) | (refine W_reg rfl ?_) | (refine W_block ?_) | (refine W_ret ?_) | (refine W_skip ?_) | (refine W_exit ?_) | (refine bNorm ?_) | (refine bRet ?_) | (refine bExit ?_) | (refine bExitN rfl ?_)
        | (refine xMask ?_) | (refine xT ?_) | (refine xF ?_) | (refine xRet ?_) | (refine xNorm ?_)
        | (refine wSplit _ rfl (by (first | (simp only [go_sem, *]; (first | done | exact rfl)) | rfl)) ?_ ?_ <;> intro hb <;> (try simp only [beq_false, beq_true, Bool.not_true, Bool.not_false, Bool.not_eq_true', Bool.not_eq_false', decide_eq_false_iff_not, decide_eq_true_eq, bne_iff_ne, beq_iff_eq, Bool.true_eq, Bool.false_eq, Bool.not_not, Bool.and_eq_true, Bool.or_eq_true, Bool.bne_true, Bool.bne_false, bne_eq_false_iff_eq, beq_eq_false_iff_ne, ne_eq] at hb))
        | (refine W_cond _ (by (first | (simp only [go_sem, *]; (first | done | exact rfl)) | rfl)) ?_ ?_ <;> intro hb <;> (try simp only [beq_false, beq_true, Bool.not_true, Bool.not_false, Bool.not_eq_true', Bool.not_eq_false', decide_eq_false_iff_not, decide_eq_true_eq, bne_iff_ne, beq_iff_eq, Bool.true_eq, Bool.false_eq, Bool.not_not, Bool.and_eq_true, Bool.or_eq_true, Bool.bne_true, Bool.bne_false, bne_eq_false_iff_eq, beq_eq_false_iff_ne, ne_eq] at hb)))
      all_goals (refine ⟨[.agg [.int .i64 0, .int .i64 0, .int .i64 0, .int .i64 0, .int .u64 0, .int .i64 0, .int .i64 0, .int .i64 0, .bool false, .str ⟨#[]⟩, .nils], .int .i64 ef], (by simp [ares, ares1, f55, ev, AH.cellsAt, AH.cell, set_same, set_ne', *]), PQ.bad z rfl ?_⟩)
      exact fun z b e => by rw [set_ne (nei e n2)]; exact hr4.1 z b (hu z b e)
  · have c1 : (((inn.length + 8 : Nat) : Int) != (s.length : Int)) = true := by rw [bne_iff_ne]; omega
    have e1 : exE inn s e = fl e 4 := if_neg c
    rw [e1]
    have k29 : ∀ h, Rd B p h R (fl e 4) → Sp T 29 [.ptr p 0] h (fun r h' => r = .int .i64 (dn R (fl e 4)) ∧ Rd B p h' R (dn R (fl e 4))) := fun h hr => sp29 B p R _ h hr
    have hd0 : ¬ dn R (fl e 4) = 0 := by
      unfold dn fl
      split <;> split <;> (try split) <;> omega
    obtain ⟨ef, hef⟩ : ∃ z, dn R (fl e 4) = z := ⟨_, rfl⟩
    rw [hef] at k29 hd0 ⊢
    clear hef c
    have z1 : (ef != 0) = true := by simpa using hd0
    repeat' (first
      | (refine wNil ?_) | (refine xPure ?_)
      | (refine xMk ?_; intro id hid; (try simp only [set_none_iff] at hid); have hz := hid; (repeat (replace hz := hz.2)); (try have := nei g24 hz); (try have := nei g84 hz); refine mkDo ?_)
      | (refine xChk ?_) | (refine xChkF ?_) | (refine xSkip ?_)
      | (refine xCall rfl rfl (sp32 B p R e 4 _ hr) ?_; rintro r g3 hr3; have hp3 := hr3.2.2; have g23 := hr3.1 _ _ hb2; have g83 := hr3.1 _ _ hb8; refine nTm ?_)
      | (refine xCall rfl rfl (k29 _ (hr3)) ?_; rintro r g4 ⟨rfl, hr4⟩; have g24 := hr4.1 _ _ hb2; have g84 := hr4.1 _ _ hb8; refine nTm ?_)
      | (refine cSeq ?_) | (refine cNorm ?_) | (refine cRet ?_) | (refine cExit ?_) | (refine W_reg rfl ?_) | (refine W_block ?_) | (refine W_ret ?_) | (refine W_skip ?_) | (refine W_exit ?_) | (refine bNorm ?_) | (refine bRet ?_) | (refine bExit ?_) | (refine bExitN rfl ?_)
      | (refine xMask ?_) | (refine xT ?_) | (refine xF ?_) | (refine xRet ?_) | (refine xNorm ?_)
      | (refine wSplit _ rfl (by (first | (simp only [go_sem, *]; (first | done | exact rfl)) | rfl)) ?_ ?_ <;> intro hb <;> (try simp only [beq_false, beq_true, Bool.not_true, Bool.not_false, Bool.not_eq_true', Bool.not_eq_false', decide_eq_false_iff_not, decide_eq_true_eq, bne_iff_ne, beq_iff_eq, Bool.true_eq, Bool.false_eq, Bool.not_not, Bool.and_eq_true, Bool.or_eq_true, Bool.bne_true, Bool.bne_false, bne_eq_false_iff_eq, beq_eq_false_iff_ne, ne_eq] at hb))
      | (refine W_cond _ (by (first | (simp only [go_sem, *]; (first | done | exact rfl)) | rfl)) ?_ ?_ <;> intro hb <;> (try simp only [beq_false, beq_true, Bool.not_true, Bool.not_false, Bool.not_eq_true', Bool.not_eq_false', decide_eq_false_iff_not, decide_eq_true_eq, bne_iff_ne, beq_iff_eq, Bool.true_eq, Bool.false_eq, Bool.not_not, Bool.and_eq_true, Bool.or_eq_true, Bool.bne_true, Bool.bne_false, bne_eq_false_iff_eq, beq_eq_false_iff_ne, ne_eq] at hb)))
    all_goals (refine ⟨[.agg [.int .i64 0, .int .i64 0, .int .i64 0, .int .i64 0, .int .u64 0, .int .i64 0, .int .i64 0, .int .i64 0, .bool false, .str ⟨#[]⟩, .nils], .int .i64 ef], (by simp [ares, ares1, f55, ev, AH.cellsAt, AH.cell, set_same, set_ne', *]), PQ.bad hd0 rfl ?_⟩)
    exact fun z b e => by rw [set_ne (nei e n2)]; exact hr4.1 z b (hu z b e)
theorem loop55 (h0 B g : AH) (b2 b8 p : List Nat) (inn s R : List UInt8) (e : Int) (k1 k2 k3 k4 : Int) (C : Nat) (n1 s1 s2 : Int) (ok : Bool) (x : List UInt8) (S : AV) (L : List En) (hB : Bl h0 B b2 b8 [.int .i64 k1, .int .i64 k2, .int .i64 k3, .int .i64 k4, .int .u64 (C : Int), .int .i64 n1, .int .i64 s1, .int .i64 s2, .bool ok, .str (bs x), S]) (hP : Pl h0 B b2 b8 S L) (hr : Rd B p g R e) (hs : s.length ≤ 1000000000) (hi : inn.length ≤ 1000000000) (n : Nat) (hn : n ≤ 64) (hL : L.length = 0) (tm : List AV) (htm : keep [0, 2, 5, 7, 8, 9, 10] 0 tm = [.str (bs s), .und, .ptr b2 0, .und, .und, .str (bs inn), .und, .ptr p 0, .ptr b8 0, .int .i64 (-1), .int .i64 (n : Int), .und, .und, .und, .und, .und, .und, .und, .und, .und, .und, .und, .und, .und, .und, .und, .und, .und, .und, .und, .und, .und, .und, .und, .und, .und, .und, .und, .und, .und, .und, .und, .und, .und, .und, .und, .und, .und, .und, .und, .und, .und, .und, .und, .und, .und, .und, .und, .und, .und, .und, .und, .und, .und, .und, .und, .und, .und, .und, .und, .und, .und, .und, .und, .und, .und, .und, .und, .und, .und, .und, .und, .und, .und, .und, .und, .und, .und, .und, .und, .und, .und, .und]) :
    W T L55c tm g (Then (fun tm' h' => W T R55c tm' h' (Rets f55 (PQ h0 k1 k2 k3 k4 C n1 s1 s2 ok x (lpG n R e (-1)).2.2 (dn (lpG n R e (-1)).1 (exE inn s (lpG n R e (-1)).2.1))))) (Rets f55 (PQ h0 k1 k2 k3 k4 C n1 s1 s2 ok x (lpG n R e (-1)).2.2 (dn (lpG n R e (-1)).1 (exE inn s (lpG n R e (-1)).2.1))))) := by
  obtain rfl : L = [] := List.eq_nil_of_length_eq_zero hL
  unfold L55c
  refine cSeq ?_
  refine W_block ?_
  obtain ⟨Fi, hFi⟩ : ∃ z, lpG n R e (-1) = z := ⟨_, rfl⟩
  rw [hFi]
  refine W_loop (fun m tm g => ∃ (B : AH) (R : List UInt8) (e last : Int) (S : AV) (L : List En), m ≤ 64 ∧ L.length ≤ 64 - m ∧ Bl h0 B b2 b8 [.int .i64 k1, .int .i64 k2, .int .i64 k3, .int .i64 k4, .int .u64 (C : Int), .int .i64 n1, .int .i64 s1, .int .i64 s2, .bool ok, .str (bs x), S] ∧ Pl h0 B b2 b8 S L ∧ Rd B p g R e ∧ Fi = ((lpG m R e last).1, (lpG m R e last).2.1, L ++ (lpG m R e last).2.2) ∧ keep [0, 2, 5, 7, 8, 9, 10] 0 tm = [.str (bs s), .und, .ptr b2 0, .und, .und, .str (bs inn), .und, .ptr p 0, .ptr b8 0, .int .i64 last, .int .i64 (m : Int), .und, .und, .und, .und, .und, .und, .und, .und, .und, .und, .und, .und, .und, .und, .und, .und, .und, .und, .und, .und, .und, .und, .und, .und, .und, .und, .und, .und, .und, .und, .und, .und, .und, .und, .und, .und, .und, .und, .und, .und, .und, .und, .und, .und, .und, .und, .und, .und, .und, .und, .und, .und, .und, .und, .und, .und, .und, .und, .und, .und, .und, .und, .und, .und, .und, .und, .und, .und, .und, .und, .und, .und, .und, .und, .und, .und, .und, .und, .und, .und, .und, .und]) n ⟨B, R, e, -1, S, [], hn, by simp, hB, hP, hr, by rw [hFi]; rfl, htm⟩ ?_
  clear htm hr hP hB hFi hL
  rintro m tm g ⟨B, R, e, last, S, L, hm, hlen, hB, hP, hr, hF, htm⟩
  refine cSeq (cMask (cNorm ?_))
  rw [htm]; clear htm
  have hB' := hB
  obtain ⟨hu, n2, n8, n28, hb2, hb8⟩ := hB
  have hp := hr.2.2
  have g2 := hr.1 _ _ hb2
  have g8 := hr.1 _ _ hb8
  cases m with
  | zero =>
    have d1 : ¬ ((0 : Nat) : Int) > 0 := by omega
    rw [lpG_stop (.inl rfl), List.append_nil] at hF
    rw [hF]
    repeat' (first
      | (refine wNil ?_) | (refine xPure ?_)
      | (refine xMk ?_; intro id hid; (try simp only [set_none_iff] at hid); refine mkDo ?_)
      | (refine xChk ?_) | (refine xChkF ?_) | (refine xSkip ?_)
      | (exact tail55 h0 B g b2 b8 p inn s R e k1 k2 k3 k4 C n1 s1 s2 ok x S L hB' hP hr hs hi)
      | (refine cSeq ?_) | (refine cNorm ?_) | (refine cRet ?_) | (refine cExit ?_) | (refine W_reg rfl ?_) | (refine W_block ?_) | (refine W_ret ?_) | (refine W_skip ?_) | (refine W_exit ?_) | (refine bNorm ?_) | (refine bRet ?_) | (refine bExit ?_) | (refine bExitN rfl ?_)
      | (refine xMask ?_) | (refine xT ?_) | (refine xF ?_) | (refine xRet ?_) | (refine xNorm ?_)
      | (refine wSplit _ rfl (by (first | (simp only [go_sem, *]; (first | done | exact rfl)) | rfl)) ?_ ?_ <;> intro hb <;> (try simp only [beq_false, beq_true, Bool.not_true, Bool.not_false, Bool.not_eq_true', Bool.not_eq_false', decide_eq_false_iff_not, decide_eq_true_eq, bne_iff_ne, beq_iff_eq, Bool.true_eq, Bool.false_eq, Bool.not_not, Bool.and_eq_true, Bool.or_eq_true, Bool.bne_true, Bool.bne_false, bne_eq_false_iff_eq, beq_eq_false_iff_ne, ne_eq] at hb))
      | (refine W_cond _ (by (first | (simp only [go_sem, *]; (first | done | exact rfl)) | rfl)) ?_ ?_ <;> intro hb <;> (try simp only [beq_false, beq_true, Bool.not_true, Bool.not_false, Bool.not_eq_true', Bool.not_eq_false', decide_eq_false_iff_not, decide_eq_true_eq, bne_iff_ne, beq_iff_eq, Bool.true_eq, Bool.false_eq, Bool.not_not, Bool.and_eq_true, Bool.or_eq_true, Bool.bne_true, Bool.bne_false, bne_eq_false_iff_eq, beq_eq_false_iff_ne, ne_eq] at hb)))
  | succ m =>
    have d1 : ((m + 1 : Nat) : Int) > 0 := by omega
    by_cases he : e = 0
    · subst he
      have w1 : IntKind.i64.wrap (((m + 1 : Nat) : Int) - 1) = (m : Int) := by rw [wrap64 (by omega) (by omega)]; omega
      rw [show lpG (m + 1) R 0 last = ((lpG m (eG R 0 last).1 (eG R 0 last).2.1 (eG R 0 last).2.2.1).1, (lpG m (eG R 0 last).1 (eG R 0 last).2.1 (eG R 0 last).2.2.1).2.1, (eG R 0 last).2.2 :: (lpG m (eG R 0 last).1 (eG R 0 last).2.1 (eG R 0 last).2.2.1).2.2) from if_pos rfl] at hF
      have k78 : ∀ h, Rd B p h R 0 → Sp T 78 [.ptr p 0, .int .i64 last] h (fun r h' => r = .agg (eM (eG R 0 last).2.2) ∧ Rd B p h' (eG R 0 last).1 (eG R 0 last).2.1) := fun h hr => sp78 B p R 0 last h hr
      obtain ⟨⟨R2, e2, y1, y2, y3, y4⟩, hq⟩ : ∃ q, eG R 0 last = q := ⟨_, rfl⟩
      simp only [hq, eM] at k78 hF
      clear hq
      have r2 : 40 ≤ roomMost := by unfold roomMost; omega
      rcases hP with ⟨rfl, rfl⟩ | ⟨j, j1, j2, j3, rfl, hj⟩
      · repeat' (first
          | (refine wNil ?_) | (refine xPure ?_)
          | (refine xMk ?_; intro id hid; (try simp only [set_none_iff] at hid); have hz := hid; (repeat (replace hz := hz.2)); (try have := nei g25 hz); (try have := nei g85 hz); (try have := nei hp5 hz); refine mkDo ?_)
          | (refine xChk ?_) | (refine xChkF ?_) | (refine xSkip ?_)
          | (refine xCall rfl rfl (sp26 B p R 0 _ hr) ?_; rintro r h' ⟨rfl, hx⟩; cases hx; refine nTm ?_)
          | (refine xCall rfl rfl (k78 _ hr) ?_; rintro r g5 ⟨rfl, hr5⟩; have hp5 := hr5.2.2; have g25 := hr5.1 _ _ hb2; have g85 := hr5.1 _ _ hb8; refine nTm ?_)
          | (refine cSeq ?_) | (refine cNorm ?_) | (refine cRet ?_) | (refine cExit ?_) | (refine W_reg rfl ?_) | (refine W_block ?_) | (refine W_ret ?_) | (refine W_skip ?_) | (refine W_exit ?_) | (refine bNorm ?_) | (refine bRet ?_) | (refine bExit ?_) | (refine bExitN rfl ?_)
          | (refine xMask ?_) | (refine xT ?_) | (refine xF ?_) | (refine xRet ?_) | (refine xNorm ?_)
          | (refine wSplit _ rfl (by (first | (simp only [go_sem, *]; (first | done | exact rfl)) | rfl)) ?_ ?_ <;> intro hb <;> (try simp only [beq_false, beq_true, Bool.not_true, Bool.not_false, Bool.not_eq_true', Bool.not_eq_false', decide_eq_false_iff_not, decide_eq_true_eq, bne_iff_ne, beq_iff_eq, Bool.true_eq, Bool.false_eq, Bool.not_not, Bool.and_eq_true, Bool.or_eq_true, Bool.bne_true, Bool.bne_false, bne_eq_false_iff_eq, beq_eq_false_iff_ne, ne_eq] at hb))
          | (refine W_cond _ (by (first | (simp only [go_sem, *]; (first | done | exact rfl)) | rfl)) ?_ ?_ <;> intro hb <;> (try simp only [beq_false, beq_true, Bool.not_true, Bool.not_false, Bool.not_eq_true', Bool.not_eq_false', decide_eq_false_iff_not, decide_eq_true_eq, bne_iff_ne, beq_iff_eq, Bool.true_eq, Bool.false_eq, Bool.not_not, Bool.and_eq_true, Bool.or_eq_true, Bool.bne_true, Bool.bne_false, bne_eq_false_iff_eq, beq_eq_false_iff_ne, ne_eq] at hb)))
        have hBid : B id = none := hr5.1.no hz
        have h0id : h0 id = none := Sub.no (show Sub h0 B from hu) hBid
        have n2id : id ≠ b2 := nei' hb2 hBid
        have n8id : id ≠ b8 := nei' hb8 hBid
        have nid : id ≠ p := Ne.symm (nei hp5 hz)
        have n8p : b8 ≠ p := nei hb8 hr.2.1
        refine ⟨m, by omega, (B.set id (some ⟨true, [.int .i64 y1, .int .u64 (y2 : Int), .int .i64 y3, .str (bs y4)]⟩)).set b8 (some ⟨true, [.int .i64 k1, .int .i64 k2, .int .i64 k3, .int .i64 k4, .int .u64 (C : Int), .int .i64 n1, .int .i64 s1, .int .i64 s2, .bool ok, .str (bs x), .slc id 0 1 4]⟩), R2, e2, y1, .slc id 0 1 4, [(y1, y2, y3, y4)], by omega, by simp; omega, ⟨?_, n2, n8, n28, ?_, set_same⟩, ?_, ?_, by rw [hF]; rfl, by simp only [keep, List.contains_cons, List.contains_nil, Nat.reduceBEq, Bool.or_true, Bool.true_or, Bool.or_false, Bool.false_or, if_true, if_false, Bool.false_eq_true, beq_self_eq_true, Nat.zero_add, Nat.reduceAdd, eq_self]⟩
        · exact Sub.set (Sub.set hu h0id) n8
        · exact (set_ne n28).trans ((set_ne (Ne.symm n2id)).trans hb2)
        · exact .inr ⟨id, h0id, n2id, n8id, rfl, (set_ne n8id).trans set_same⟩
        · exact Rd.both (Rd.both (Rd.more (Rd.more2 hr5 (by assumption)) (by simp only [set_none_iff]; assumption)) nid) n8p
      · have r1 : (L.length + 1) * 40 ≤ roomMost := by unfold roomMost; omega
        have r3 := flat_len eMz L
        have r4 : List.take (L.length * 4) (L.flatMap eM) = L.flatMap eM := List.take_of_length_le (by omega)
        repeat' (first
          | (refine wNil ?_) | (refine xPure ?_)
          | (refine xMk ?_; intro id hid; (try simp only [set_none_iff] at hid); have hz := hid; (repeat (replace hz := hz.2)); (try have := nei g25 hz); (try have := nei g85 hz); (try have := nei hp5 hz); (try have := nei gj5 hz); refine mkDo ?_)
          | (refine xChk ?_) | (refine xChkF ?_) | (refine xSkip ?_)
          | (refine xCall rfl rfl (sp26 B p R 0 _ hr) ?_; rintro r h' ⟨rfl, hx⟩; cases hx; refine nTm ?_)
          | (refine xCall rfl rfl (k78 _ hr) ?_; rintro r g5 ⟨rfl, hr5⟩; have hp5 := hr5.2.2; have g25 := hr5.1 _ _ hb2; have g85 := hr5.1 _ _ hb8; have gj5 := hr5.1 _ _ hj; refine nTm ?_)
          | (refine cSeq ?_) | (refine cNorm ?_) | (refine cRet ?_) | (refine cExit ?_) | (refine W_reg rfl ?_) | (refine W_block ?_) | (refine W_ret ?_) | (refine W_skip ?_) | (refine W_exit ?_) | (refine bNorm ?_) | (refine bRet ?_) | (refine bExit ?_) | (refine bExitN rfl ?_)
          | (refine xMask ?_) | (refine xT ?_) | (refine xF ?_) | (refine xRet ?_) | (refine xNorm ?_)
          | (refine wSplit _ rfl (by (first | (simp only [go_sem, *]; (first | done | exact rfl)) | rfl)) ?_ ?_ <;> intro hb <;> (try simp only [beq_false, beq_true, Bool.not_true, Bool.not_false, Bool.not_eq_true', Bool.not_eq_false', decide_eq_false_iff_not, decide_eq_true_eq, bne_iff_ne, beq_iff_eq, Bool.true_eq, Bool.false_eq, Bool.not_not, Bool.and_eq_true, Bool.or_eq_true, Bool.bne_true, Bool.bne_false, bne_eq_false_iff_eq, beq_eq_false_iff_ne, ne_eq] at hb))
          | (refine W_cond _ (by (first | (simp only [go_sem, *]; (first | done | exact rfl)) | rfl)) ?_ ?_ <;> intro hb <;> (try simp only [beq_false, beq_true, Bool.not_true, Bool.not_false, Bool.not_eq_true', Bool.not_eq_false', decide_eq_false_iff_not, decide_eq_true_eq, bne_iff_ne, beq_iff_eq, Bool.true_eq, Bool.false_eq, Bool.not_not, Bool.and_eq_true, Bool.or_eq_true, Bool.bne_true, Bool.bne_false, bne_eq_false_iff_eq, beq_eq_false_iff_ne, ne_eq] at hb)))
        have hBid : B id = none := hr5.1.no hz
        have h0id : h0 id = none := Sub.no (show Sub h0 B from hu) hBid
        have n2id : id ≠ b2 := nei' hb2 hBid
        have n8id : id ≠ b8 := nei' hb8 hBid
        have nid : id ≠ p := Ne.symm (nei hp5 hz)
        have n8p : b8 ≠ p := nei hb8 hr.2.1
        have njp : j ≠ p := nei hj hr.2.1
        have eN : L.flatMap eM ++ [.int .i64 y1, .int .u64 (y2 : Int), .int .i64 y3, .str (bs y4)] = (L ++ [(y1, y2, y3, y4)]).flatMap eM := by rw [List.flatMap_append]; rfl
        have eL : L.length + 1 = (L ++ [(y1, y2, y3, y4)]).length := by rw [List.length_append]; rfl
        refine ⟨m, by omega, ((B.set j none).set id (some ⟨true, L.flatMap eM ++ [.int .i64 y1, .int .u64 (y2 : Int), .int .i64 y3, .str (bs y4)]⟩)).set b8 (some ⟨true, [.int .i64 k1, .int .i64 k2, .int .i64 k3, .int .i64 k4, .int .u64 (C : Int), .int .i64 n1, .int .i64 s1, .int .i64 s2, .bool ok, .str (bs x), .slc id 0 (L.length + 1) 4]⟩), R2, e2, y1, .slc id 0 (L.length + 1) 4, L ++ [(y1, y2, y3, y4)], by omega, by rw [List.length_append, List.length_cons, List.length_nil]; omega, ⟨?_, n2, n8, n28, ?_, set_same⟩, ?_, ?_, by rw [hF, List.append_assoc]; rfl, by simp only [keep, List.contains_cons, List.contains_nil, Nat.reduceBEq, Bool.or_true, Bool.true_or, Bool.or_false, Bool.false_or, if_true, if_false, Bool.false_eq_true, beq_self_eq_true, Nat.zero_add, Nat.reduceAdd, eq_self]⟩
        · exact Sub.set (Sub.set (Sub.set hu j1) h0id) n8
        · exact (set_ne n28).trans ((set_ne (Ne.symm n2id)).trans ((set_ne (Ne.symm j2)).trans hb2))
        · exact .inr ⟨id, h0id, n2id, n8id, by rw [← eL], (set_ne n8id).trans (by rw [set_same, eN])⟩
        · exact Rd.both (Rd.both (Rd.both (Rd.more (Rd.more2 hr5 (by assumption)) (by simp only [set_none_iff]; assumption)) njp) nid) n8p
    · have he' : (e == 0) = false := by simpa using he
      rw [lpG_stop (.inr he), List.append_nil] at hF
      rw [hF]
      repeat' (first
        | (refine wNil ?_) | (refine xPure ?_)
        | (refine xMk ?_; intro id hid; (try simp only [set_none_iff] at hid); refine mkDo ?_)
        | (refine xChk ?_) | (refine xChkF ?_) | (refine xSkip ?_)
        | (refine xCall rfl rfl (sp26 B p R e _ hr) ?_; rintro r h' ⟨rfl, hx⟩; cases hx; refine nTm ?_)
        | (exact tail55 h0 B g b2 b8 p inn s R e k1 k2 k3 k4 C n1 s1 s2 ok x S L hB' hP hr hs hi)
        | (refine cSeq ?_) | (refine cNorm ?_) | (refine cRet ?_) | (refine cExit ?_) | (refine W_reg rfl ?_) | (refine W_block ?_) | (refine W_ret ?_) | (refine W_skip ?_) | (refine W_exit ?_) | (refine bNorm ?_) | (refine bRet ?_) | (refine bExit ?_) | (refine bExitN rfl ?_)
        | (refine xMask ?_) | (refine xT ?_) | (refine xF ?_) | (refine xRet ?_) | (refine xNorm ?_)
        | (refine wSplit _ rfl (by (first | (simp only [go_sem, *]; (first | done | exact rfl)) | rfl)) ?_ ?_ <;> intro hb <;> (try simp only [beq_false, beq_true, Bool.not_true, Bool.not_false, Bool.not_eq_true', Bool.not_eq_false', decide_eq_false_iff_not, decide_eq_true_eq, bne_iff_ne, beq_iff_eq, Bool.true_eq, Bool.false_eq, Bool.not_not, Bool.and_eq_true, Bool.or_eq_true, Bool.bne_true, Bool.bne_false, bne_eq_false_iff_eq, beq_eq_false_iff_ne, ne_eq] at hb))
        | (refine W_cond _ (by (first | (simp only [go_sem, *]; (first | done | exact rfl)) | rfl)) ?_ ?_ <;> intro hb <;> (try simp only [beq_false, beq_true, Bool.not_true, Bool.not_false, Bool.not_eq_true', Bool.not_eq_false', decide_eq_false_iff_not, decide_eq_true_eq, bne_iff_ne, beq_iff_eq, Bool.true_eq, Bool.false_eq, Bool.not_not, Bool.and_eq_true, Bool.or_eq_true, Bool.bne_true, Bool.bne_false, bne_eq_false_iff_eq, beq_eq_false_iff_ne, ne_eq] at hb)))
end Go.Proofs.YtgekngfnhhdamaaI
set_option linter.unusedVariables false
set_option linter.unusedSimpArgs false
set_option maxRecDepth 100000
set_option maxHeartbeats 4000000
namespace Go.Proofs.YtgekngfnhhdamaaI
open Go Go.Proofs.YtgekngfnhhdamaaM
attribute [local go_sem] aop ev fg_slc fg_slk fg_ptr fg_bool fg_int fg_str fg_iface fg_func fg_agg fg_tup fg_nils fg_nilp fg_nilI fg_nilF fg_und aboundsK alen_nils alen_slc alen_slk aslice_nils aslice_slc aslice_slk awanted abin aun aint aeqn aeqc aeqs apart abounds abnd amaxi amaxiGo cells_agg cells_slc cells_slk cells_ptr cells_bool cells_int cells_str cells_iface cells_func cells_tup cells_nils cells_nilp cells_nilI cells_nilF cells_und sc_slc sc_slk sc_ptr sc_bool sc_int sc_str sc_iface sc_func sc_nils sc_nilp sc_nilI sc_nilF gd_zero gd_succ List.all_cons List.all_nil Bool.and_self Bool.and_true Bool.true_and List.length_cons List.length_nil Option.map_some Option.some.injEq cell_same cell_ne cell_ne' cellsAt_same cellsAt_ne cellsAt_ne' put_same put_of set_same set_ne set_ne' List.getElem?_cons_zero List.getElem?_cons_succ if_true if_false and_self and_true true_and ne_eq not_true_eq_false not_false_eq_true decide_true decide_false Bool.false_eq_true Bool.true_eq_false beq_self_eq_true bne_self_eq_false beq_true beq_false Bool.not_true Bool.not_false List.map_cons List.map_nil putL List.set_cons_zero List.set_cons_succ afill Nat.zero_le Nat.le_refl Nat.zero_add Nat.add_zero List.drop_zero List.drop_succ_cons List.take_zero List.take_succ_cons Bool.not_eq_true Bool.not_eq_false decide_eq_true_eq decide_eq_false_iff_not Int.toNat_zero Nat.sub_zero Int.toNat_natCast Bool.bne_true Bool.bne_false AH.cell AH.cellsAt AH.put Nat.mul_one Nat.one_mul Int.natCast_nonneg List.length_set bs_append bs_size bs_toList bs_extract bs_get List.append_nil Nat.sub_zero bne_self_eq_false beq_self_eq_true azeros Int.le_refl aapp
/-- Parse, the frame's inside being told. -/
def PM (h0 : AH) (k : Nat) (inn s : List UInt8) (v : AV) (h' : AH) : Prop :=
  let q2 := tN inn 0 11
  let q3 := tN q2.1 q2.2.1 11
  let q4 := tN q3.1 q3.2.1 3
  let q5 := gB q4.1 q4.2.1
  let q7 := tN q5.1 q5.2.1 1099511627776
  let q8 := tN q7.1 q7.2.1 1099511627776
  let q9 := tB q8.1 q8.2.1
  let q10 := tS q9.1 q9.2.1 131072
  let q := tN q10.1 q10.2.1 64
  let l := lpG q.2.2 q.1 q.2.1 (-1)
  PQ h0 (k : Int) (q2.2.2 : Int) (q3.2.2 : Int) (q4.2.2 : Int) q5.2.2.1 (q5.2.2.2 : Int) (q7.2.2 : Int) (q8.2.2 : Int) q9.2.2 q10.2.2 l.2.2 (dn l.1 (exE inn s l.2.1)) v h'
theorem tN_le (s : List UInt8) (e most : Int) (hm : 0 ≤ most) : ((tN s e most).2.2 : Int) ≤ most := by
  unfold tN
  split
  · simp; exact hm
  · omega
theorem Rd.poke {B g : AH} {p q : List Nat} {s : List UInt8} {e : Int} {a b : Option Blk} (hr : Rd (B.set q a) p g s e) (hq : q ≠ p) : Rd (B.set q b) p (g.set q b) s e := by
  have := Rd.both (b := b) hr hq
  rwa [set_set] at this
theorem sp55 (k : Nat) (inn s : List UInt8) (h : AH) (hk : k ≤ 13) (hs : s.length ≤ 1000000000) (hi : inn.length ≤ 1000000000) (hO : ∀ g, Sp T 68 [.str (bs s)] g (fun v g' => v = .tup [.int .u8 (k : Int), .str (bs inn), .int .i64 0] ∧ Up g g')) :
    Sp T 55 [.str (bs s)] h (PM h k inn s) := by
  have hu0 := Up.refl h
  have d1 : ¬ (k : Int) > 13 := by omega
  have w0 : IntKind.i64.wrap (k : Int) = (k : Int) := wrap64 (by omega) (by omega)
  unfold PM
  have k2' : ∀ (p : List Nat) (B h : AH), Rd B p h inn 0 → Sp T 21 [.ptr p 0, .int .i64 11] h (fun r h' => r = .int .i64 (tN inn 0 11).2.2 ∧ Rd B p h' (tN inn 0 11).1 (tN inn 0 11).2.1) := fun p B h hr => sp21 B p inn 0 11 h hr (by decide)
  obtain ⟨⟨R2, e2, a2⟩, hq⟩ : ∃ q, tN inn 0 11 = q := ⟨_, rfl⟩
  simp only [hq] at k2' ⊢
  clear hq
  have k3' : ∀ (p : List Nat) (B h : AH), Rd B p h R2 e2 → Sp T 21 [.ptr p 0, .int .i64 11] h (fun r h' => r = .int .i64 (tN R2 e2 11).2.2 ∧ Rd B p h' (tN R2 e2 11).1 (tN R2 e2 11).2.1) := fun p B h hr => sp21 B p R2 e2 11 h hr (by decide)
  obtain ⟨⟨R3, e3, a3⟩, hq⟩ : ∃ q, tN R2 e2 11 = q := ⟨_, rfl⟩
  simp only [hq] at k3' ⊢
  clear hq
  have k4' : ∀ (p : List Nat) (B h : AH), Rd B p h R3 e3 → Sp T 21 [.ptr p 0, .int .i64 3] h (fun r h' => r = .int .i64 (tN R3 e3 3).2.2 ∧ Rd B p h' (tN R3 e3 3).1 (tN R3 e3 3).2.1) := fun p B h hr => sp21 B p R3 e3 3 h hr (by decide)
  obtain ⟨⟨R4, e4, a4⟩, hq⟩ : ∃ q, tN R3 e3 3 = q := ⟨_, rfl⟩
  simp only [hq] at k4' ⊢
  clear hq
  have k5' : ∀ (p : List Nat) (B h : AH), Rd B p h R4 e4 → Sp T 37 [.ptr p 0] h (fun r h' => r = .agg [.int .u64 (gB R4 e4).2.2.1, .int .i64 (gB R4 e4).2.2.2] ∧ Rd B p h' (gB R4 e4).1 (gB R4 e4).2.1) := fun p B h hr => sp37 B p R4 e4 h hr
  obtain ⟨⟨R5, e5, a5, a6⟩, hq⟩ : ∃ q, gB R4 e4 = q := ⟨_, rfl⟩
  simp only [hq] at k5' ⊢
  clear hq
  have k7' : ∀ (p : List Nat) (B h : AH), Rd B p h R5 e5 → Sp T 21 [.ptr p 0, .int .i64 1099511627776] h (fun r h' => r = .int .i64 (tN R5 e5 1099511627776).2.2 ∧ Rd B p h' (tN R5 e5 1099511627776).1 (tN R5 e5 1099511627776).2.1) := fun p B h hr => sp21 B p R5 e5 1099511627776 h hr (by decide)
  obtain ⟨⟨R7, e7, a7⟩, hq⟩ : ∃ q, tN R5 e5 1099511627776 = q := ⟨_, rfl⟩
  simp only [hq] at k7' ⊢
  clear hq
  have k8' : ∀ (p : List Nat) (B h : AH), Rd B p h R7 e7 → Sp T 21 [.ptr p 0, .int .i64 1099511627776] h (fun r h' => r = .int .i64 (tN R7 e7 1099511627776).2.2 ∧ Rd B p h' (tN R7 e7 1099511627776).1 (tN R7 e7 1099511627776).2.1) := fun p B h hr => sp21 B p R7 e7 1099511627776 h hr (by decide)
  obtain ⟨⟨R8, e8, a8⟩, hq⟩ : ∃ q, tN R7 e7 1099511627776 = q := ⟨_, rfl⟩
  simp only [hq] at k8' ⊢
  clear hq
  have k9' : ∀ (p : List Nat) (B h : AH), Rd B p h R8 e8 → Sp T 23 [.ptr p 0] h (fun r h' => r = .bool (tB R8 e8).2.2 ∧ Rd B p h' (tB R8 e8).1 (tB R8 e8).2.1) := fun p B h hr => sp23 B p R8 e8 h hr
  obtain ⟨⟨R9, e9, a9⟩, hq⟩ : ∃ q, tB R8 e8 = q := ⟨_, rfl⟩
  simp only [hq] at k9' ⊢
  clear hq
  have k10' : ∀ (p : List Nat) (B h : AH), Rd B p h R9 e9 → Sp T 25 [.ptr p 0, .int .i64 131072] h (fun r h' => r = .str (bs (tS R9 e9 131072).2.2) ∧ Rd B p h' (tS R9 e9 131072).1 (tS R9 e9 131072).2.1) := fun p B h hr => sp25 B p R9 e9 131072 h hr (by decide)
  obtain ⟨⟨R10, e10, a10⟩, hq⟩ : ∃ q, tS R9 e9 131072 = q := ⟨_, rfl⟩
  simp only [hq] at k10' ⊢
  clear hq
  have hn64 := tN_le R10 e10 64 (by decide)
  have k11' : ∀ (p : List Nat) (B h : AH), Rd B p h R10 e10 → Sp T 21 [.ptr p 0, .int .i64 64] h (fun r h' => r = .int .i64 (tN R10 e10 64).2.2 ∧ Rd B p h' (tN R10 e10 64).1 (tN R10 e10 64).2.1) := fun p B h hr => sp21 B p R10 e10 64 h hr (by decide)
  obtain ⟨⟨R11, e11, n⟩, hq⟩ : ∃ q, tN R10 e10 64 = q := ⟨_, rfl⟩
  simp only [hq] at k11' hn64 ⊢
  clear hq
  refine Sp_of (fn := f55) rfl (show W T b55 [.str (bs s), .tup [], .tup [], .tup [], .tup [], .tup [], .tup [], .tup [], .tup [], .tup [], .tup [], .tup [], .tup [], .tup [], .tup [], .tup [], .tup [], .tup [], .tup [], .tup [], .tup [], .tup [], .tup [], .tup [], .tup [], .tup [], .tup [], .tup [], .tup [], .tup [], .tup [], .tup [], .tup [], .tup [], .tup [], .tup [], .tup [], .tup [], .tup [], .tup [], .tup [], .tup [], .tup [], .tup [], .tup [], .tup [], .tup [], .tup [], .tup [], .tup [], .tup [], .tup [], .tup [], .tup [], .tup [], .tup [], .tup [], .tup [], .tup [], .tup [], .tup [], .tup [], .tup [], .tup [], .tup [], .tup [], .tup [], .tup [], .tup [], .tup [], .tup [], .tup [], .tup [], .tup [], .tup [], .tup [], .tup [], .tup [], .tup [], .tup [], .tup [], .tup [], .tup [], .tup [], .tup [], .tup [], .tup [], .tup [], .tup [], .tup [], .tup [], .tup [], .tup []] _ _ from ?_)
  unfold b55
  repeat' (first
    | (refine wNil ?_) | (refine xPure ?_)
    | (refine xMk ?_; intro id hid; (try simp only [set_none_iff] at hid); have hz := hid; (repeat (replace hz := hz.2)); (try have := nei hb2 hz); (try have := nei gb1 hz); (try have := nei gb2 hz); (try have := nei hp1 hz); (try have := nei hp2 hz); (try have := Up.none hu0 hz); refine mkDo ?_)
    | (refine xChk ?_) | (refine xChkF ?_) | (refine xSkip ?_)
    | (refine xCall rfl rfl (hO _) ?_; rintro v j1 ⟨rfl, hu1⟩; have hb2 := hu1 _ _ set_same; have HU1 : Up h j1 := Up.trans (show Up h _ from (by repeat' (first | assumption | exact Up.refl _ | refine Up.new ?_ ?_))) hu1; obtain ⟨b2, hb0, e2⟩ : ∃ b, h b = none ∧ b = id := ⟨id, by assumption, rfl⟩; subst e2; have hid0' := hid; refine nTm ?_)
    | (refine xCall rfl rfl (sp17 inn _) ?_; rintro r h1 ⟨p, rfl, hr1⟩; have hp1 := hr1.2.2; have gb1 := hr1.1 _ _ hb2; have k2 := k2' p; have k3 := k3' p; have k4 := k4' p; have k5 := k5' p; have k7 := k7' p; have k8 := k8' p; have k9 := k9' p; have k10 := k10' p; have k11 := k11' p; refine nTm ?_)
    | (refine xCall rfl rfl (k2 _ _ hr1) ?_; rintro r h2 ⟨rfl, hr2⟩; have hp2 := hr2.2.2; have gb2 := hr2.1 _ _ hb2; refine nTm ?_)
    | (refine xCall rfl rfl (k3 _ _ (hr2.new2 hid)) ?_; rintro r h3 ⟨rfl, hr3⟩; have n8p := Ne.symm (nei hp2 hid); have n2i := nei gb2 hid; have hj8 := hr2.1.no hid; have hp3 := hr3.2.2; have g83 := hr3.1 _ _ set_same; have gb3 := hr3.1 _ _ ((set_ne n2i).trans hb2); refine nTm ?_)
    | (refine xCall rfl rfl (k4 _ _ (Rd.poke hr3 n8p)) ?_; rintro r h4 ⟨rfl, hr4⟩; have hp4 := hr4.2.2; have g84 := hr4.1 _ _ set_same; have gb4 := hr4.1 _ _ ((set_ne n2i).trans hb2); refine nTm ?_)
    | (refine xCall rfl rfl (k5 _ _ (Rd.poke hr4 n8p)) ?_; rintro r h5 ⟨rfl, hr5⟩; have hp5 := hr5.2.2; have g85 := hr5.1 _ _ set_same; have gb5 := hr5.1 _ _ ((set_ne n2i).trans hb2); refine nTm ?_)
    | (refine xCall rfl rfl (k7 _ _ (Rd.poke hr5 n8p)) ?_; rintro r h7 ⟨rfl, hr7⟩; have hp7 := hr7.2.2; have g87 := hr7.1 _ _ set_same; have gb7 := hr7.1 _ _ ((set_ne n2i).trans hb2); refine nTm ?_)
    | (refine xCall rfl rfl (k8 _ _ (Rd.poke hr7 n8p)) ?_; rintro r h8 ⟨rfl, hr8⟩; have hp8 := hr8.2.2; have g88 := hr8.1 _ _ set_same; have gb8 := hr8.1 _ _ ((set_ne n2i).trans hb2); refine nTm ?_)
    | (refine xCall rfl rfl (k9 _ _ (Rd.poke hr8 n8p)) ?_; rintro r h9 ⟨rfl, hr9⟩; have hp9 := hr9.2.2; have g89 := hr9.1 _ _ set_same; have gb9 := hr9.1 _ _ ((set_ne n2i).trans hb2); refine nTm ?_)
    | (refine xCall rfl rfl (k10 _ _ (Rd.poke hr9 n8p)) ?_; rintro r h10 ⟨rfl, hr10⟩; have hp10 := hr10.2.2; have g810 := hr10.1 _ _ set_same; have gb10 := hr10.1 _ _ ((set_ne n2i).trans hb2); refine nTm ?_)
    | (refine xCall rfl rfl (k11 _ _ (Rd.poke hr10 n8p)) ?_; rintro r h11 ⟨rfl, hr11⟩; have hp11 := hr11.2.2; have g811 := hr11.1 _ _ set_same; have gb11 := hr11.1 _ _ ((set_ne n2i).trans hb2); refine nTm ?_)
    | (exact loop55 h _ _ b2 _ p inn s R11 e11 (k : Int) (a2 : Int) (a3 : Int) (a4 : Int) a5 (a6 : Int) (a7 : Int) (a8 : Int) a9 a10 .nils [] ⟨Sub.set (show Sub h j1 from HU1) (Sub.no (show Sub h j1 from HU1) hj8), hb0, Sub.no (show Sub h j1 from HU1) hj8, n2i, (set_ne n2i).trans hb2, set_same⟩ (.inl ⟨rfl, rfl⟩) hr11 hs hi n (by omega) rfl _ rfl)
    | (refine cSeq ?_) | (refine cNorm ?_) | (refine cRet ?_) | (refine cExit ?_) | (refine W_reg rfl ?_) | (refine W_block ?_) | (refine W_ret ?_) | (refine W_skip ?_) | (refine W_exit ?_) | (refine bNorm ?_) | (refine bRet ?_) | (refine bExit ?_) | (refine bExitN rfl ?_)
    | (refine xMask ?_) | (refine xT ?_) | (refine xF ?_) | (refine xRet ?_) | (refine xNorm ?_)
    | (refine wSplit _ rfl (by (first | (simp only [go_sem, *]; (first | done | exact rfl)) | rfl)) ?_ ?_ <;> intro hb <;> (try simp only [beq_false, beq_true, Bool.not_true, Bool.not_false, Bool.not_eq_true', Bool.not_eq_false', decide_eq_false_iff_not, decide_eq_true_eq, bne_iff_ne, beq_iff_eq, Bool.true_eq, Bool.false_eq, Bool.not_not, Bool.and_eq_true, Bool.or_eq_true, Bool.bne_true, Bool.bne_false, bne_eq_false_iff_eq, beq_eq_false_iff_ne, ne_eq] at hb))
    | (refine W_cond _ (by (first | (simp only [go_sem, *]; (first | done | exact rfl)) | rfl)) ?_ ?_ <;> intro hb <;> (try simp only [beq_false, beq_true, Bool.not_true, Bool.not_false, Bool.not_eq_true', Bool.not_eq_false', decide_eq_false_iff_not, decide_eq_true_eq, bne_iff_ne, beq_iff_eq, Bool.true_eq, Bool.false_eq, Bool.not_not, Bool.and_eq_true, Bool.or_eq_true, Bool.bne_true, Bool.bne_false, bne_eq_false_iff_eq, beq_eq_false_iff_ne, ne_eq] at hb)))
end Go.Proofs.YtgekngfnhhdamaaI
set_option linter.unusedVariables false
set_option linter.unusedSimpArgs false
set_option maxRecDepth 100000
set_option maxHeartbeats 4000000
namespace Go.Proofs.YtgekngfnhhdamaaI
open Go Go.Proofs.YtgekngfnhhdamaaM
attribute [local go_sem] aop ev fg_slc fg_slk fg_ptr fg_bool fg_int fg_str fg_iface fg_func fg_agg fg_tup fg_nils fg_nilp fg_nilI fg_nilF fg_und aboundsK alen_nils alen_slc alen_slk aslice_nils aslice_slc aslice_slk awanted abin aun aint aeqn aeqc aeqs apart abounds abnd amaxi amaxiGo cells_agg cells_slc cells_slk cells_ptr cells_bool cells_int cells_str cells_iface cells_func cells_tup cells_nils cells_nilp cells_nilI cells_nilF cells_und sc_slc sc_slk sc_ptr sc_bool sc_int sc_str sc_iface sc_func sc_nils sc_nilp sc_nilI sc_nilF gd_zero gd_succ List.all_cons List.all_nil Bool.and_self Bool.and_true Bool.true_and List.length_cons List.length_nil Option.map_some Option.some.injEq cell_same cell_ne cell_ne' cellsAt_same cellsAt_ne cellsAt_ne' put_same put_of set_same set_ne set_ne' List.getElem?_cons_zero List.getElem?_cons_succ if_true if_false and_self and_true true_and ne_eq not_true_eq_false not_false_eq_true decide_true decide_false Bool.false_eq_true Bool.true_eq_false beq_self_eq_true bne_self_eq_false beq_true beq_false Bool.not_true Bool.not_false List.map_cons List.map_nil putL List.set_cons_zero List.set_cons_succ afill Nat.zero_le Nat.le_refl Nat.zero_add Nat.add_zero List.drop_zero List.drop_succ_cons List.take_zero List.take_succ_cons Bool.not_eq_true Bool.not_eq_false decide_eq_true_eq decide_eq_false_iff_not Int.toNat_zero Nat.sub_zero Int.toNat_natCast Bool.bne_true Bool.bne_false AH.cell AH.cellsAt AH.put Nat.mul_one Nat.one_mul Int.natCast_nonneg List.length_set bs_append bs_size bs_toList bs_extract bs_get List.cons_append List.nil_append List.append_nil
def xr (x y : Int) : Int := IntKind.u32.wrap ((BitVec.ofInt IntKind.u32.bits x ^^^ BitVec.ofInt IntKind.u32.bits y).toNat : Int)
def an (x y : Int) : Int := IntKind.u32.wrap ((BitVec.ofInt IntKind.u32.bits x &&& BitVec.ofInt IntKind.u32.bits y).toNat : Int)
theorem xr_eq (x y : Int) : absBits .xor .u32 x y = some (xr x y) := rfl
theorem an_eq (x y : Int) : absBits .and .u32 x y = some (an x y) := rfl
theorem xr_rng (x y : Int) : 0 ≤ xr x y ∧ xr x y < 4294967296 := by
  unfold xr
  have h := (BitVec.ofInt IntKind.u32.bits x ^^^ BitVec.ofInt IntKind.u32.bits y).isLt
  have e : (2 : Nat) ^ IntKind.u32.bits = 4294967296 := by decide
  rw [wrapU32 (by omega) (by omega)]
  omega
/-- A byte's rounds. -/
def half (c : Int) : Int := c.fdiv (2 ^ (min (Int.toNat 1) 32))
def rnd (c : Int) : Int := if an c 1 = 1 then xr (half c) 3988292384 else half c
def rnds : Nat → Int → Int
  | 0, c => c
  | n + 1, c => rnds n (rnd c)
theorem rnds_succ : ∀ (k : Nat) (c : Int), rnds (k + 1) c = rnd (rnds k c)
  | 0, c => rfl
  | k + 1, c => by rw [rnds, rnds_succ k, rnds]
def mo (c : Int) (b : UInt8) : Int := rnds 8 (xr c (IntKind.u32.wrap (b.toNat : Int)))
def smF (l : List UInt8) : Int := xr 4294967295 (l.foldl mo 4294967295)
/-- more -/
theorem sp69 (c : Int) (b : UInt8) (h : AH) : Sp T 69 [.int .u32 c, .int .u8 b.toNat] h (fun v h' => v = .int .u32 (mo c b) ∧ h' = h) := by
  have x0 := xr_eq c (IntKind.u32.wrap (b.toNat : Int))
  refine Sp_of (fn := f69) rfl (show W T b69 [.int .u32 c, .int .u8 b.toNat, .tup [], .tup [], .tup [], .tup [], .tup [], .tup [], .tup [], .tup [], .tup [], .tup [], .tup [], .tup [], .tup [], .tup [], .tup [], .tup [], .tup [], .tup [], .tup [], .tup []] _ _ from ?_)
  unfold b69
  repeat' (first
    | (refine wNil ?_) | (refine xPure ?_)
    | (refine xMk ?_; intro id hid; (try simp only [set_none_iff] at hid); refine mkDo ?_)
    | (refine xChk ?_) | (refine xChkF ?_) | (refine xSkip ?_)
    | (refine cSeq ?_) | (refine cNorm ?_) | (refine cRet ?_) | (refine cExit ?_) | (refine W_reg rfl ?_) | (refine W_block ?_) | (refine W_ret ?_) | (refine W_skip ?_) | (refine W_exit ?_) | (refine bNorm ?_) | (refine bRet ?_) | (refine bExit ?_) | (refine bExitN rfl ?_)
    | (refine xMask ?_) | (refine xT ?_) | (refine xF ?_) | (refine xRet ?_) | (refine xNorm ?_)
    | (refine wSplit _ rfl (by (first | (simp only [go_sem, *]; (first | done | exact rfl)) | rfl)) ?_ ?_ <;> intro hb <;> (try simp only [beq_false, beq_true, Bool.not_true, Bool.not_false, Bool.not_eq_true', Bool.not_eq_false', decide_eq_false_iff_not, decide_eq_true_eq, bne_iff_ne, beq_iff_eq, Bool.true_eq, Bool.false_eq, Bool.not_not, Bool.and_eq_true, Bool.or_eq_true, Bool.bne_true, Bool.bne_false, bne_eq_false_iff_eq, beq_eq_false_iff_ne, ne_eq] at hb))
    | (refine W_cond _ (by (first | (simp only [go_sem, *]; (first | done | exact rfl)) | rfl)) ?_ ?_ <;> intro hb <;> (try simp only [beq_false, beq_true, Bool.not_true, Bool.not_false, Bool.not_eq_true', Bool.not_eq_false', decide_eq_false_iff_not, decide_eq_true_eq, bne_iff_ne, beq_iff_eq, Bool.true_eq, Bool.false_eq, Bool.not_not, Bool.and_eq_true, Bool.or_eq_true, Bool.bne_true, Bool.bne_false, bne_eq_false_iff_eq, beq_eq_false_iff_ne, ne_eq] at hb)))
  refine W_loop (fun m tm h' => ∃ k : Nat, k + m = 8 ∧ h' = h ∧ keep [0, 10] 0 tm = [.int .u32 (rnds k (xr c (IntKind.u32.wrap (b.toNat : Int)))), .und, .und, .und, .und, .und, .und, .und, .und, .und, .int .i64 (k : Int), .und, .und, .und, .und, .und, .und, .und, .und, .und, .und, .und]) 8 ⟨0, rfl, rfl, rfl⟩ ?_
  rintro m tm h' ⟨k, hk, rfl, htm⟩
  refine cSeq (cMask (cNorm ?_))
  rw [htm]; clear htm
  by_cases h8 : k < 8
  · have d1 : (k : Int) < 8 := by omega
    have w1 : IntKind.i64.wrap ((k : Int) + 1) = ((k + 1 : Nat) : Int) := by rw [wrap64 (by omega) (by omega)]; rfl
    have e1 := rnds_succ k (xr c (IntKind.u32.wrap (b.toNat : Int)))
    obtain ⟨z, hz⟩ : ∃ z, rnds k (xr c (IntKind.u32.wrap (b.toNat : Int))) = z := ⟨_, rfl⟩
    rw [hz] at e1 ⊢
    clear hz x0
    have x1 := an_eq z 1
    have x2 : z.fdiv (2 ^ (min (Int.toNat 1) 32)) = half z := rfl
    have x4 : ¬ (1 : Int) < 0 := by decide
    by_cases hc : an z 1 = 1
    · have x3 := xr_eq (half z) 3988292384
      have e2 : rnd z = xr (half z) 3988292384 := if_pos hc
      have hc' : (an z 1 == 1) = true := by simpa using hc
      repeat' (first
        | (refine wNil ?_) | (refine xPure ?_)
        | (refine xMk ?_; intro id hid; (try simp only [set_none_iff] at hid); refine mkDo ?_)
        | (refine xChk ?_) | (refine xChkF ?_) | (refine xSkip ?_)
        | (refine cSeq ?_) | (refine cNorm ?_) | (refine cRet ?_) | (refine cExit ?_) | (refine W_reg rfl ?_) | (refine W_block ?_) | (refine W_ret ?_) | (refine W_skip ?_) | (refine W_exit ?_) | (refine bNorm ?_) | (refine bRet ?_) | (refine bExit ?_) | (refine bExitN rfl ?_)
        | (refine xMask ?_) | (refine xT ?_) | (refine xF ?_) | (refine xRet ?_) | (refine xNorm ?_)
        | (refine wSplit _ rfl (by (first | (simp only [go_sem, *]; (first | done | exact rfl)) | rfl)) ?_ ?_ <;> intro hb <;> (try simp only [beq_false, beq_true, Bool.not_true, Bool.not_false, Bool.not_eq_true', Bool.not_eq_false', decide_eq_false_iff_not, decide_eq_true_eq, bne_iff_ne, beq_iff_eq, Bool.true_eq, Bool.false_eq, Bool.not_not, Bool.and_eq_true, Bool.or_eq_true, Bool.bne_true, Bool.bne_false, bne_eq_false_iff_eq, beq_eq_false_iff_ne, ne_eq] at hb))
        | (refine W_cond _ (by (first | (simp only [go_sem, *]; (first | done | exact rfl)) | rfl)) ?_ ?_ <;> intro hb <;> (try simp only [beq_false, beq_true, Bool.not_true, Bool.not_false, Bool.not_eq_true', Bool.not_eq_false', decide_eq_false_iff_not, decide_eq_true_eq, bne_iff_ne, beq_iff_eq, Bool.true_eq, Bool.false_eq, Bool.not_not, Bool.and_eq_true, Bool.or_eq_true, Bool.bne_true, Bool.bne_false, bne_eq_false_iff_eq, beq_eq_false_iff_ne, ne_eq] at hb)))
      all_goals exact ⟨m - 1, by omega, k + 1, by omega, rfl, by rw [e1, e2]; simp only [keep, List.contains_cons, List.contains_nil, Nat.reduceBEq, Bool.or_true, Bool.true_or, Bool.or_false, Bool.false_or, if_true, if_false, Bool.false_eq_true, beq_self_eq_true, Nat.zero_add, Nat.reduceAdd, eq_self]⟩
    · have e2 : rnd z = half z := if_neg hc
      have hc' : (an z 1 == 1) = false := by simpa using hc
      repeat' (first
        | (refine wNil ?_) | (refine xPure ?_)
        | (refine xMk ?_; intro id hid; (try simp only [set_none_iff] at hid); refine mkDo ?_)
        | (refine xChk ?_) | (refine xChkF ?_) | (refine xSkip ?_)
        | (refine cSeq ?_) | (refine cNorm ?_) | (refine cRet ?_) | (refine cExit ?_) | (refine W_reg rfl ?_) | (refine W_block ?_) | (refine W_ret ?_) | (refine W_skip ?_) | (refine W_exit ?_) | (refine bNorm ?_) | (refine bRet ?_) | (refine bExit ?_) | (refine bExitN rfl ?_)
        | (refine xMask ?_) | (refine xT ?_) | (refine xF ?_) | (refine xRet ?_) | (refine xNorm ?_)
        | (refine wSplit _ rfl (by (first | (simp only [go_sem, *]; (first | done | exact rfl)) | rfl)) ?_ ?_ <;> intro hb <;> (try simp only [beq_false, beq_true, Bool.not_true, Bool.not_false, Bool.not_eq_true', Bool.not_eq_false', decide_eq_false_iff_not, decide_eq_true_eq, bne_iff_ne, beq_iff_eq, Bool.true_eq, Bool.false_eq, Bool.not_not, Bool.and_eq_true, Bool.or_eq_true, Bool.bne_true, Bool.bne_false, bne_eq_false_iff_eq, beq_eq_false_iff_ne, ne_eq] at hb))
        | (refine W_cond _ (by (first | (simp only [go_sem, *]; (first | done | exact rfl)) | rfl)) ?_ ?_ <;> intro hb <;> (try simp only [beq_false, beq_true, Bool.not_true, Bool.not_false, Bool.not_eq_true', Bool.not_eq_false', decide_eq_false_iff_not, decide_eq_true_eq, bne_iff_ne, beq_iff_eq, Bool.true_eq, Bool.false_eq, Bool.not_not, Bool.and_eq_true, Bool.or_eq_true, Bool.bne_true, Bool.bne_false, bne_eq_false_iff_eq, beq_eq_false_iff_ne, ne_eq] at hb)))
      all_goals exact ⟨m - 1, by omega, k + 1, by omega, rfl, by rw [e1, e2]; simp only [keep, List.contains_cons, List.contains_nil, Nat.reduceBEq, Bool.or_true, Bool.true_or, Bool.or_false, Bool.false_or, if_true, if_false, Bool.false_eq_true, beq_self_eq_true, Nat.zero_add, Nat.reduceAdd, eq_self]⟩
  · have d1 : ¬ (k : Int) < 8 := by omega
    obtain rfl : k = 8 := by omega
    repeat' (first
      | (refine wNil ?_) | (refine xPure ?_)
      | (refine xMk ?_; intro id hid; (try simp only [set_none_iff] at hid); refine mkDo ?_)
      | (refine xChk ?_) | (refine xChkF ?_) | (refine xSkip ?_)
      | (refine cSeq ?_) | (refine cNorm ?_) | (refine cRet ?_) | (refine cExit ?_) | (refine W_reg rfl ?_) | (refine W_block ?_) | (refine W_ret ?_) | (refine W_skip ?_) | (refine W_exit ?_) | (refine bNorm ?_) | (refine bRet ?_) | (refine bExit ?_) | (refine bExitN rfl ?_)
      | (refine xMask ?_) | (refine xT ?_) | (refine xF ?_) | (refine xRet ?_) | (refine xNorm ?_)
      | (refine wSplit _ rfl (by (first | (simp only [go_sem, *]; (first | done | exact rfl)) | rfl)) ?_ ?_ <;> intro hb <;> (try simp only [beq_false, beq_true, Bool.not_true, Bool.not_false, Bool.not_eq_true', Bool.not_eq_false', decide_eq_false_iff_not, decide_eq_true_eq, bne_iff_ne, beq_iff_eq, Bool.true_eq, Bool.false_eq, Bool.not_not, Bool.and_eq_true, Bool.or_eq_true, Bool.bne_true, Bool.bne_false, bne_eq_false_iff_eq, beq_eq_false_iff_ne, ne_eq] at hb))
      | (refine W_cond _ (by (first | (simp only [go_sem, *]; (first | done | exact rfl)) | rfl)) ?_ ?_ <;> intro hb <;> (try simp only [beq_false, beq_true, Bool.not_true, Bool.not_false, Bool.not_eq_true', Bool.not_eq_false', decide_eq_false_iff_not, decide_eq_true_eq, bne_iff_ne, beq_iff_eq, Bool.true_eq, Bool.false_eq, Bool.not_not, Bool.and_eq_true, Bool.or_eq_true, Bool.bne_true, Bool.bne_false, bne_eq_false_iff_eq, beq_eq_false_iff_ne, ne_eq] at hb)))
    all_goals exact ⟨rfl, rfl⟩
end Go.Proofs.YtgekngfnhhdamaaI
set_option linter.unusedVariables false
set_option linter.unusedSimpArgs false
set_option maxRecDepth 100000
set_option maxHeartbeats 4000000
namespace Go.Proofs.YtgekngfnhhdamaaI
open Go Go.Proofs.YtgekngfnhhdamaaM
attribute [local go_sem] aop ev fg_slc fg_slk fg_ptr fg_bool fg_int fg_str fg_iface fg_func fg_agg fg_tup fg_nils fg_nilp fg_nilI fg_nilF fg_und aboundsK alen_nils alen_slc alen_slk aslice_nils aslice_slc aslice_slk awanted abin aun aint aeqn aeqc aeqs apart abounds abnd amaxi amaxiGo cells_agg cells_slc cells_slk cells_ptr cells_bool cells_int cells_str cells_iface cells_func cells_tup cells_nils cells_nilp cells_nilI cells_nilF cells_und sc_slc sc_slk sc_ptr sc_bool sc_int sc_str sc_iface sc_func sc_nils sc_nilp sc_nilI sc_nilF gd_zero gd_succ List.all_cons List.all_nil Bool.and_self Bool.and_true Bool.true_and List.length_cons List.length_nil Option.map_some Option.some.injEq cell_same cell_ne cell_ne' cellsAt_same cellsAt_ne cellsAt_ne' put_same put_of set_same set_ne set_ne' List.getElem?_cons_zero List.getElem?_cons_succ if_true if_false and_self and_true true_and ne_eq not_true_eq_false not_false_eq_true decide_true decide_false Bool.false_eq_true Bool.true_eq_false beq_self_eq_true bne_self_eq_false beq_true beq_false Bool.not_true Bool.not_false List.map_cons List.map_nil putL List.set_cons_zero List.set_cons_succ afill Nat.zero_le Nat.le_refl Nat.zero_add Nat.add_zero List.drop_zero List.drop_succ_cons List.take_zero List.take_succ_cons Bool.not_eq_true Bool.not_eq_false decide_eq_true_eq decide_eq_false_iff_not Int.toNat_zero Nat.sub_zero Int.toNat_natCast Bool.bne_true Bool.bne_false AH.cell AH.cellsAt AH.put Nat.mul_one Nat.one_mul Int.natCast_nonneg List.length_set bs_append bs_size bs_toList bs_extract bs_get List.cons_append List.nil_append List.append_nil
/-- Sum of one text -/
theorem sp44 (q : List Nat) (ob : Bool) (l : List UInt8) (h : AH) (hq : h q = some ⟨ob, [.str (bs l)]⟩) (hl : l.length ≤ 1099511627776) : Sp T 44 [.slc q 0 1 1] h (fun v h' => v = .int .u32 (smF l) ∧ h' = h) := by
  refine Sp_of (fn := f44) rfl (show W T b44 [.slc q 0 1 1, .tup [], .tup [], .tup [], .tup [], .tup [], .tup [], .tup [], .tup [], .tup [], .tup [], .tup [], .tup [], .tup [], .tup [], .tup [], .tup [], .tup [], .tup [], .tup [], .tup [], .tup [], .tup [], .tup [], .tup [], .tup [], .tup []] _ _ from ?_)
  unfold b44
  repeat' (first
    | (refine wNil ?_) | (refine xPure ?_)
    | (refine xMk ?_; intro id hid; (try simp only [set_none_iff] at hid); refine mkDo ?_)
    | (refine xChk ?_) | (refine xChkF ?_) | (refine xSkip ?_)
    | (refine cSeq ?_) | (refine cNorm ?_) | (refine cRet ?_) | (refine cExit ?_) | (refine W_reg rfl ?_) | (refine W_block ?_) | (refine W_ret ?_) | (refine W_skip ?_) | (refine W_exit ?_) | (refine bNorm ?_) | (refine bRet ?_) | (refine bExit ?_) | (refine bExitN rfl ?_)
    | (refine xMask ?_) | (refine xT ?_) | (refine xF ?_) | (refine xRet ?_) | (refine xNorm ?_)
    | (refine wSplit _ rfl (by (first | (simp only [go_sem, *]; (first | done | exact rfl)) | rfl)) ?_ ?_ <;> intro hb <;> (try simp only [beq_false, beq_true, Bool.not_true, Bool.not_false, Bool.not_eq_true', Bool.not_eq_false', decide_eq_false_iff_not, decide_eq_true_eq, bne_iff_ne, beq_iff_eq, Bool.true_eq, Bool.false_eq, Bool.not_not, Bool.and_eq_true, Bool.or_eq_true, Bool.bne_true, Bool.bne_false, bne_eq_false_iff_eq, beq_eq_false_iff_ne, ne_eq] at hb))
    | (refine W_cond _ (by (first | (simp only [go_sem, *]; (first | done | exact rfl)) | rfl)) ?_ ?_ <;> intro hb <;> (try simp only [beq_false, beq_true, Bool.not_true, Bool.not_false, Bool.not_eq_true', Bool.not_eq_false', decide_eq_false_iff_not, decide_eq_true_eq, bne_iff_ne, beq_iff_eq, Bool.true_eq, Bool.false_eq, Bool.not_not, Bool.and_eq_true, Bool.or_eq_true, Bool.bne_true, Bool.bne_false, bne_eq_false_iff_eq, beq_eq_false_iff_ne, ne_eq] at hb)))
  refine W_loop (fun m tm h' => h' = h ∧ ((m = 1 ∧ keep [3, 7, 8, 9] 0 tm = [.und, .und, .und, .int .u32 4294967295, .und, .und, .und, .slc q 0 1 1, .int .i64 1, .int .i64 0, .und, .und, .und, .und, .und, .und, .und, .und, .und, .und, .und, .und, .und, .und, .und, .und, .und]) ∨ (m = 0 ∧ keep [3, 7, 8, 9] 0 tm = [.und, .und, .und, .int .u32 (l.foldl mo 4294967295), .und, .und, .und, .slc q 0 1 1, .int .i64 1, .int .i64 1, .und, .und, .und, .und, .und, .und, .und, .und, .und, .und, .und, .und, .und, .und, .und, .und, .und]))) 1 ⟨rfl, .inl ⟨rfl, rfl⟩⟩ ?_
  rintro m tm h' ⟨rfl, hI⟩
  refine cSeq (cMask (cNorm ?_))
  have w0 : IntKind.i64.wrap (0 + 1) = 1 := by decide
  rcases hI with ⟨rfl, htm⟩ | ⟨rfl, htm⟩
  all_goals rw [htm]; clear htm
  · repeat' (first
      | (refine wNil ?_) | (refine xPure ?_)
      | (refine xMk ?_; intro id hid; (try simp only [set_none_iff] at hid); refine mkDo ?_)
      | (refine xChk ?_) | (refine xChkF ?_) | (refine xSkip ?_)
      | (refine cSeq ?_) | (refine cNorm ?_) | (refine cRet ?_) | (refine cExit ?_) | (refine W_reg rfl ?_) | (refine W_block ?_) | (refine W_ret ?_) | (refine W_skip ?_) | (refine W_exit ?_) | (refine bNorm ?_) | (refine bRet ?_) | (refine bExit ?_) | (refine bExitN rfl ?_)
      | (refine xMask ?_) | (refine xT ?_) | (refine xF ?_) | (refine xRet ?_) | (refine xNorm ?_)
      | (refine wSplit _ rfl (by (first | (simp only [go_sem, *]; (first | done | exact rfl)) | rfl)) ?_ ?_ <;> intro hb <;> (try simp only [beq_false, beq_true, Bool.not_true, Bool.not_false, Bool.not_eq_true', Bool.not_eq_false', decide_eq_false_iff_not, decide_eq_true_eq, bne_iff_ne, beq_iff_eq, Bool.true_eq, Bool.false_eq, Bool.not_not, Bool.and_eq_true, Bool.or_eq_true, Bool.bne_true, Bool.bne_false, bne_eq_false_iff_eq, beq_eq_false_iff_ne, ne_eq] at hb))
      | (refine W_cond _ (by (first | (simp only [go_sem, *]; (first | done | exact rfl)) | rfl)) ?_ ?_ <;> intro hb <;> (try simp only [beq_false, beq_true, Bool.not_true, Bool.not_false, Bool.not_eq_true', Bool.not_eq_false', decide_eq_false_iff_not, decide_eq_true_eq, bne_iff_ne, beq_iff_eq, Bool.true_eq, Bool.false_eq, Bool.not_not, Bool.and_eq_true, Bool.or_eq_true, Bool.bne_true, Bool.bne_false, bne_eq_false_iff_eq, beq_eq_false_iff_ne, ne_eq] at hb)))
    refine W_loop (fun m tm h'' => ∃ k : Nat, k + m = l.length ∧ h'' = h' ∧ keep [3, 5, 7, 8, 9, 14, 15] 0 tm = [.und, .und, .und, .int .u32 ((l.take k).foldl mo 4294967295), .und, .str (bs l), .und, .slc q 0 1 1, .int .i64 1, .int .i64 0, .und, .und, .und, .und, .int .i64 (l.length : Int), .int .i64 (k : Int), .und, .und, .und, .und, .und, .und, .und, .und, .und, .und, .und]) l.length ⟨0, by omega, rfl, rfl⟩ ?_
    rintro m tm h'' ⟨k, hk, rfl, htm⟩
    refine cSeq (cMask (cNorm ?_))
    rw [htm]; clear htm
    by_cases hkl : k < l.length
    · have d1 : (k : Int) < (l.length : Int) := by omega
      have w1 : IntKind.i64.wrap ((k : Int) + 1) = ((k + 1 : Nat) : Int) := by rw [wrap64 (by omega) (by omega)]; rfl
      obtain ⟨b, hb⟩ : ∃ b, l[k]? = some b := ⟨_, List.getElem?_eq_getElem hkl⟩
      have e1 : (l.take (k + 1)).foldl mo 4294967295 = mo ((l.take k).foldl mo 4294967295) b := by
        rw [List.take_add_one, hb, List.foldl_append]; rfl
      obtain ⟨z, hz⟩ : ∃ z, (l.take k).foldl mo 4294967295 = z := ⟨_, rfl⟩
      rw [hz] at e1 ⊢
      clear hz
      repeat' (first
        | (refine wNil ?_) | (refine xPure ?_)
        | (refine xMk ?_; intro id hid; (try simp only [set_none_iff] at hid); refine mkDo ?_)
        | (refine xChk ?_) | (refine xChkF ?_) | (refine xSkip ?_)
        | (refine xCall rfl rfl (sp69 z b _) ?_; rintro v h3 ⟨rfl, hx⟩; cases hx; refine nTm ?_)
        | (refine cSeq ?_) | (refine cNorm ?_) | (refine cRet ?_) | (refine cExit ?_) | (refine W_reg rfl ?_) | (refine W_block ?_) | (refine W_ret ?_) | (refine W_skip ?_) | (refine W_exit ?_) | (refine bNorm ?_) | (refine bRet ?_) | (refine bExit ?_) | (refine bExitN rfl ?_)
        | (refine xMask ?_) | (refine xT ?_) | (refine xF ?_) | (refine xRet ?_) | (refine xNorm ?_)
        | (refine wSplit _ rfl (by (first | (simp only [go_sem, *]; (first | done | exact rfl)) | rfl)) ?_ ?_ <;> intro hb <;> (try simp only [beq_false, beq_true, Bool.not_true, Bool.not_false, Bool.not_eq_true', Bool.not_eq_false', decide_eq_false_iff_not, decide_eq_true_eq, bne_iff_ne, beq_iff_eq, Bool.true_eq, Bool.false_eq, Bool.not_not, Bool.and_eq_true, Bool.or_eq_true, Bool.bne_true, Bool.bne_false, bne_eq_false_iff_eq, beq_eq_false_iff_ne, ne_eq] at hb))
        | (refine W_cond _ (by (first | (simp only [go_sem, *]; (first | done | exact rfl)) | rfl)) ?_ ?_ <;> intro hb <;> (try simp only [beq_false, beq_true, Bool.not_true, Bool.not_false, Bool.not_eq_true', Bool.not_eq_false', decide_eq_false_iff_not, decide_eq_true_eq, bne_iff_ne, beq_iff_eq, Bool.true_eq, Bool.false_eq, Bool.not_not, Bool.and_eq_true, Bool.or_eq_true, Bool.bne_true, Bool.bne_false, bne_eq_false_iff_eq, beq_eq_false_iff_ne, ne_eq] at hb)))
      all_goals exact ⟨m - 1, by omega, k + 1, by omega, rfl, by rw [e1]; simp only [keep, List.contains_cons, List.contains_nil, Nat.reduceBEq, Bool.or_true, Bool.true_or, Bool.or_false, Bool.false_or, if_true, if_false, Bool.false_eq_true, beq_self_eq_true, Nat.zero_add, Nat.reduceAdd, eq_self]⟩
    · have d1 : ¬ (k : Int) < (l.length : Int) := by omega
      rw [List.take_of_length_le (by omega)]
      repeat' (first
        | (refine wNil ?_) | (refine xPure ?_)
        | (refine xMk ?_; intro id hid; (try simp only [set_none_iff] at hid); refine mkDo ?_)
        | (refine xChk ?_) | (refine xChkF ?_) | (refine xSkip ?_)
        | (refine cSeq ?_) | (refine cNorm ?_) | (refine cRet ?_) | (refine cExit ?_) | (refine W_reg rfl ?_) | (refine W_block ?_) | (refine W_ret ?_) | (refine W_skip ?_) | (refine W_exit ?_) | (refine bNorm ?_) | (refine bRet ?_) | (refine bExit ?_) | (refine bExitN rfl ?_)
        | (refine xMask ?_) | (refine xT ?_) | (refine xF ?_) | (refine xRet ?_) | (refine xNorm ?_)
        | (refine wSplit _ rfl (by (first | (simp only [go_sem, *]; (first | done | exact rfl)) | rfl)) ?_ ?_ <;> intro hb <;> (try simp only [beq_false, beq_true, Bool.not_true, Bool.not_false, Bool.not_eq_true', Bool.not_eq_false', decide_eq_false_iff_not, decide_eq_true_eq, bne_iff_ne, beq_iff_eq, Bool.true_eq, Bool.false_eq, Bool.not_not, Bool.and_eq_true, Bool.or_eq_true, Bool.bne_true, Bool.bne_false, bne_eq_false_iff_eq, beq_eq_false_iff_ne, ne_eq] at hb))
        | (refine W_cond _ (by (first | (simp only [go_sem, *]; (first | done | exact rfl)) | rfl)) ?_ ?_ <;> intro hb <;> (try simp only [beq_false, beq_true, Bool.not_true, Bool.not_false, Bool.not_eq_true', Bool.not_eq_false', decide_eq_false_iff_not, decide_eq_true_eq, bne_iff_ne, beq_iff_eq, Bool.true_eq, Bool.false_eq, Bool.not_not, Bool.and_eq_true, Bool.or_eq_true, Bool.bne_true, Bool.bne_false, bne_eq_false_iff_eq, beq_eq_false_iff_ne, ne_eq] at hb)))
      all_goals exact ⟨0, by omega, rfl, .inr ⟨rfl, by simp only [keep, List.contains_cons, List.contains_nil, Nat.reduceBEq, Bool.or_true, Bool.true_or, Bool.or_false, Bool.false_or, if_true, if_false, Bool.false_eq_true, beq_self_eq_true, Nat.zero_add, Nat.reduceAdd, eq_self]⟩⟩
  · have x1 := xr_eq 4294967295 (l.foldl mo 4294967295)
    repeat' (first
      | (refine wNil ?_)
      | (refine wPure rfl (by (first | (simp only [go_sem, IntKind.signed, IntKind.max, *]; (first | done | exact rfl)) | rfl)) rfl (by (first | (simp only [go_sem, IntKind.signed, IntKind.max, *]; (first | done | exact rfl)) | rfl)) ?_; dsimp only [putT, ev, Int.toNat_zero, Nat.sub_zero, Int.toNat_natCast,  gd_zero, gd_succ, Nat.zero_add, Nat.add_zero, Nat.reduceAdd, Nat.reduceMul, List.set_cons_zero, List.set_cons_succ, keep, List.contains_cons, List.contains_nil])
      | (refine wMk rfl (by (first | (simp only [go_sem, IntKind.signed, IntKind.max, *]; (first | done | exact rfl)) | rfl)) rfl ?_; intro id hid; (try simp only [set_none_iff] at hid); refine ⟨_, (by (first | (simp only [go_sem, IntKind.signed, IntKind.max, *]; (first | done | exact rfl)) | rfl)), ?_⟩; dsimp only [putT, ev, Int.toNat_zero, Nat.sub_zero, Int.toNat_natCast,  gd_zero, gd_succ, Nat.zero_add, Nat.add_zero, Nat.reduceAdd, Nat.reduceMul, List.set_cons_zero, List.set_cons_succ, keep, List.contains_cons, List.contains_nil])
      | (refine wChk rfl (by (first | (simp only [go_sem, IntKind.signed, IntKind.max, *]; (first | done | exact rfl)) | rfl)) rfl (by (first | (simp only [go_sem, IntKind.signed, IntKind.max, *]; (first | done | exact rfl)) | rfl)) rfl ?_) | (refine wChkF rfl (by (first | (simp only [go_sem, IntKind.signed, IntKind.max, *]; (first | done | exact rfl)) | rfl)) rfl ?_)
      | (refine wSkip rfl (by (first | (simp only [go_sem, IntKind.signed, IntKind.max, *]; (first | done | exact rfl)) | rfl)) ?_; dsimp only [putT, ev, Int.toNat_zero, Nat.sub_zero, Int.toNat_natCast,  gd_zero, gd_succ, Nat.zero_add, Nat.add_zero, Nat.reduceAdd, Nat.reduceMul, List.set_cons_zero, List.set_cons_succ, keep, List.contains_cons, List.contains_nil])
      | (refine cSeq ?_) | (refine cNorm ?_) | (refine cRet ?_) | (refine cExit ?_) | (refine W_reg rfl ?_) | (refine W_block ?_) | (refine W_ret ?_) | (refine W_skip ?_) | (refine W_exit ?_) | (refine bNorm ?_) | (refine bRet ?_) | (refine bExit ?_) | (refine bExitN rfl ?_)
      | (refine cMask' (by simp only [keep, List.contains_cons, List.contains_nil, Nat.reduceBEq, Bool.or_true, Bool.true_or, Bool.or_false, Bool.false_or, if_true, if_false, Bool.false_eq_true, beq_self_eq_true, Nat.zero_add, Nat.reduceAdd, eq_self]; exact rfl) ?_)
      | (refine cT (by (first | (simp only [go_sem, IntKind.signed, IntKind.max, *]; (first | done | exact rfl)) | rfl)) ?_) | (refine cF (by (first | (simp only [go_sem, IntKind.signed, IntKind.max, *]; (first | done | exact rfl)) | rfl)) ?_)
      | (refine rRet (by (first | (simp only [go_sem, IntKind.signed, IntKind.max, *]; (first | done | exact rfl)) | rfl)) ?_) | (refine rNorm (by (first | (simp only [go_sem, IntKind.signed, IntKind.max, *]; (first | done | exact rfl)) | rfl)) ?_)
      | (refine wSplit _ rfl (by (first | (simp only [go_sem, IntKind.signed, IntKind.max, *]; (first | done | exact rfl)) | rfl)) ?_ ?_ <;> intro hb <;> (try simp only [beq_false, beq_true, Bool.not_true, Bool.not_false, Bool.not_eq_true', Bool.not_eq_false', decide_eq_false_iff_not, decide_eq_true_eq, bne_iff_ne, beq_iff_eq, Bool.true_eq, Bool.false_eq, Bool.not_not, Bool.and_eq_true, Bool.or_eq_true, Bool.bne_true, Bool.bne_false, bne_eq_false_iff_eq, beq_eq_false_iff_ne, ne_eq] at hb))
      | (refine W_cond _ (by (first | (simp only [go_sem, IntKind.signed, IntKind.max, *]; (first | done | exact rfl)) | rfl)) ?_ ?_ <;> intro hb <;> (try simp only [beq_false, beq_true, Bool.not_true, Bool.not_false, Bool.not_eq_true', Bool.not_eq_false', decide_eq_false_iff_not, decide_eq_true_eq, bne_iff_ne, beq_iff_eq, Bool.true_eq, Bool.false_eq, Bool.not_not, Bool.and_eq_true, Bool.or_eq_true, Bool.bne_true, Bool.bne_false, bne_eq_false_iff_eq, beq_eq_false_iff_ne, ne_eq] at hb)))
    all_goals exact ⟨by show AV.int .u32 (IntKind.u32.wrap ((BitVec.ofInt 32 (2 ^ 32 - 1) ^^^ BitVec.ofInt 32 (l.foldl mo 4294967295)).toNat : Int)) = _; rw [show ((2 : Int) ^ 32 - 1) = 4294967295 by decide]; rfl, rfl⟩
end Go.Proofs.YtgekngfnhhdamaaI
set_option linter.unusedVariables false
set_option linter.unusedSimpArgs false
set_option maxRecDepth 100000
set_option maxHeartbeats 4000000
namespace Go.Proofs.YtgekngfnhhdamaaI
open Go Go.Proofs.YtgekngfnhhdamaaM
attribute [local go_sem] aop ev fg_slc fg_slk fg_ptr fg_bool fg_int fg_str fg_iface fg_func fg_agg fg_tup fg_nils fg_nilp fg_nilI fg_nilF fg_und aboundsK alen_nils alen_slc alen_slk aslice_nils aslice_slc aslice_slk awanted abin aun aint aeqn aeqc aeqs apart abounds abnd amaxi amaxiGo cells_agg cells_slc cells_slk cells_ptr cells_bool cells_int cells_str cells_iface cells_func cells_tup cells_nils cells_nilp cells_nilI cells_nilF cells_und sc_slc sc_slk sc_ptr sc_bool sc_int sc_str sc_iface sc_func sc_nils sc_nilp sc_nilI sc_nilF gd_zero gd_succ List.all_cons List.all_nil Bool.and_self Bool.and_true Bool.true_and List.length_cons List.length_nil Option.map_some Option.some.injEq cell_same cell_ne cell_ne' cellsAt_same cellsAt_ne cellsAt_ne' put_same put_of set_same set_ne set_ne' List.getElem?_cons_zero List.getElem?_cons_succ if_true if_false and_self and_true true_and ne_eq not_true_eq_false not_false_eq_true decide_true decide_false Bool.false_eq_true Bool.true_eq_false beq_self_eq_true bne_self_eq_false beq_true beq_false Bool.not_true Bool.not_false List.map_cons List.map_nil putL List.set_cons_zero List.set_cons_succ afill Nat.zero_le Nat.le_refl Nat.zero_add Nat.add_zero List.drop_zero List.drop_succ_cons List.take_zero List.take_succ_cons Bool.not_eq_true Bool.not_eq_false decide_eq_true_eq decide_eq_false_iff_not Int.toNat_zero Nat.sub_zero Int.toNat_natCast Bool.bne_true Bool.bne_false AH.cell AH.cellsAt AH.put Nat.mul_one Nat.one_mul Int.natCast_nonneg List.length_set bs_append bs_size bs_toList bs_extract bs_get List.cons_append List.nil_append List.append_nil
theorem fdiv_pow' (v s i : Nat) (hs : s = 8 * i) (hi : i ≤ 3) : ((v : Int)).fdiv (2 ^ min s 32) = ((v / 256 ^ i : Nat) : Int) := by
  have e : min s 32 = 8 * i := by omega
  rw [e, Int.fdiv_eq_ediv_of_nonneg _ (by exact Int.pow_nonneg (by decide)), Int.pow_mul]
  norm_cast
theorem u8w (w : Nat) : IntKind.u8.wrap (w : Int) = ((UInt8.ofNat w).toNat : Int) := by
  rw [wrapU8]; simp
theorem zer8 : ∀ n, azeros [.int .u8 0] n = List.replicate n (AV.int .u8 0)
  | 0 => rfl
  | n + 1 => by simp [azeros, zer8 n, List.replicate_succ]
theorem set_rep (v j k : Nat) : (List.replicate (j + 1) (AV.int .u8 0) ++ bc (be v k)).set j (.int .u8 ((UInt8.ofNat (v / 256 ^ k)).toNat : Int)) = List.replicate j (AV.int .u8 0) ++ bc (be v (k + 1)) := by
  rw [List.replicate_succ', List.append_assoc, List.set_append_right _ _ (by simp)]
  simp [be, bc]
/-- digits -/
theorem sp67 (v n : Nat) (h : AH) (hn : n ≤ 4) : Sp T 67 [.int .u32 v, .int .i64 n] h (fun r h' => r = .str (bs (be v n)) ∧ Up h h') := by
  have d1 : (0 : Int) ≤ (n : Int) := by omega
  have d2 : (n : Int) ≤ IntKind.i64.max := by have : IntKind.i64.max = 9223372036854775807 := by decide
                                              omega
  have d3 : n ≤ 2 * roomMost := by unfold roomMost; omega
  refine Sp_of (fn := f67) rfl (show W T b67 [.int .u32 v, .int .i64 n, .tup [], .tup [], .tup [], .tup [], .tup [], .tup [], .tup [], .tup [], .tup [], .tup [], .tup [], .tup [], .tup [], .tup [], .tup [], .tup [], .tup [], .tup [], .tup [], .tup [], .tup [], .tup [], .tup [], .tup [], .tup [], .tup []] _ _ from ?_)
  unfold b67
  repeat' (first
    | (refine wNil ?_)
    | (refine wPure rfl (by (first | (simp only [go_sem, Int.le_refl, *]; (first | done | exact rfl)) | rfl)) rfl (by (first | (simp only [go_sem, Int.le_refl, *]; (first | done | exact rfl)) | rfl)) ?_; dsimp only [putT, ev, Int.toNat_zero, Nat.sub_zero, Int.toNat_natCast,  gd_zero, gd_succ, Nat.zero_add, Nat.add_zero, Nat.reduceAdd, Nat.reduceMul, List.set_cons_zero, List.set_cons_succ, keep, List.contains_cons, List.contains_nil])
    | (refine wMk rfl (by (first | (simp only [go_sem, Int.le_refl, *]; (first | done | exact rfl)) | rfl)) rfl ?_; intro id hid; (try simp only [set_none_iff] at hid); refine ⟨_, (by (first | (simp only [go_sem, Int.le_refl, *]; (first | done | exact rfl)) | rfl)), ?_⟩; dsimp only [putT, ev, Int.toNat_zero, Nat.sub_zero, Int.toNat_natCast,  gd_zero, gd_succ, Nat.zero_add, Nat.add_zero, Nat.reduceAdd, Nat.reduceMul, List.set_cons_zero, List.set_cons_succ, keep, List.contains_cons, List.contains_nil])
    | (refine wChk rfl (by (first | (simp only [go_sem, Int.le_refl, *]; (first | done | exact rfl)) | rfl)) rfl (by (first | (simp only [go_sem, Int.le_refl, *]; (first | done | exact rfl)) | rfl)) rfl ?_) | (refine wChkF rfl (by (first | (simp only [go_sem, Int.le_refl, *]; (first | done | exact rfl)) | rfl)) rfl ?_)
    | (refine wSkip rfl (by (first | (simp only [go_sem, Int.le_refl, *]; (first | done | exact rfl)) | rfl)) ?_; dsimp only [putT, ev, Int.toNat_zero, Nat.sub_zero, Int.toNat_natCast,  gd_zero, gd_succ, Nat.zero_add, Nat.add_zero, Nat.reduceAdd, Nat.reduceMul, List.set_cons_zero, List.set_cons_succ, keep, List.contains_cons, List.contains_nil])
    | (refine cSeq ?_) | (refine cNorm ?_) | (refine cRet ?_) | (refine cExit ?_) | (refine W_reg rfl ?_) | (refine W_block ?_) | (refine W_ret ?_) | (refine W_skip ?_) | (refine W_exit ?_) | (refine bNorm ?_) | (refine bRet ?_) | (refine bExit ?_) | (refine bExitN rfl ?_)
    | (refine cMask' (by simp only [keep, List.contains_cons, List.contains_nil, Nat.reduceBEq, Bool.or_true, Bool.true_or, Bool.or_false, Bool.false_or, if_true, if_false, Bool.false_eq_true, beq_self_eq_true, Nat.zero_add, Nat.reduceAdd, eq_self]; exact rfl) ?_)
    | (refine cT (by (first | (simp only [go_sem, Int.le_refl, *]; (first | done | exact rfl)) | rfl)) ?_) | (refine cF (by (first | (simp only [go_sem, Int.le_refl, *]; (first | done | exact rfl)) | rfl)) ?_)
    | (refine rRet (by (first | (simp only [go_sem, Int.le_refl, *]; (first | done | exact rfl)) | rfl)) ?_) | (refine rNorm (by (first | (simp only [go_sem, Int.le_refl, *]; (first | done | exact rfl)) | rfl)) ?_)
    | (refine wSplit _ rfl (by (first | (simp only [go_sem, Int.le_refl, *]; (first | done | exact rfl)) | rfl)) ?_ ?_ <;> intro hb <;> (try simp only [beq_false, beq_true, Bool.not_true, Bool.not_false, Bool.not_eq_true', Bool.not_eq_false', decide_eq_false_iff_not, decide_eq_true_eq, bne_iff_ne, beq_iff_eq, Bool.true_eq, Bool.false_eq, Bool.not_not, Bool.and_eq_true, Bool.or_eq_true, Bool.bne_true, Bool.bne_false, bne_eq_false_iff_eq, beq_eq_false_iff_ne, ne_eq] at hb))
    | (refine W_cond _ (by (first | (simp only [go_sem, Int.le_refl, *]; (first | done | exact rfl)) | rfl)) ?_ ?_ <;> intro hb <;> (try simp only [beq_false, beq_true, Bool.not_true, Bool.not_false, Bool.not_eq_true', Bool.not_eq_false', decide_eq_false_iff_not, decide_eq_true_eq, bne_iff_ne, beq_iff_eq, Bool.true_eq, Bool.false_eq, Bool.not_not, Bool.and_eq_true, Bool.or_eq_true, Bool.bne_true, Bool.bne_false, bne_eq_false_iff_eq, beq_eq_false_iff_ne, ne_eq] at hb)))
  obtain ⟨i0, rfl⟩ : ∃ x, x = id := ⟨_, rfl⟩
  refine W_loop (fun m tm h' => ∃ k : Nat, k + m = n ∧ h' = h.set i0 (some ⟨true, List.replicate (n - k) (.int .u8 0) ++ bc (be v k)⟩) ∧ keep [0, 1, 5, 10, 11] 0 tm = [.int .u32 (v : Int), .int .i64 (n : Int), .und, .und, .und, .slc i0 0 n 1, .und, .und, .und, .und, .int .i64 (n : Int), .int .i64 (k : Int), .und, .und, .und, .und, .und, .und, .und, .und, .und, .und, .und, .und, .und, .und, .und, .und]) n ⟨0, by omega, by rw [zer8]; simp [be, bc], rfl⟩ ?_
  rintro m tm h' ⟨k, hk, rfl, htm⟩
  refine cSeq (cMask (cNorm ?_))
  rw [htm]; clear htm
  by_cases hkn : k < n
  · have c1 : (k : Int) < (n : Int) := by omega
    have w1 : IntKind.i64.wrap ((k : Int) + 1) = ((k + 1 : Nat) : Int) := by rw [wrap64 (by omega) (by omega)]; rfl
    obtain ⟨j, hj⟩ : ∃ j, n - k = j + 1 := ⟨n - k - 1, by omega⟩
    have w2 : IntKind.i64.wrap (((n : Nat) : Int) - 1) = (n : Int) - 1 := wrap64 (by omega) (by omega)
    have w3 : IntKind.i64.wrap ((n : Int) - 1 - (k : Int)) = (j : Int) := by rw [wrap64 (by omega) (by omega)]; omega
    obtain ⟨s, hs⟩ : ∃ s : Nat, s = 8 * k := ⟨_, rfl⟩
    have w4 : IntKind.i64.wrap (8 * (k : Int)) = (s : Int) := by rw [wrap64 (by omega) (by omega)]; omega
    have w5 : ¬ (s : Int) < 0 := by omega
    have w6 := fdiv_pow' v s k hs (by omega)
    have w7 := u8w (v / 256 ^ k)
    have w8 : (0 : Int) ≤ (j : Int) := by omega
    have w9 : (j : Int) < (n : Int) := by omega
    have w10 : j + 1 ≤ (List.replicate (j + 1) (AV.int .u8 0) ++ bc (be v k)).length := by simp
    have w11 := set_rep v j k
    rw [hj]
    have hj' : n - (k + 1) = j := by omega
    obtain ⟨cs, hcs⟩ : ∃ cs, List.replicate (j + 1) (AV.int .u8 0) ++ bc (be v k) = cs := ⟨_, rfl⟩
    rw [hcs] at w10 w11 ⊢
    clear hs hj hcs
    repeat' (first
      | (refine wNil ?_) | (refine xPure ?_)
      | (refine xMk ?_; intro id hid; (try simp only [set_none_iff] at hid); refine mkDo ?_)
      | (refine xChk ?_) | (refine xChkF ?_) | (refine xSkip ?_)
      | (refine cSeq ?_) | (refine cNorm ?_) | (refine cRet ?_) | (refine cExit ?_) | (refine W_reg rfl ?_) | (refine W_block ?_) | (refine W_ret ?_) | (refine W_skip ?_) | (refine W_exit ?_) | (refine bNorm ?_) | (refine bRet ?_) | (refine bExit ?_) | (refine bExitN rfl ?_)
      | (refine xMask ?_) | (refine xT ?_) | (refine xF ?_) | (refine xRet ?_) | (refine xNorm ?_)
      | (refine wSplit _ rfl (by (first | (simp only [go_sem, *]; (first | done | exact rfl)) | rfl)) ?_ ?_ <;> intro hb <;> (try simp only [beq_false, beq_true, Bool.not_true, Bool.not_false, Bool.not_eq_true', Bool.not_eq_false', decide_eq_false_iff_not, decide_eq_true_eq, bne_iff_ne, beq_iff_eq, Bool.true_eq, Bool.false_eq, Bool.not_not, Bool.and_eq_true, Bool.or_eq_true, Bool.bne_true, Bool.bne_false, bne_eq_false_iff_eq, beq_eq_false_iff_ne, ne_eq] at hb))
      | (refine W_cond _ (by (first | (simp only [go_sem, *]; (first | done | exact rfl)) | rfl)) ?_ ?_ <;> intro hb <;> (try simp only [beq_false, beq_true, Bool.not_true, Bool.not_false, Bool.not_eq_true', Bool.not_eq_false', decide_eq_false_iff_not, decide_eq_true_eq, bne_iff_ne, beq_iff_eq, Bool.true_eq, Bool.false_eq, Bool.not_not, Bool.and_eq_true, Bool.or_eq_true, Bool.bne_true, Bool.bne_false, bne_eq_false_iff_eq, beq_eq_false_iff_ne, ne_eq] at hb)))
    all_goals exact ⟨m - 1, by omega, k + 1, by omega, by rw [set_set, hj']; try (first | rw [w11] | rfl), by simp only [keep, List.contains_cons, List.contains_nil, Nat.reduceBEq, Bool.or_true, Bool.true_or, Bool.or_false, Bool.false_or, if_true, if_false, Bool.false_eq_true, beq_self_eq_true, Nat.zero_add, Nat.reduceAdd, eq_self]⟩
  · have c1 : ¬ (k : Int) < (n : Int) := by omega
    obtain rfl : k = n := by omega
    have e1 : k - k = 0 := by omega
    rw [e1, List.replicate_zero, List.nil_append]
    have e2 : (bc (be v k)).take k = bc (be v k) := List.take_of_length_le (by rw [bc_length, be_length]; omega)
    have e3 := abytes_bc (be v k)
    have e4 : (bc (be v k)).length = k := by rw [bc_length, be_length]
    repeat' (first
      | (refine wNil ?_)
      | (refine wPure rfl (by (first | (simp only [go_sem, Int.le_refl, *]; (first | done | exact rfl)) | rfl)) rfl (by (first | (simp only [go_sem, Int.le_refl, *]; (first | done | exact rfl)) | rfl)) ?_; dsimp only [putT, ev, Int.toNat_zero, Nat.sub_zero, Int.toNat_natCast,  gd_zero, gd_succ, Nat.zero_add, Nat.add_zero, Nat.reduceAdd, Nat.reduceMul, List.set_cons_zero, List.set_cons_succ, keep, List.contains_cons, List.contains_nil])
      | (refine wMk rfl (by (first | (simp only [go_sem, Int.le_refl, *]; (first | done | exact rfl)) | rfl)) rfl ?_; intro id hid; (try simp only [set_none_iff] at hid); refine ⟨_, (by (first | (simp only [go_sem, Int.le_refl, *]; (first | done | exact rfl)) | rfl)), ?_⟩; dsimp only [putT, ev, Int.toNat_zero, Nat.sub_zero, Int.toNat_natCast,  gd_zero, gd_succ, Nat.zero_add, Nat.add_zero, Nat.reduceAdd, Nat.reduceMul, List.set_cons_zero, List.set_cons_succ, keep, List.contains_cons, List.contains_nil])
      | (refine wChk rfl (by (first | (simp only [go_sem, Int.le_refl, *]; (first | done | exact rfl)) | rfl)) rfl (by (first | (simp only [go_sem, Int.le_refl, *]; (first | done | exact rfl)) | rfl)) rfl ?_) | (refine wChkF rfl (by (first | (simp only [go_sem, Int.le_refl, *]; (first | done | exact rfl)) | rfl)) rfl ?_)
      | (refine wSkip rfl (by (first | (simp only [go_sem, Int.le_refl, *]; (first | done | exact rfl)) | rfl)) ?_; dsimp only [putT, ev, Int.toNat_zero, Nat.sub_zero, Int.toNat_natCast,  gd_zero, gd_succ, Nat.zero_add, Nat.add_zero, Nat.reduceAdd, Nat.reduceMul, List.set_cons_zero, List.set_cons_succ, keep, List.contains_cons, List.contains_nil])
      | (refine cSeq ?_) | (refine cNorm ?_) | (refine cRet ?_) | (refine cExit ?_) | (refine W_reg rfl ?_) | (refine W_block ?_) | (refine W_ret ?_) | (refine W_skip ?_) | (refine W_exit ?_) | (refine bNorm ?_) | (refine bRet ?_) | (refine bExit ?_) | (refine bExitN rfl ?_)
      | (refine cMask' (by simp only [keep, List.contains_cons, List.contains_nil, Nat.reduceBEq, Bool.or_true, Bool.true_or, Bool.or_false, Bool.false_or, if_true, if_false, Bool.false_eq_true, beq_self_eq_true, Nat.zero_add, Nat.reduceAdd, eq_self]; exact rfl) ?_)
      | (refine cT (by (first | (simp only [go_sem, Int.le_refl, *]; (first | done | exact rfl)) | rfl)) ?_) | (refine cF (by (first | (simp only [go_sem, Int.le_refl, *]; (first | done | exact rfl)) | rfl)) ?_)
      | (refine rRet (by (first | (simp only [go_sem, Int.le_refl, *]; (first | done | exact rfl)) | rfl)) ?_) | (refine rNorm (by (first | (simp only [go_sem, Int.le_refl, *]; (first | done | exact rfl)) | rfl)) ?_)
      | (refine wSplit _ rfl (by (first | (simp only [go_sem, Int.le_refl, *]; (first | done | exact rfl)) | rfl)) ?_ ?_ <;> intro hb <;> (try simp only [beq_false, beq_true, Bool.not_true, Bool.not_false, Bool.not_eq_true', Bool.not_eq_false', decide_eq_false_iff_not, decide_eq_true_eq, bne_iff_ne, beq_iff_eq, Bool.true_eq, Bool.false_eq, Bool.not_not, Bool.and_eq_true, Bool.or_eq_true, Bool.bne_true, Bool.bne_false, bne_eq_false_iff_eq, beq_eq_false_iff_ne, ne_eq] at hb))
      | (refine W_cond _ (by (first | (simp only [go_sem, Int.le_refl, *]; (first | done | exact rfl)) | rfl)) ?_ ?_ <;> intro hb <;> (try simp only [beq_false, beq_true, Bool.not_true, Bool.not_false, Bool.not_eq_true', Bool.not_eq_false', decide_eq_false_iff_not, decide_eq_true_eq, bne_iff_ne, beq_iff_eq, Bool.true_eq, Bool.false_eq, Bool.not_not, Bool.and_eq_true, Bool.or_eq_true, Bool.bne_true, Bool.bne_false, bne_eq_false_iff_eq, beq_eq_false_iff_ne, ne_eq] at hb)))
    all_goals exact ⟨rfl, Up.new (Up.refl h) (by assumption)⟩
end Go.Proofs.YtgekngfnhhdamaaI
set_option linter.unusedVariables false
set_option linter.unusedSimpArgs false
set_option maxRecDepth 100000
set_option maxHeartbeats 4000000
namespace Go.Proofs.YtgekngfnhhdamaaI
open Go Go.Proofs.YtgekngfnhhdamaaM
attribute [local go_sem] aop ev fg_slc fg_slk fg_ptr fg_bool fg_int fg_str fg_iface fg_func fg_agg fg_tup fg_nils fg_nilp fg_nilI fg_nilF fg_und aboundsK alen_nils alen_slc alen_slk aslice_nils aslice_slc aslice_slk awanted abin aun aint aeqn aeqc aeqs apart abounds abnd amaxi amaxiGo cells_agg cells_slc cells_slk cells_ptr cells_bool cells_int cells_str cells_iface cells_func cells_tup cells_nils cells_nilp cells_nilI cells_nilF cells_und sc_slc sc_slk sc_ptr sc_bool sc_int sc_str sc_iface sc_func sc_nils sc_nilp sc_nilI sc_nilF gd_zero gd_succ List.all_cons List.all_nil Bool.and_self Bool.and_true Bool.true_and List.length_cons List.length_nil Option.map_some Option.some.injEq cell_same cell_ne cell_ne' cellsAt_same cellsAt_ne cellsAt_ne' put_same put_of set_same set_ne set_ne' List.getElem?_cons_zero List.getElem?_cons_succ if_true if_false and_self and_true true_and ne_eq not_true_eq_false not_false_eq_true decide_true decide_false Bool.false_eq_true Bool.true_eq_false beq_self_eq_true bne_self_eq_false beq_true beq_false Bool.not_true Bool.not_false List.map_cons List.map_nil putL List.set_cons_zero List.set_cons_succ afill Nat.zero_le Nat.le_refl Nat.zero_add Nat.add_zero List.drop_zero List.drop_succ_cons List.take_zero List.take_succ_cons Bool.not_eq_true Bool.not_eq_false decide_eq_true_eq decide_eq_false_iff_not Int.toNat_zero Nat.sub_zero Int.toNat_natCast Bool.bne_true Bool.bne_false AH.cell AH.cellsAt AH.put Nat.mul_one Nat.one_mul Int.natCast_nonneg List.length_set bs_append bs_size bs_toList bs_extract bs_get List.cons_append List.nil_append List.append_nil be_length Nat.sub_zero
theorem or_u32 (v b : Nat) (hv : v < 16777216) (hb : b < 256) : absBits .or .u32 ((v * 256 : Nat) : Int) (b : Int) = some ((v * 256 + b : Nat) : Int) := by
  show some (IntKind.u32.wrap ((BitVec.ofInt 32 ((v * 256 : Nat) : Int) ||| BitVec.ofInt 32 (b : Int)).toNat : Int)) = _
  have e1 : (BitVec.ofInt 32 ((v * 256 : Nat) : Int)).toNat = v * 256 := by rw [BitVec.ofInt_natCast, BitVec.toNat_ofNat]; omega
  have e2 : (BitVec.ofInt 32 (b : Int)).toNat = b := by rw [BitVec.ofInt_natCast, BitVec.toNat_ofNat]; omega
  rw [BitVec.toNat_or, e1, e2]
  have e3 : v * 256 ||| b = v * 256 + b := by
    have := Nat.shiftLeft_add_eq_or_of_lt (i := 8) (b := b) (by omega) v
    rw [Nat.shiftLeft_eq] at this; exact this.symm
  rw [e3, wrapU32 (by omega) (by omega)]
/-- number -/
theorem sp81 (l : List UInt8) (h : AH) (hl : l.length ≤ 4) : Sp T 81 [.str (bs l)] h (fun v h' => v = .int .u32 (val l : Int) ∧ h' = h) := by
  refine Sp_of (fn := f81) rfl (show W T b81 [.str (bs l), .tup [], .tup [], .tup [], .tup [], .tup [], .tup [], .tup [], .tup [], .tup [], .tup [], .tup [], .tup [], .tup [], .tup [], .tup [], .tup [], .tup [], .tup []] _ _ from ?_)
  unfold b81
  repeat' (first
    | (refine wNil ?_) | (refine xPure ?_)
    | (refine xMk ?_; intro id hid; (try simp only [set_none_iff] at hid); refine mkDo ?_)
    | (refine xChk ?_) | (refine xChkF ?_) | (refine xSkip ?_)
    | (refine cSeq ?_) | (refine cNorm ?_) | (refine cRet ?_) | (refine cExit ?_) | (refine W_reg rfl ?_) | (refine W_block ?_) | (refine W_ret ?_) | (refine W_skip ?_) | (refine W_exit ?_) | (refine bNorm ?_) | (refine bRet ?_) | (refine bExit ?_) | (refine bExitN rfl ?_)
    | (refine xMask ?_) | (refine xT ?_) | (refine xF ?_) | (refine xRet ?_) | (refine xNorm ?_)
    | (refine wSplit _ rfl (by (first | (simp only [go_sem, *]; (first | done | exact rfl)) | rfl)) ?_ ?_ <;> intro hb <;> (try simp only [beq_false, beq_true, Bool.not_true, Bool.not_false, Bool.not_eq_true', Bool.not_eq_false', decide_eq_false_iff_not, decide_eq_true_eq, bne_iff_ne, beq_iff_eq, Bool.true_eq, Bool.false_eq, Bool.not_not, Bool.and_eq_true, Bool.or_eq_true, Bool.bne_true, Bool.bne_false, bne_eq_false_iff_eq, beq_eq_false_iff_ne, ne_eq] at hb))
    | (refine W_cond _ (by (first | (simp only [go_sem, *]; (first | done | exact rfl)) | rfl)) ?_ ?_ <;> intro hb <;> (try simp only [beq_false, beq_true, Bool.not_true, Bool.not_false, Bool.not_eq_true', Bool.not_eq_false', decide_eq_false_iff_not, decide_eq_true_eq, bne_iff_ne, beq_iff_eq, Bool.true_eq, Bool.false_eq, Bool.not_not, Bool.and_eq_true, Bool.or_eq_true, Bool.bne_true, Bool.bne_false, bne_eq_false_iff_eq, beq_eq_false_iff_ne, ne_eq] at hb)))
  refine W_loop (fun m tm h' => ∃ k : Nat, k + m = l.length ∧ h' = h ∧ keep [0, 3, 6, 7] 0 tm = [.str (bs l), .und, .und, .int .u32 (val (l.take k) : Int), .und, .und, .int .i64 (l.length : Int), .int .i64 (k : Int), .und, .und, .und, .und, .und, .und, .und, .und, .und, .und, .und]) l.length ⟨0, by omega, rfl, rfl⟩ ?_
  rintro m tm h' ⟨k, hk, rfl, htm⟩
  refine cSeq (cMask (cNorm ?_))
  rw [htm]; clear htm
  by_cases hkl : k < l.length
  · have d1 : (k : Int) < (l.length : Int) := by omega
    have w1 : IntKind.i64.wrap ((k : Int) + 1) = ((k + 1 : Nat) : Int) := by rw [wrap64 (by omega) (by omega)]; rfl
    obtain ⟨b, hb⟩ : ∃ b, l[k]? = some b := ⟨_, List.getElem?_eq_getElem hkl⟩
    have v1 := val_lt k (l.take k) (by rw [List.length_take]; omega)
    have v2 : 256 ^ k ≤ 256 ^ 3 := Nat.pow_le_pow_right (by decide) (by omega)
    have v3 := val_take hb
    have v4 := b.toNat_lt
    obtain ⟨v, hv⟩ : ∃ v, val (l.take k) = v := ⟨_, rfl⟩
    rw [hv] at v1 v3 ⊢
    have v5 : v < 16777216 := by have : (256 : Nat) ^ 3 = 16777216 := by decide
                                 omega
    have c0 : (v : Int) * 2 ^ (min (Int.toNat 8) 32) = ((v * 256 : Nat) : Int) := by
      have : min (Int.toNat 8) 32 = 8 := by decide
      rw [this]; omega
    have c1 : IntKind.u32.wrap ((v * 256 : Nat) : Int) = ((v * 256 : Nat) : Int) := wrapU32 (by omega) (by omega)
    have c3 : IntKind.u32.wrap (b.toNat : Int) = (b.toNat : Int) := wrapU32 (by omega) (by omega)
    have c2 := or_u32 v b.toNat v5 v4
    have c4 : ¬ (8 : Int) < 0 := by decide
    clear v1 v2 hv
    repeat' (first
      | (refine wNil ?_) | (refine xPure ?_)
      | (refine xMk ?_; intro id hid; (try simp only [set_none_iff] at hid); refine mkDo ?_)
      | (refine xChk ?_) | (refine xChkF ?_) | (refine xSkip ?_)
      | (refine cSeq ?_) | (refine cNorm ?_) | (refine cRet ?_) | (refine cExit ?_) | (refine W_reg rfl ?_) | (refine W_block ?_) | (refine W_ret ?_) | (refine W_skip ?_) | (refine W_exit ?_) | (refine bNorm ?_) | (refine bRet ?_) | (refine bExit ?_) | (refine bExitN rfl ?_)
      | (refine xMask ?_) | (refine xT ?_) | (refine xF ?_) | (refine xRet ?_) | (refine xNorm ?_)
      | (refine wSplit _ rfl (by (first | (simp only [go_sem, *]; (first | done | exact rfl)) | rfl)) ?_ ?_ <;> intro hb <;> (try simp only [beq_false, beq_true, Bool.not_true, Bool.not_false, Bool.not_eq_true', Bool.not_eq_false', decide_eq_false_iff_not, decide_eq_true_eq, bne_iff_ne, beq_iff_eq, Bool.true_eq, Bool.false_eq, Bool.not_not, Bool.and_eq_true, Bool.or_eq_true, Bool.bne_true, Bool.bne_false, bne_eq_false_iff_eq, beq_eq_false_iff_ne, ne_eq] at hb))
      | (refine W_cond _ (by (first | (simp only [go_sem, *]; (first | done | exact rfl)) | rfl)) ?_ ?_ <;> intro hb <;> (try simp only [beq_false, beq_true, Bool.not_true, Bool.not_false, Bool.not_eq_true', Bool.not_eq_false', decide_eq_false_iff_not, decide_eq_true_eq, bne_iff_ne, beq_iff_eq, Bool.true_eq, Bool.false_eq, Bool.not_not, Bool.and_eq_true, Bool.or_eq_true, Bool.bne_true, Bool.bne_false, bne_eq_false_iff_eq, beq_eq_false_iff_ne, ne_eq] at hb)))
    all_goals exact ⟨m - 1, by omega, k + 1, by omega, rfl, by rw [v3]; simp only [keep, List.contains_cons, List.contains_nil, Nat.reduceBEq, Bool.or_true, Bool.true_or, Bool.or_false, Bool.false_or, if_true, if_false, Bool.false_eq_true, beq_self_eq_true, Nat.zero_add, Nat.reduceAdd, eq_self]⟩
  · have d1 : ¬ (k : Int) < (l.length : Int) := by omega
    rw [List.take_of_length_le (by omega)]
    repeat' (first
      | (refine wNil ?_) | (refine xPure ?_)
      | (refine xMk ?_; intro id hid; (try simp only [set_none_iff] at hid); refine mkDo ?_)
      | (refine xChk ?_) | (refine xChkF ?_) | (refine xSkip ?_)
      | (refine cSeq ?_) | (refine cNorm ?_) | (refine cRet ?_) | (refine cExit ?_) | (refine W_reg rfl ?_) | (refine W_block ?_) | (refine W_ret ?_) | (refine W_skip ?_) | (refine W_exit ?_) | (refine bNorm ?_) | (refine bRet ?_) | (refine bExit ?_) | (refine bExitN rfl ?_)
      | (refine xMask ?_) | (refine xT ?_) | (refine xF ?_) | (refine xRet ?_) | (refine xNorm ?_)
      | (refine wSplit _ rfl (by (first | (simp only [go_sem, *]; (first | done | exact rfl)) | rfl)) ?_ ?_ <;> intro hb <;> (try simp only [beq_false, beq_true, Bool.not_true, Bool.not_false, Bool.not_eq_true', Bool.not_eq_false', decide_eq_false_iff_not, decide_eq_true_eq, bne_iff_ne, beq_iff_eq, Bool.true_eq, Bool.false_eq, Bool.not_not, Bool.and_eq_true, Bool.or_eq_true, Bool.bne_true, Bool.bne_false, bne_eq_false_iff_eq, beq_eq_false_iff_ne, ne_eq] at hb))
      | (refine W_cond _ (by (first | (simp only [go_sem, *]; (first | done | exact rfl)) | rfl)) ?_ ?_ <;> intro hb <;> (try simp only [beq_false, beq_true, Bool.not_true, Bool.not_false, Bool.not_eq_true', Bool.not_eq_false', decide_eq_false_iff_not, decide_eq_true_eq, bne_iff_ne, beq_iff_eq, Bool.true_eq, Bool.false_eq, Bool.not_not, Bool.and_eq_true, Bool.or_eq_true, Bool.bne_true, Bool.bne_false, bne_eq_false_iff_eq, beq_eq_false_iff_ne, ne_eq] at hb)))
    all_goals exact ⟨rfl, rfl⟩
/-- A frame, but for its sum; a frame. -/
def fb (k : Nat) (l : List UInt8) : List UInt8 := UInt8.ofNat k :: (be l.length 3 ++ l)
def fr (k : Nat) (l : List UInt8) : List UInt8 := fb k l ++ be (smF (fb k l)).toNat 4
theorem fb_len (k : Nat) (l : List UInt8) : (fb k l).length = l.length + 4 := by simp [fb, be_length]; omega
theorem fr_len (k : Nat) (l : List UInt8) : (fr k l).length = l.length + 8 := by simp [fr, fb_len, be_length]
theorem sm_nat (l : List UInt8) : ((smF l).toNat : Int) = smF l := by have := xr_rng 4294967295 (l.foldl mo 4294967295); unfold smF; omega
/-- Frame -/
theorem sp39 (k : Nat) (l : List UInt8) (h : AH) (hk : 1 ≤ k ∧ k ≤ 255) (hl : l.length ≤ 1048576) : Sp T 39 [.int .u8 k, .str (bs l)] h (fun r h' => r = .str (bs (fr k l)) ∧ Up h h') := by
  have hu0 := Up.refl h
  have a1 : ¬ (1048576 : Int) < (l.length : Int) := by omega
  have a2 : (0 : Int) ≤ (l.length : Int) := by omega
  have a3 : l.take l.length = l := List.take_of_length_le (Nat.le_refl _)
  have a4 : ¬ (1 : Int) > (k : Int) := by omega
  have a5 : (UInt8.ofNat k).toNat = k := by simp; omega
  have a6 : abytes [.int .u8 (k : Int)] = some [UInt8.ofNat k] := by
    show (abytes []).map (UInt8.ofNat ((k : Int)).toNat :: ·) = _
    simp [abytes]
  have a7 : IntKind.u32.wrap (l.length : Int) = (l.length : Int) := wrapU32 (by omega) (by omega)
  have a8 : ¬ IntKind.i64.max < (((1 : Nat) + 3 : Nat) : Int) := by decide
  have a9 : ¬ IntKind.i64.max < (((fb k l).length + 4 : Nat) : Int) := by
    have e : IntKind.i64.max = 9223372036854775807 := by decide
    rw [e, fb_len]; omega
  have a10 : ¬ IntKind.i64.max < ((3 + 1 + l.length : Nat) : Int) := by
    have e : IntKind.i64.max = 9223372036854775807 := by decide
    rw [e]; omega
  have e1 : [UInt8.ofNat k] ++ be l.length 3 ++ l = fb k l := by simp [fb]
  have e2 := sm_nat (fb k l)
  have e4 : UInt8.ofNat k :: (be l.length 3 ++ l) = fb k l := rfl
  have a11 : ¬ IntKind.i64.max < ((l.length + 4 + 4 : Nat) : Int) := by rw [← fb_len k l]; exact a9
  have a12 : fb k l ++ be (smF (fb k l)).toNat 4 = fr k l := rfl
  have e3 := fb_len k l
  refine Sp_of (fn := f39) rfl (show W T b39 [.int .u8 k, .str (bs l), .tup [], .tup [], .tup [], .tup [], .tup [], .tup [], .tup [], .tup [], .tup [], .tup [], .tup [], .tup [], .tup [], .tup [], .tup [], .tup [], .tup [], .tup [], .tup [], .tup [], .tup [], .tup [], .tup [], .tup [], .tup [], .tup []] _ _ from ?_)
  unfold b39
  repeat' (first
    | (refine wNil ?_)
    | (refine wPure rfl (by (first | (simp only [go_sem, Int.le_refl, gt_iff_lt, *]; (first | done | exact rfl)) | rfl)) rfl (by (first | (simp only [go_sem, Int.le_refl, gt_iff_lt, *]; (first | done | exact rfl)) | rfl)) ?_; dsimp only [putT, ev, Int.toNat_zero, Nat.sub_zero, Int.toNat_natCast,  gd_zero, gd_succ, Nat.zero_add, Nat.add_zero, Nat.reduceAdd, Nat.reduceMul, List.set_cons_zero, List.set_cons_succ, keep, List.contains_cons, List.contains_nil])
    | (refine wMk rfl (by (first | (simp only [go_sem, Int.le_refl, gt_iff_lt, *]; (first | done | exact rfl)) | rfl)) rfl ?_; intro id hid; (try simp only [set_none_iff] at hid); have hz := hid; (repeat (replace hz := hz.2)); (try have := Up.none hu0 hz); refine ⟨_, (by (first | (simp only [go_sem, Int.le_refl, gt_iff_lt, *]; (first | done | exact rfl)) | rfl)), ?_⟩; dsimp only [putT, ev, Int.toNat_zero, Nat.sub_zero, Int.toNat_natCast,  gd_zero, gd_succ, Nat.zero_add, Nat.add_zero, Nat.reduceAdd, Nat.reduceMul, List.set_cons_zero, List.set_cons_succ, keep, List.contains_cons, List.contains_nil])
    | (refine wChk rfl (by (first | (simp only [go_sem, Int.le_refl, gt_iff_lt, *]; (first | done | exact rfl)) | rfl)) rfl (by (first | (simp only [go_sem, Int.le_refl, gt_iff_lt, *]; (first | done | exact rfl)) | rfl)) rfl ?_) | (refine wChkF rfl (by (first | (simp only [go_sem, Int.le_refl, gt_iff_lt, *]; (first | done | exact rfl)) | rfl)) rfl ?_)
    | (refine wSkip rfl (by (first | (simp only [go_sem, Int.le_refl, gt_iff_lt, *]; (first | done | exact rfl)) | rfl)) ?_; dsimp only [putT, ev, Int.toNat_zero, Nat.sub_zero, Int.toNat_natCast,  gd_zero, gd_succ, Nat.zero_add, Nat.add_zero, Nat.reduceAdd, Nat.reduceMul, List.set_cons_zero, List.set_cons_succ, keep, List.contains_cons, List.contains_nil])
    | (refine xCall rfl rfl (sp67 l.length 3 _ (by decide)) ?_; rintro v h2 ⟨rfl, hu2⟩; refine nTm ?_)
    | (refine xCall rfl rfl (sp44 id true (fb k l) _ set_same (by omega)) ?_; rintro v h3 ⟨rfl, hx⟩; cases hx; rw [← e2]; refine nTm ?_)
    | (refine xCall rfl rfl (sp67 (smF (fb k l)).toNat 4 _ (by decide)) ?_; rintro v h4 ⟨rfl, hu4⟩; refine nTm ?_)
    | (refine cSeq ?_) | (refine cNorm ?_) | (refine cRet ?_) | (refine cExit ?_) | (refine W_reg rfl ?_) | (refine W_block ?_) | (refine W_ret ?_) | (refine W_skip ?_) | (refine W_exit ?_) | (refine bNorm ?_) | (refine bRet ?_) | (refine bExit ?_) | (refine bExitN rfl ?_)
    | (refine cMask' (by simp only [keep, List.contains_cons, List.contains_nil, Nat.reduceBEq, Bool.or_true, Bool.true_or, Bool.or_false, Bool.false_or, if_true, if_false, Bool.false_eq_true, beq_self_eq_true, Nat.zero_add, Nat.reduceAdd, eq_self]; exact rfl) ?_)
    | (refine cT (by (first | (simp only [go_sem, Int.le_refl, gt_iff_lt, *]; (first | done | exact rfl)) | rfl)) ?_) | (refine cF (by (first | (simp only [go_sem, Int.le_refl, gt_iff_lt, *]; (first | done | exact rfl)) | rfl)) ?_)
    | (refine rRet (by (first | (simp only [go_sem, Int.le_refl, gt_iff_lt, *]; (first | done | exact rfl)) | rfl)) ?_) | (refine rNorm (by (first | (simp only [go_sem, Int.le_refl, gt_iff_lt, *]; (first | done | exact rfl)) | rfl)) ?_)
    | (refine wSplit _ rfl (by (first | (simp only [go_sem, Int.le_refl, gt_iff_lt, *]; (first | done | exact rfl)) | rfl)) ?_ ?_ <;> intro hb <;> (try simp only [beq_false, beq_true, Bool.not_true, Bool.not_false, Bool.not_eq_true', Bool.not_eq_false', decide_eq_false_iff_not, decide_eq_true_eq, bne_iff_ne, beq_iff_eq, Bool.true_eq, Bool.false_eq, Bool.not_not, Bool.and_eq_true, Bool.or_eq_true, Bool.bne_true, Bool.bne_false, bne_eq_false_iff_eq, beq_eq_false_iff_ne, ne_eq] at hb))
    | (refine W_cond _ (by (first | (simp only [go_sem, Int.le_refl, gt_iff_lt, *]; (first | done | exact rfl)) | rfl)) ?_ ?_ <;> intro hb <;> (try simp only [beq_false, beq_true, Bool.not_true, Bool.not_false, Bool.not_eq_true', Bool.not_eq_false', decide_eq_false_iff_not, decide_eq_true_eq, bne_iff_ne, beq_iff_eq, Bool.true_eq, Bool.false_eq, Bool.not_not, Bool.and_eq_true, Bool.or_eq_true, Bool.bne_true, Bool.bne_false, bne_eq_false_iff_eq, beq_eq_false_iff_ne, ne_eq] at hb)))
  rename_i ia ha za
  exact ⟨rfl, fun x b e => hu4 x b (by have e2 := hu2 x b e; rw [set_ne (nei e2 hz), set_ne (nei e2 za)]; exact e2)⟩
end Go.Proofs.YtgekngfnhhdamaaI
set_option linter.unusedVariables false
set_option linter.unusedSimpArgs false
set_option maxRecDepth 100000
set_option maxHeartbeats 4000000
namespace Go.Proofs.YtgekngfnhhdamaaI
open Go Go.Proofs.YtgekngfnhhdamaaM
attribute [local go_sem] aop ev fg_slc fg_slk fg_ptr fg_bool fg_int fg_str fg_iface fg_func fg_agg fg_tup fg_nils fg_nilp fg_nilI fg_nilF fg_und aboundsK alen_nils alen_slc alen_slk aslice_nils aslice_slc aslice_slk awanted abin aun aint aeqn aeqc aeqs apart abounds abnd amaxi amaxiGo cells_agg cells_slc cells_slk cells_ptr cells_bool cells_int cells_str cells_iface cells_func cells_tup cells_nils cells_nilp cells_nilI cells_nilF cells_und sc_slc sc_slk sc_ptr sc_bool sc_int sc_str sc_iface sc_func sc_nils sc_nilp sc_nilI sc_nilF gd_zero gd_succ List.all_cons List.all_nil Bool.and_self Bool.and_true Bool.true_and List.length_cons List.length_nil Option.map_some Option.some.injEq cell_same cell_ne cell_ne' cellsAt_same cellsAt_ne cellsAt_ne' put_same put_of set_same set_ne set_ne' List.getElem?_cons_zero List.getElem?_cons_succ if_true if_false and_self and_true true_and ne_eq not_true_eq_false not_false_eq_true decide_true decide_false Bool.false_eq_true Bool.true_eq_false beq_self_eq_true bne_self_eq_false beq_true beq_false Bool.not_true Bool.not_false List.map_cons List.map_nil putL List.set_cons_zero List.set_cons_succ afill Nat.zero_le Nat.le_refl Nat.zero_add Nat.add_zero List.drop_zero List.drop_succ_cons List.take_zero List.take_succ_cons Bool.not_eq_true Bool.not_eq_false decide_eq_true_eq decide_eq_false_iff_not Int.toNat_zero Nat.sub_zero Int.toNat_natCast Bool.bne_true Bool.bne_false AH.cell AH.cellsAt AH.put Nat.mul_one Nat.one_mul Int.natCast_nonneg List.length_set bs_append bs_size bs_toList bs_extract bs_get List.cons_append List.nil_append List.append_nil be_length Nat.sub_zero bne_self_eq_false beq_self_eq_true
theorem head_facts {s l : List UInt8} {k : Nat} (h4 : 4 ≤ s.length) (hk : 1 ≤ k ∧ k ≤ 255) (hl : l.length ≤ 1048576) : ¬ ((s.length : Int) < 4) ∧ ((4 : Int) ≤ (s.length : Int)) ∧ (UInt8.ofNat k).toNat = k ∧ (((k : Nat) : Int) == 0) = false ∧ ¬ ((l.length : Int) > 1048576) ∧ l.length < 256 ^ 3 ∧ IntKind.i64.wrap ((l.length : Nat) : Int) = (l.length : Int) ∧ IntKind.i64.wrap ((l.length : Int) + 8) = ((l.length + 8 : Nat) : Int) ∧ IntKind.i64.wrap (4 + (l.length : Int)) = ((4 + l.length : Nat) : Int) := by
  have e : (256 : Nat) ^ 3 = 16777216 := by decide
  refine ⟨by omega, by omega, by simp; omega, by simp; omega, by omega, by omega, wrap64 (by omega) (by omega), by rw [wrap64 (by omega) (by omega)]; rfl, by rw [wrap64 (by omega) (by omega)]; omega⟩
/-- Open: whole -/
theorem sp68c (s l : List UInt8) (k : Nat) (h : AH) (h4 : 4 ≤ s.length) (hk : 1 ≤ k ∧ k ≤ 255) (hl : l.length ≤ 1048576) (f0 : s[0]? = some (UInt8.ofNat k)) (f1 : (s.drop 1).take 3 = be l.length 3) (hs : l.length + 8 ≤ s.length)
    (f2 : s.take (4 + l.length) = fb k l) (f3 : (s.drop (4 + l.length)).take (l.length + 8 - (4 + l.length)) = be (smF (fb k l)).toNat 4) (f4 : (s.drop 4).take (4 + l.length - 4) = l) :
    Sp T 68 [.str (bs s)] h (fun v h' => v = .tup [.int .u8 k, .str (bs l), .int .i64 0] ∧ Up h h') := by
  obtain ⟨d1, d2, d3, d4, d5, g1, d6, d7, d8⟩ := head_facts h4 hk hl
  have t1 : Int.toNat 1 = 1 := rfl
  have t4 : Int.toNat 4 = 4 := rfl
  have t3 : (4 - 1 : Nat) = 3 := rfl
  have p1 : (0 : Int) ≤ 1 := by decide
  have p2 : (1 : Int) ≤ 4 := by decide
  have p3 : (0 : Int) ≤ 4 := by decide
  have d9 : ¬ ((l.length + 8 : Nat) : Int) > (s.length : Int) := by omega
  have d10 : (0 : Int) ≤ ((4 + l.length : Nat) : Int) := by omega
  have d11 : ((4 + l.length : Nat) : Int) ≤ (s.length : Int) := by omega
  have d12 : ((4 + l.length : Nat) : Int) ≤ ((l.length + 8 : Nat) : Int) := by omega
  have d13 : ((l.length + 8 : Nat) : Int) ≤ (s.length : Int) := by omega
  have d14 : (4 : Int) ≤ ((4 + l.length : Nat) : Int) := by omega
  have g2 : (smF (fb k l)).toNat < 256 ^ 4 := by
    have e : (256 : Nat) ^ 4 = 4294967296 := by decide
    have := xr_rng 4294967295 ((fb k l).foldl mo 4294967295)
    have h2 : smF (fb k l) = xr 4294967295 ((fb k l).foldl mo 4294967295) := rfl
    rw [e, h2]; omega
  have hfl := fb_len k l
  refine Sp_of (fn := f68) rfl (show W T b68 [.str (bs s), .tup [], .tup [], .tup [], .tup [], .tup [], .tup [], .tup [], .tup [], .tup [], .tup [], .tup [], .tup [], .tup [], .tup [], .tup [], .tup [], .tup [], .tup [], .tup [], .tup [], .tup [], .tup [], .tup [], .tup [], .tup [], .tup [], .tup [], .tup [], .tup [], .tup [], .tup [], .tup [], .tup [], .tup [], .tup [], .tup [], .tup [], .tup [], .tup [], .tup [], .tup [], .tup [], .tup [], .tup [], .tup [], .tup []] _ _ from ?_)
  unfold b68
  repeat' (first
    | (refine wNil ?_) | (refine xPure ?_)
    | (refine xMk ?_; intro id hid; (try simp only [set_none_iff] at hid); refine mkDo ?_)
    | (refine xChk ?_) | (refine xChkF ?_) | (refine xSkip ?_)
    | (refine xCall rfl rfl (sp81 (be l.length 3) _ (by rw [be_length]; decide)) ?_; rintro v h2 ⟨rfl, hx⟩; cases hx; rw [val_be' g1]; refine nTm ?_)
    | (refine xCall rfl rfl (sp44 id true (fb k l) _ set_same (by omega)) ?_; rintro v h3 ⟨rfl, hx⟩; cases hx; refine nTm ?_)
    | (refine xCall rfl rfl (sp81 (be (smF (fb k l)).toNat 4) _ (by rw [be_length]; decide)) ?_; rintro v h4 ⟨rfl, hx⟩; cases hx; rw [val_be' g2, sm_nat]; refine nTm ?_)
    | (refine cSeq ?_) | (refine cNorm ?_) | (refine cRet ?_) | (refine cExit ?_) | (refine W_reg rfl ?_) | (refine W_block ?_) | (refine W_ret ?_) | (refine W_skip ?_) | (refine W_exit ?_) | (refine bNorm ?_) | (refine bRet ?_) | (refine bExit ?_) | (refine bExitN rfl ?_)
    | (refine xMask ?_) | (refine xT ?_) | (refine xF ?_) | (refine xRet ?_) | (refine xNorm ?_)
    | (refine wSplit _ rfl (by (first | (simp only [go_sem, *]; (first | done | exact rfl)) | rfl)) ?_ ?_ <;> intro hb <;> (try simp only [beq_false, beq_true, Bool.not_true, Bool.not_false, Bool.not_eq_true', Bool.not_eq_false', decide_eq_false_iff_not, decide_eq_true_eq, bne_iff_ne, beq_iff_eq, Bool.true_eq, Bool.false_eq, Bool.not_not, Bool.and_eq_true, Bool.or_eq_true, Bool.bne_true, Bool.bne_false, bne_eq_false_iff_eq, beq_eq_false_iff_ne, ne_eq] at hb))
    | (refine W_cond _ (by (first | (simp only [go_sem, *]; (first | done | exact rfl)) | rfl)) ?_ ?_ <;> intro hb <;> (try simp only [beq_false, beq_true, Bool.not_true, Bool.not_false, Bool.not_eq_true', Bool.not_eq_false', decide_eq_false_iff_not, decide_eq_true_eq, bne_iff_ne, beq_iff_eq, Bool.true_eq, Bool.false_eq, Bool.not_not, Bool.and_eq_true, Bool.or_eq_true, Bool.bne_true, Bool.bne_false, bne_eq_false_iff_eq, beq_eq_false_iff_ne, ne_eq] at hb)))
  all_goals exact ⟨rfl, Up.new (Up.refl h) (by assumption)⟩
end Go.Proofs.YtgekngfnhhdamaaI
set_option linter.unusedVariables false
set_option linter.unusedSimpArgs false
set_option maxRecDepth 100000
set_option maxHeartbeats 4000000
namespace Go.Proofs.YtgekngfnhhdamaaI
open Go Go.Proofs.YtgekngfnhhdamaaM
attribute [local go_sem] aop ev fg_slc fg_slk fg_ptr fg_bool fg_int fg_str fg_iface fg_func fg_agg fg_tup fg_nils fg_nilp fg_nilI fg_nilF fg_und aboundsK alen_nils alen_slc alen_slk aslice_nils aslice_slc aslice_slk awanted abin aun aint aeqn aeqc aeqs apart abounds abnd amaxi amaxiGo cells_agg cells_slc cells_slk cells_ptr cells_bool cells_int cells_str cells_iface cells_func cells_tup cells_nils cells_nilp cells_nilI cells_nilF cells_und sc_slc sc_slk sc_ptr sc_bool sc_int sc_str sc_iface sc_func sc_nils sc_nilp sc_nilI sc_nilF gd_zero gd_succ List.all_cons List.all_nil Bool.and_self Bool.and_true Bool.true_and List.length_cons List.length_nil Option.map_some Option.some.injEq cell_same cell_ne cell_ne' cellsAt_same cellsAt_ne cellsAt_ne' put_same put_of set_same set_ne set_ne' List.getElem?_cons_zero List.getElem?_cons_succ if_true if_false and_self and_true true_and ne_eq not_true_eq_false not_false_eq_true decide_true decide_false Bool.false_eq_true Bool.true_eq_false beq_self_eq_true bne_self_eq_false beq_true beq_false Bool.not_true Bool.not_false List.map_cons List.map_nil putL List.set_cons_zero List.set_cons_succ afill Nat.zero_le Nat.le_refl Nat.zero_add Nat.add_zero List.drop_zero List.drop_succ_cons List.take_zero List.take_succ_cons Bool.not_eq_true Bool.not_eq_false decide_eq_true_eq decide_eq_false_iff_not Int.toNat_zero Nat.sub_zero Int.toNat_natCast Bool.bne_true Bool.bne_false AH.cell AH.cellsAt AH.put Nat.mul_one Nat.one_mul Int.natCast_nonneg List.length_set bs_append bs_size bs_toList bs_extract bs_get List.append_nil Nat.sub_zero bne_self_eq_false beq_self_eq_true azeros Int.le_refl
def Hd (p : Prop) : Prop := p
theorem beq_bs (l m : List UInt8) : (bs l == bs m) = (l == m) := by
  have e : (bs l == bs m) = ((bs l).data == (bs m).data) := rfl
  rw [e]; simp
def eqE (y z : En) : Bool := (y.1 == z.1) && (((y.2.1 : Int) == (z.2.1 : Int)) && ((y.2.2.1 == z.2.2.1) && (bs y.2.2.2 == bs z.2.2.2)))
theorem eqE_iff (y z : En) : eqE y z = true ↔ y = z := by
  obtain ⟨a, b, c, d⟩ := y
  obtain ⟨a', b', c', d'⟩ := z
  simp only [eqE, beq_bs, Bool.and_eq_true, beq_iff_eq, Prod.mk.injEq]
  exact ⟨fun ⟨h1, h2, h3, h4⟩ => ⟨h1, by omega, h3, h4⟩, fun ⟨h1, h2, h3, h4⟩ => ⟨h1, by omega, h3, h4⟩⟩
/-- slices.Equal of entries -/
theorem sp77 (S S' : AV) (L L' : List En) (h : AH) (hS : Le h S L) (hS' : Le h S' L') (hl : L.length ≤ 1000) : Sp T 77 [S, S'] h (fun v h' => v = .bool (decide (L = L')) ∧ h' = h) := by
  have hSl := hS.len
  have hSl' := hS'.len
  by_cases hn : L.length = L'.length
  · have hne : ((L.length : Int) != (L'.length : Int)) = false := by simp; omega
    have hn' : Hd (L.length = L'.length) := hn
    clear hn
    refine Sp_of (fn := f77) rfl (show W T b77 [S, S', .tup [], .tup [], .tup [], .tup [], .tup [], .tup [], .tup [], .tup [], .tup [], .tup [], .tup [], .tup [], .tup [], .tup [], .tup [], .tup [], .tup [], .tup [], .tup [], .tup [], .tup [], .tup [], .tup [], .tup []] _ _ from ?_)
    unfold b77
    repeat' (first
      | (refine wNil ?_) | (refine xPure ?_)
      | (refine xMk ?_; intro id hid; (try simp only [set_none_iff] at hid); refine mkDo ?_)
      | (refine xChk ?_) | (refine xChkF ?_) | (refine xSkip ?_)
      | (refine cSeq ?_) | (refine cNorm ?_) | (refine cRet ?_) | (refine cExit ?_) | (refine W_reg rfl ?_) | (refine W_block ?_) | (refine W_ret ?_) | (refine W_skip ?_) | (refine W_exit ?_) | (refine bNorm ?_) | (refine bRet ?_) | (refine bExit ?_) | (refine bExitN rfl ?_)
      | (refine xMask ?_) | (refine xT ?_) | (refine xF ?_) | (refine xRet ?_) | (refine xNorm ?_)
      | (refine wSplit _ rfl (by (first | (simp only [go_sem, *]; (first | done | exact rfl)) | rfl)) ?_ ?_ <;> intro hb <;> (try simp only [beq_false, beq_true, Bool.not_true, Bool.not_false, Bool.not_eq_true', Bool.not_eq_false', decide_eq_false_iff_not, decide_eq_true_eq, bne_iff_ne, beq_iff_eq, Bool.true_eq, Bool.false_eq, Bool.not_not, Bool.and_eq_true, Bool.or_eq_true, Bool.bne_true, Bool.bne_false, bne_eq_false_iff_eq, beq_eq_false_iff_ne, ne_eq] at hb))
      | (refine W_cond _ (by (first | (simp only [go_sem, *]; (first | done | exact rfl)) | rfl)) ?_ ?_ <;> intro hb <;> (try simp only [beq_false, beq_true, Bool.not_true, Bool.not_false, Bool.not_eq_true', Bool.not_eq_false', decide_eq_false_iff_not, decide_eq_true_eq, bne_iff_ne, beq_iff_eq, Bool.true_eq, Bool.false_eq, Bool.not_not, Bool.and_eq_true, Bool.or_eq_true, Bool.bne_true, Bool.bne_false, bne_eq_false_iff_eq, beq_eq_false_iff_ne, ne_eq] at hb)))
    refine W_loop (fun m tm g => ∃ k : Nat, k + m = L.length ∧ g = h ∧ L.take k = L'.take k ∧ keep [0, 1, 12, 13] 0 tm = [S, S', .und, .und, .und, .und, .und, .und, .und, .und, .und, .und, .int .i64 (L.length : Int), .int .i64 (k : Int), .und, .und, .und, .und, .und, .und, .und, .und, .und, .und, .und, .und]) L.length ⟨0, by omega, rfl, by simp, rfl⟩ ?_
    clear hne
    rintro m tm g ⟨k, hk, rfl, ht, htm⟩
    refine cSeq (cMask (cNorm ?_))
    rw [htm]; clear htm
    by_cases hkl : k < L.length
    · have d1 : (k : Int) < (L.length : Int) := by omega
      have d2 : (0 : Int) ≤ (k : Int) := by omega
      have d3 : (k : Int) < (L'.length : Int) := by have : L.length = L'.length := hn'; omega
      have w1 : IntKind.i64.wrap ((k : Int) + 1) = ((k + 1 : Nat) : Int) := by rw [wrap64 (by omega) (by omega)]; rfl
      obtain ⟨y, hy⟩ : ∃ y, L[k]? = some y := ⟨_, List.getElem?_eq_getElem hkl⟩
      obtain ⟨z, hz⟩ : ∃ z, L'[k]? = some z := ⟨_, List.getElem?_eq_getElem (by have : L.length = L'.length := hn'; omega)⟩
      rcases hS with ⟨rfl, rfl⟩ | ⟨i1, o1, rfl, h1⟩
      · simp at hkl
      rcases hS' with ⟨rfl, rfl⟩ | ⟨i2, o2, rfl, h2⟩
      · simp at hz
      obtain ⟨g1, g2⟩ := flat_get eMz hy []
      obtain ⟨g3, g4⟩ := flat_get eMz hz []
      rw [List.append_nil] at g1 g2 g3 g4
      have ty : L.take (k + 1) = L.take k ++ [y] := by rw [List.take_add_one, hy]; rfl
      have tz : L'.take (k + 1) = L'.take k ++ [z] := by rw [List.take_add_one, hz]; rfl
      cases he : eqE y z with
      | true =>
        have hyz := (eqE_iff y z).1 he
        have hnext : L.take (k + 1) = L'.take (k + 1) := by rw [ty, tz, ht, hyz]
        obtain ⟨y1, y2, y3, y4⟩ := y
        obtain ⟨z1, z2, z3, z4⟩ := z
        simp only [eM] at g2 g4
        simp only [eqE] at he
        clear hyz ty tz ht hy hz
        repeat' (first
          | (refine wNil ?_) | (refine xPure ?_)
          | (refine xMk ?_; intro id hid; (try simp only [set_none_iff] at hid); refine mkDo ?_)
          | (refine xChk ?_) | (refine xChkF ?_) | (refine xSkip ?_)
          | (refine cSeq ?_) | (refine cNorm ?_) | (refine cRet ?_) | (refine cExit ?_) | (refine W_reg rfl ?_) | (refine W_block ?_) | (refine W_ret ?_) | (refine W_skip ?_) | (refine W_exit ?_) | (refine bNorm ?_) | (refine bRet ?_) | (refine bExit ?_) | (refine bExitN rfl ?_)
          | (refine xMask ?_) | (refine xT ?_) | (refine xF ?_) | (refine xRet ?_) | (refine xNorm ?_)
          | (refine wSplit _ rfl (by (first | (simp only [go_sem, *]; (first | done | exact rfl)) | rfl)) ?_ ?_ <;> intro hb <;> (try simp only [beq_false, beq_true, Bool.not_true, Bool.not_false, Bool.not_eq_true', Bool.not_eq_false', decide_eq_false_iff_not, decide_eq_true_eq, bne_iff_ne, beq_iff_eq, Bool.true_eq, Bool.false_eq, Bool.not_not, Bool.and_eq_true, Bool.or_eq_true, Bool.bne_true, Bool.bne_false, bne_eq_false_iff_eq, beq_eq_false_iff_ne, ne_eq] at hb))
          | (refine W_cond _ (by (first | (simp only [go_sem, *]; (first | done | exact rfl)) | rfl)) ?_ ?_ <;> intro hb <;> (try simp only [beq_false, beq_true, Bool.not_true, Bool.not_false, Bool.not_eq_true', Bool.not_eq_false', decide_eq_false_iff_not, decide_eq_true_eq, bne_iff_ne, beq_iff_eq, Bool.true_eq, Bool.false_eq, Bool.not_not, Bool.and_eq_true, Bool.or_eq_true, Bool.bne_true, Bool.bne_false, bne_eq_false_iff_eq, beq_eq_false_iff_ne, ne_eq] at hb)))
        all_goals exact ⟨m - 1, by omega, k + 1, by omega, rfl, hnext, by simp only [keep, List.contains_cons, List.contains_nil, Nat.reduceBEq, Bool.or_true, Bool.true_or, Bool.or_false, Bool.false_or, if_true, if_false, Bool.false_eq_true, beq_self_eq_true, Nat.zero_add, Nat.reduceAdd, eq_self]⟩
      | false =>
        have hyz : ¬ y = z := fun e => by rw [(eqE_iff y z).2 e] at he; cases he
        have hno : ¬ L = L' := fun e => hyz (by rw [e, hz] at hy; exact (Option.some.inj hy).symm)
        rw [decide_eq_false hno]
        obtain ⟨y1, y2, y3, y4⟩ := y
        obtain ⟨z1, z2, z3, z4⟩ := z
        simp only [eM] at g2 g4
        simp only [eqE] at he
        clear hyz ty tz ht hy hz hno
        repeat' (first
          | (refine wNil ?_) | (refine xPure ?_)
          | (refine xMk ?_; intro id hid; (try simp only [set_none_iff] at hid); refine mkDo ?_)
          | (refine xChk ?_) | (refine xChkF ?_) | (refine xSkip ?_)
          | (refine cSeq ?_) | (refine cNorm ?_) | (refine cRet ?_) | (refine cExit ?_) | (refine W_reg rfl ?_) | (refine W_block ?_) | (refine W_ret ?_) | (refine W_skip ?_) | (refine W_exit ?_) | (refine bNorm ?_) | (refine bRet ?_) | (refine bExit ?_) | (refine bExitN rfl ?_)
          | (refine xMask ?_) | (refine xT ?_) | (refine xF ?_) | (refine xRet ?_) | (refine xNorm ?_)
          | (refine wSplit _ rfl (by (first | (simp only [go_sem, *]; (first | done | exact rfl)) | rfl)) ?_ ?_ <;> intro hb <;> (try simp only [beq_false, beq_true, Bool.not_true, Bool.not_false, Bool.not_eq_true', Bool.not_eq_false', decide_eq_false_iff_not, decide_eq_true_eq, bne_iff_ne, beq_iff_eq, Bool.true_eq, Bool.false_eq, Bool.not_not, Bool.and_eq_true, Bool.or_eq_true, Bool.bne_true, Bool.bne_false, bne_eq_false_iff_eq, beq_eq_false_iff_ne, ne_eq] at hb))
          | (refine W_cond _ (by (first | (simp only [go_sem, *]; (first | done | exact rfl)) | rfl)) ?_ ?_ <;> intro hb <;> (try simp only [beq_false, beq_true, Bool.not_true, Bool.not_false, Bool.not_eq_true', Bool.not_eq_false', decide_eq_false_iff_not, decide_eq_true_eq, bne_iff_ne, beq_iff_eq, Bool.true_eq, Bool.false_eq, Bool.not_not, Bool.and_eq_true, Bool.or_eq_true, Bool.bne_true, Bool.bne_false, bne_eq_false_iff_eq, beq_eq_false_iff_ne, ne_eq] at hb)))
        all_goals exact ⟨rfl, rfl⟩
    · have d1 : ¬ (k : Int) < (L.length : Int) := by omega
      have hyes : L = L' := by
        have : L.length = L'.length := hn'
        rw [List.take_of_length_le (by omega), List.take_of_length_le (by omega)] at ht; exact ht
      rw [decide_eq_true hyes]
      clear hyes ht
      repeat' (first
        | (refine wNil ?_) | (refine xPure ?_)
        | (refine xMk ?_; intro id hid; (try simp only [set_none_iff] at hid); refine mkDo ?_)
        | (refine xChk ?_) | (refine xChkF ?_) | (refine xSkip ?_)
        | (refine cSeq ?_) | (refine cNorm ?_) | (refine cRet ?_) | (refine cExit ?_) | (refine W_reg rfl ?_) | (refine W_block ?_) | (refine W_ret ?_) | (refine W_skip ?_) | (refine W_exit ?_) | (refine bNorm ?_) | (refine bRet ?_) | (refine bExit ?_) | (refine bExitN rfl ?_)
        | (refine xMask ?_) | (refine xT ?_) | (refine xF ?_) | (refine xRet ?_) | (refine xNorm ?_)
        | (refine wSplit _ rfl (by (first | (simp only [go_sem, *]; (first | done | exact rfl)) | rfl)) ?_ ?_ <;> intro hb <;> (try simp only [beq_false, beq_true, Bool.not_true, Bool.not_false, Bool.not_eq_true', Bool.not_eq_false', decide_eq_false_iff_not, decide_eq_true_eq, bne_iff_ne, beq_iff_eq, Bool.true_eq, Bool.false_eq, Bool.not_not, Bool.and_eq_true, Bool.or_eq_true, Bool.bne_true, Bool.bne_false, bne_eq_false_iff_eq, beq_eq_false_iff_ne, ne_eq] at hb))
        | (refine W_cond _ (by (first | (simp only [go_sem, *]; (first | done | exact rfl)) | rfl)) ?_ ?_ <;> intro hb <;> (try simp only [beq_false, beq_true, Bool.not_true, Bool.not_false, Bool.not_eq_true', Bool.not_eq_false', decide_eq_false_iff_not, decide_eq_true_eq, bne_iff_ne, beq_iff_eq, Bool.true_eq, Bool.false_eq, Bool.not_not, Bool.and_eq_true, Bool.or_eq_true, Bool.bne_true, Bool.bne_false, bne_eq_false_iff_eq, beq_eq_false_iff_ne, ne_eq] at hb)))
      all_goals exact ⟨rfl, rfl⟩
  · have hne : ((L.length : Int) != (L'.length : Int)) = true := by simp; omega
    rw [decide_eq_false (fun e => hn (by rw [e]))]
    clear hn
    refine Sp_of (fn := f77) rfl (show W T b77 [S, S', .tup [], .tup [], .tup [], .tup [], .tup [], .tup [], .tup [], .tup [], .tup [], .tup [], .tup [], .tup [], .tup [], .tup [], .tup [], .tup [], .tup [], .tup [], .tup [], .tup [], .tup [], .tup [], .tup [], .tup []] _ _ from ?_)
    unfold b77
    repeat' (first
      | (refine wNil ?_) | (refine xPure ?_)
      | (refine xMk ?_; intro id hid; (try simp only [set_none_iff] at hid); refine mkDo ?_)
      | (refine xChk ?_) | (refine xChkF ?_) | (refine xSkip ?_)
      | (refine cSeq ?_) | (refine cNorm ?_) | (refine cRet ?_) | (refine cExit ?_) | (refine W_reg rfl ?_) | (refine W_block ?_) | (refine W_ret ?_) | (refine W_skip ?_) | (refine W_exit ?_) | (refine bNorm ?_) | (refine bRet ?_) | (refine bExit ?_) | (refine bExitN rfl ?_)
      | (refine xMask ?_) | (refine xT ?_) | (refine xF ?_) | (refine xRet ?_) | (refine xNorm ?_)
      | (refine wSplit _ rfl (by (first | (simp only [go_sem, *]; (first | done | exact rfl)) | rfl)) ?_ ?_ <;> intro hb <;> (try simp only [beq_false, beq_true, Bool.not_true, Bool.not_false, Bool.not_eq_true', Bool.not_eq_false', decide_eq_false_iff_not, decide_eq_true_eq, bne_iff_ne, beq_iff_eq, Bool.true_eq, Bool.false_eq, Bool.not_not, Bool.and_eq_true, Bool.or_eq_true, Bool.bne_true, Bool.bne_false, bne_eq_false_iff_eq, beq_eq_false_iff_ne, ne_eq] at hb))
      | (refine W_cond _ (by (first | (simp only [go_sem, *]; (first | done | exact rfl)) | rfl)) ?_ ?_ <;> intro hb <;> (try simp only [beq_false, beq_true, Bool.not_true, Bool.not_false, Bool.not_eq_true', Bool.not_eq_false', decide_eq_false_iff_not, decide_eq_true_eq, bne_iff_ne, beq_iff_eq, Bool.true_eq, Bool.false_eq, Bool.not_not, Bool.and_eq_true, Bool.or_eq_true, Bool.bne_true, Bool.bne_false, bne_eq_false_iff_eq, beq_eq_false_iff_ne, ne_eq] at hb)))
    all_goals exact ⟨rfl, rfl⟩
end Go.Proofs.YtgekngfnhhdamaaI
set_option linter.unusedVariables false
set_option linter.unusedSimpArgs false
set_option maxRecDepth 100000
set_option maxHeartbeats 4000000
namespace Go.Proofs.YtgekngfnhhdamaaI
open Go Go.Proofs.YtgekngfnhhdamaaM
attribute [local go_sem] aop ev fg_slc fg_slk fg_ptr fg_bool fg_int fg_str fg_iface fg_func fg_agg fg_tup fg_nils fg_nilp fg_nilI fg_nilF fg_und aboundsK alen_nils alen_slc alen_slk aslice_nils aslice_slc aslice_slk awanted abin aun aint aeqn aeqc aeqs apart abounds abnd amaxi amaxiGo cells_agg cells_slc cells_slk cells_ptr cells_bool cells_int cells_str cells_iface cells_func cells_tup cells_nils cells_nilp cells_nilI cells_nilF cells_und sc_slc sc_slk sc_ptr sc_bool sc_int sc_str sc_iface sc_func sc_nils sc_nilp sc_nilI sc_nilF gd_zero gd_succ List.all_cons List.all_nil Bool.and_self Bool.and_true Bool.true_and List.length_cons List.length_nil Option.map_some Option.some.injEq cell_same cell_ne cell_ne' cellsAt_same cellsAt_ne cellsAt_ne' put_same put_of set_same set_ne set_ne' List.getElem?_cons_zero List.getElem?_cons_succ if_true if_false and_self and_true true_and ne_eq not_true_eq_false not_false_eq_true decide_true decide_false Bool.false_eq_true Bool.true_eq_false beq_self_eq_true bne_self_eq_false beq_true beq_false Bool.not_true Bool.not_false List.map_cons List.map_nil putL List.set_cons_zero List.set_cons_succ afill Nat.zero_le Nat.le_refl Nat.zero_add Nat.add_zero List.drop_zero List.drop_succ_cons List.take_zero List.take_succ_cons Bool.not_eq_true Bool.not_eq_false decide_eq_true_eq decide_eq_false_iff_not Int.toNat_zero Nat.sub_zero Int.toNat_natCast Bool.bne_true Bool.bne_false AH.cell AH.cellsAt AH.put Nat.mul_one Nat.one_mul Int.natCast_nonneg List.length_set bs_append bs_size bs_toList bs_extract bs_get List.append_nil Nat.sub_zero bne_self_eq_false beq_self_eq_true azeros Int.le_refl
def sameB (k1 k2 k3 k4 : Int) (C : Nat) (n1 s1 s2 : Int) (ok : Bool) (x : List UInt8) (L : List En) (k1' k2' k3' k4' : Int) (C' : Nat) (n1' s1' s2' : Int) (ok' : Bool) (x' : List UInt8) (L' : List En) : Bool :=
  (if (k1 == k1') then (if (k2 == k2') then (if (k3 == k3') then (if (k4 == k4') then (if (((C : Int) == (C' : Int)) && (n1 == n1')) then (if (s1 == s1') then (if (s2 == s2') then (if (ok == ok') then (if (x == x') then decide (L = L') else false) else false) else false) else false) else false) else false) else false) else false) else false)
/-- Same -/
theorem sp52 (k1 k2 k3 k4 : Int) (C : Nat) (n1 s1 s2 : Int) (ok : Bool) (x : List UInt8) (S : AV) (L : List En) (k1' k2' k3' k4' : Int) (C' : Nat) (n1' s1' s2' : Int) (ok' : Bool) (x' : List UInt8) (S' : AV) (L' : List En) (h : AH) (hS : Le h S L) (hS' : Le h S' L') (hl : L.length ≤ 1000) :
    Sp T 52 [.agg [.int .i64 k1, .int .i64 k2, .int .i64 k3, .int .i64 k4, .int .u64 (C : Int), .int .i64 n1, .int .i64 s1, .int .i64 s2, .bool ok, .str (bs x), S], .agg [.int .i64 k1', .int .i64 k2', .int .i64 k3', .int .i64 k4', .int .u64 (C' : Int), .int .i64 n1', .int .i64 s1', .int .i64 s2', .bool ok', .str (bs x'), S']] h (fun v h' => v = .bool (sameB k1 k2 k3 k4 C n1 s1 s2 ok x L k1' k2' k3' k4' C' n1' s1' s2' ok' x' L') ∧ Up h h') := by
  have hu0 := Up.refl h
  have hSc : S.scalar = true := by rcases hS with ⟨rfl, rfl⟩ | ⟨i, _, rfl, _⟩ <;> rfl
  have hSc' : S'.scalar = true := by rcases hS' with ⟨rfl, rfl⟩ | ⟨i, _, rfl, _⟩ <;> rfl
  cases B0 : (k1 == k1') with
  | false =>
    have e : sameB k1 k2 k3 k4 C n1 s1 s2 ok x L k1' k2' k3' k4' C' n1' s1' s2' ok' x' L' = false := by unfold sameB; rw [B0]; rfl
    rw [e]
    clear e
    refine Sp_of (fn := f52) rfl (show W T b52 [.agg [.int .i64 k1, .int .i64 k2, .int .i64 k3, .int .i64 k4, .int .u64 (C : Int), .int .i64 n1, .int .i64 s1, .int .i64 s2, .bool ok, .str (bs x), S], .agg [.int .i64 k1', .int .i64 k2', .int .i64 k3', .int .i64 k4', .int .u64 (C' : Int), .int .i64 n1', .int .i64 s1', .int .i64 s2', .bool ok', .str (bs x'), S'], .tup [], .tup [], .tup [], .tup [], .tup [], .tup [], .tup [], .tup [], .tup [], .tup [], .tup [], .tup [], .tup [], .tup [], .tup [], .tup [], .tup [], .tup [], .tup [], .tup [], .tup [], .tup [], .tup [], .tup [], .tup [], .tup [], .tup [], .tup [], .tup [], .tup [], .tup [], .tup [], .tup [], .tup [], .tup [], .tup [], .tup [], .tup [], .tup [], .tup [], .tup [], .tup [], .tup [], .tup [], .tup [], .tup [], .tup [], .tup [], .tup [], .tup [], .tup [], .tup [], .tup [], .tup [], .tup [], .tup [], .tup [], .tup [], .tup [], .tup [], .tup [], .tup [], .tup [], .tup [], .tup [], .tup [], .tup [], .tup [], .tup [], .tup [], .tup []] _ _ from ?_)
    unfold b52
    repeat' (first
      | (refine wNil ?_) | (refine xPure ?_)
      | (refine xMk ?_; intro id hid; (try simp only [set_none_iff] at hid); have hz := hid; (repeat (replace hz := hz.2)); (try have := Up.none hu0 hz); refine mkDo ?_)
      | (refine xChk ?_) | (refine xChkF ?_) | (refine xSkip ?_)
      | (refine cSeq ?_) | (refine cNorm ?_) | (refine cRet ?_) | (refine cExit ?_) | (refine W_reg rfl ?_) | (refine W_block ?_) | (refine W_ret ?_) | (refine W_skip ?_) | (refine W_exit ?_) | (refine bNorm ?_) | (refine bRet ?_) | (refine bExit ?_) | (refine bExitN rfl ?_)
      | (refine xMask ?_) | (refine xT ?_) | (refine xF ?_) | (refine xRet ?_) | (refine xNorm ?_)
      | (refine wSplit _ rfl (by (first | (simp only [go_sem, *]; (first | done | exact rfl)) | rfl)) ?_ ?_ <;> intro hb <;> (try simp only [beq_false, beq_true, Bool.not_true, Bool.not_false, Bool.not_eq_true', Bool.not_eq_false', decide_eq_false_iff_not, decide_eq_true_eq, bne_iff_ne, beq_iff_eq, Bool.true_eq, Bool.false_eq, Bool.not_not, Bool.and_eq_true, Bool.or_eq_true, Bool.bne_true, Bool.bne_false, bne_eq_false_iff_eq, beq_eq_false_iff_ne, ne_eq] at hb))
      | (refine W_cond _ (by (first | (simp only [go_sem, *]; (first | done | exact rfl)) | rfl)) ?_ ?_ <;> intro hb <;> (try simp only [beq_false, beq_true, Bool.not_true, Bool.not_false, Bool.not_eq_true', Bool.not_eq_false', decide_eq_false_iff_not, decide_eq_true_eq, bne_iff_ne, beq_iff_eq, Bool.true_eq, Bool.false_eq, Bool.not_not, Bool.and_eq_true, Bool.or_eq_true, Bool.bne_true, Bool.bne_false, bne_eq_false_iff_eq, beq_eq_false_iff_ne, ne_eq] at hb)))
    all_goals exact ⟨rfl, (by repeat' (first | assumption | exact Up.refl _ | refine Up.new ?_ ?_))⟩
  | true =>
    cases B1 : (k2 == k2') with
    | false =>
      have e : sameB k1 k2 k3 k4 C n1 s1 s2 ok x L k1' k2' k3' k4' C' n1' s1' s2' ok' x' L' = false := by unfold sameB; rw [B0, B1]; rfl
      rw [e]
      clear e
      refine Sp_of (fn := f52) rfl (show W T b52 [.agg [.int .i64 k1, .int .i64 k2, .int .i64 k3, .int .i64 k4, .int .u64 (C : Int), .int .i64 n1, .int .i64 s1, .int .i64 s2, .bool ok, .str (bs x), S], .agg [.int .i64 k1', .int .i64 k2', .int .i64 k3', .int .i64 k4', .int .u64 (C' : Int), .int .i64 n1', .int .i64 s1', .int .i64 s2', .bool ok', .str (bs x'), S'], .tup [], .tup [], .tup [], .tup [], .tup [], .tup [], .tup [], .tup [], .tup [], .tup [], .tup [], .tup [], .tup [], .tup [], .tup [], .tup [], .tup [], .tup [], .tup [], .tup [], .tup [], .tup [], .tup [], .tup [], .tup [], .tup [], .tup [], .tup [], .tup [], .tup [], .tup [], .tup [], .tup [], .tup [], .tup [], .tup [], .tup [], .tup [], .tup [], .tup [], .tup [], .tup [], .tup [], .tup [], .tup [], .tup [], .tup [], .tup [], .tup [], .tup [], .tup [], .tup [], .tup [], .tup [], .tup [], .tup [], .tup [], .tup [], .tup [], .tup [], .tup [], .tup [], .tup [], .tup [], .tup [], .tup [], .tup [], .tup [], .tup [], .tup [], .tup []] _ _ from ?_)
      unfold b52
      repeat' (first
        | (refine wNil ?_) | (refine xPure ?_)
        | (refine xMk ?_; intro id hid; (try simp only [set_none_iff] at hid); have hz := hid; (repeat (replace hz := hz.2)); (try have := Up.none hu0 hz); refine mkDo ?_)
        | (refine xChk ?_) | (refine xChkF ?_) | (refine xSkip ?_)
        | (refine cSeq ?_) | (refine cNorm ?_) | (refine cRet ?_) | (refine cExit ?_) | (refine W_reg rfl ?_) | (refine W_block ?_) | (refine W_ret ?_) | (refine W_skip ?_) | (refine W_exit ?_) | (refine bNorm ?_) | (refine bRet ?_) | (refine bExit ?_) | (refine bExitN rfl ?_)
        | (refine xMask ?_) | (refine xT ?_) | (refine xF ?_) | (refine xRet ?_) | (refine xNorm ?_)
        | (refine wSplit _ rfl (by (first | (simp only [go_sem, *]; (first | done | exact rfl)) | rfl)) ?_ ?_ <;> intro hb <;> (try simp only [beq_false, beq_true, Bool.not_true, Bool.not_false, Bool.not_eq_true', Bool.not_eq_false', decide_eq_false_iff_not, decide_eq_true_eq, bne_iff_ne, beq_iff_eq, Bool.true_eq, Bool.false_eq, Bool.not_not, Bool.and_eq_true, Bool.or_eq_true, Bool.bne_true, Bool.bne_false, bne_eq_false_iff_eq, beq_eq_false_iff_ne, ne_eq] at hb))
        | (refine W_cond _ (by (first | (simp only [go_sem, *]; (first | done | exact rfl)) | rfl)) ?_ ?_ <;> intro hb <;> (try simp only [beq_false, beq_true, Bool.not_true, Bool.not_false, Bool.not_eq_true', Bool.not_eq_false', decide_eq_false_iff_not, decide_eq_true_eq, bne_iff_ne, beq_iff_eq, Bool.true_eq, Bool.false_eq, Bool.not_not, Bool.and_eq_true, Bool.or_eq_true, Bool.bne_true, Bool.bne_false, bne_eq_false_iff_eq, beq_eq_false_iff_ne, ne_eq] at hb)))
      all_goals exact ⟨rfl, (by repeat' (first | assumption | exact Up.refl _ | refine Up.new ?_ ?_))⟩
    | true =>
      cases B2 : (k3 == k3') with
      | false =>
        have e : sameB k1 k2 k3 k4 C n1 s1 s2 ok x L k1' k2' k3' k4' C' n1' s1' s2' ok' x' L' = false := by unfold sameB; rw [B0, B1, B2]; rfl
        rw [e]
        clear e
        refine Sp_of (fn := f52) rfl (show W T b52 [.agg [.int .i64 k1, .int .i64 k2, .int .i64 k3, .int .i64 k4, .int .u64 (C : Int), .int .i64 n1, .int .i64 s1, .int .i64 s2, .bool ok, .str (bs x), S], .agg [.int .i64 k1', .int .i64 k2', .int .i64 k3', .int .i64 k4', .int .u64 (C' : Int), .int .i64 n1', .int .i64 s1', .int .i64 s2', .bool ok', .str (bs x'), S'], .tup [], .tup [], .tup [], .tup [], .tup [], .tup [], .tup [], .tup [], .tup [], .tup [], .tup [], .tup [], .tup [], .tup [], .tup [], .tup [], .tup [], .tup [], .tup [], .tup [], .tup [], .tup [], .tup [], .tup [], .tup [], .tup [], .tup [], .tup [], .tup [], .tup [], .tup [], .tup [], .tup [], .tup [], .tup [], .tup [], .tup [], .tup [], .tup [], .tup [], .tup [], .tup [], .tup [], .tup [], .tup [], .tup [], .tup [], .tup [], .tup [], .tup [], .tup [], .tup [], .tup [], .tup [], .tup [], .tup [], .tup [], .tup [], .tup [], .tup [], .tup [], .tup [], .tup [], .tup [], .tup [], .tup [], .tup [], .tup [], .tup [], .tup [], .tup []] _ _ from ?_)
        unfold b52
        repeat' (first
          | (refine wNil ?_) | (refine xPure ?_)
          | (refine xMk ?_; intro id hid; (try simp only [set_none_iff] at hid); have hz := hid; (repeat (replace hz := hz.2)); (try have := Up.none hu0 hz); refine mkDo ?_)
          | (refine xChk ?_) | (refine xChkF ?_) | (refine xSkip ?_)
          | (refine cSeq ?_) | (refine cNorm ?_) | (refine cRet ?_) | (refine cExit ?_) | (refine W_reg rfl ?_) | (refine W_block ?_) | (refine W_ret ?_) | (refine W_skip ?_) | (refine W_exit ?_) | (refine bNorm ?_) | (refine bRet ?_) | (refine bExit ?_) | (refine bExitN rfl ?_)
          | (refine xMask ?_) | (refine xT ?_) | (refine xF ?_) | (refine xRet ?_) | (refine xNorm ?_)
          | (refine wSplit _ rfl (by (first | (simp only [go_sem, *]; (first | done | exact rfl)) | rfl)) ?_ ?_ <;> intro hb <;> (try simp only [beq_false, beq_true, Bool.not_true, Bool.not_false, Bool.not_eq_true', Bool.not_eq_false', decide_eq_false_iff_not, decide_eq_true_eq, bne_iff_ne, beq_iff_eq, Bool.true_eq, Bool.false_eq, Bool.not_not, Bool.and_eq_true, Bool.or_eq_true, Bool.bne_true, Bool.bne_false, bne_eq_false_iff_eq, beq_eq_false_iff_ne, ne_eq] at hb))
          | (refine W_cond _ (by (first | (simp only [go_sem, *]; (first | done | exact rfl)) | rfl)) ?_ ?_ <;> intro hb <;> (try simp only [beq_false, beq_true, Bool.not_true, Bool.not_false, Bool.not_eq_true', Bool.not_eq_false', decide_eq_false_iff_not, decide_eq_true_eq, bne_iff_ne, beq_iff_eq, Bool.true_eq, Bool.false_eq, Bool.not_not, Bool.and_eq_true, Bool.or_eq_true, Bool.bne_true, Bool.bne_false, bne_eq_false_iff_eq, beq_eq_false_iff_ne, ne_eq] at hb)))
        all_goals exact ⟨rfl, (by repeat' (first | assumption | exact Up.refl _ | refine Up.new ?_ ?_))⟩
      | true =>
        cases B3 : (k4 == k4') with
        | false =>
          have e : sameB k1 k2 k3 k4 C n1 s1 s2 ok x L k1' k2' k3' k4' C' n1' s1' s2' ok' x' L' = false := by unfold sameB; rw [B0, B1, B2, B3]; rfl
          rw [e]
          clear e
          refine Sp_of (fn := f52) rfl (show W T b52 [.agg [.int .i64 k1, .int .i64 k2, .int .i64 k3, .int .i64 k4, .int .u64 (C : Int), .int .i64 n1, .int .i64 s1, .int .i64 s2, .bool ok, .str (bs x), S], .agg [.int .i64 k1', .int .i64 k2', .int .i64 k3', .int .i64 k4', .int .u64 (C' : Int), .int .i64 n1', .int .i64 s1', .int .i64 s2', .bool ok', .str (bs x'), S'], .tup [], .tup [], .tup [], .tup [], .tup [], .tup [], .tup [], .tup [], .tup [], .tup [], .tup [], .tup [], .tup [], .tup [], .tup [], .tup [], .tup [], .tup [], .tup [], .tup [], .tup [], .tup [], .tup [], .tup [], .tup [], .tup [], .tup [], .tup [], .tup [], .tup [], .tup [], .tup [], .tup [], .tup [], .tup [], .tup [], .tup [], .tup [], .tup [], .tup [], .tup [], .tup [], .tup [], .tup [], .tup [], .tup [], .tup [], .tup [], .tup [], .tup [], .tup [], .tup [], .tup [], .tup [], .tup [], .tup [], .tup [], .tup [], .tup [], .tup [], .tup [], .tup [], .tup [], .tup [], .tup [], .tup [], .tup [], .tup [], .tup [], .tup [], .tup []] _ _ from ?_)
          unfold b52
          repeat' (first
            | (refine wNil ?_) | (refine xPure ?_)
            | (refine xMk ?_; intro id hid; (try simp only [set_none_iff] at hid); have hz := hid; (repeat (replace hz := hz.2)); (try have := Up.none hu0 hz); refine mkDo ?_)
            | (refine xChk ?_) | (refine xChkF ?_) | (refine xSkip ?_)
            | (refine cSeq ?_) | (refine cNorm ?_) | (refine cRet ?_) | (refine cExit ?_) | (refine W_reg rfl ?_) | (refine W_block ?_) | (refine W_ret ?_) | (refine W_skip ?_) | (refine W_exit ?_) | (refine bNorm ?_) | (refine bRet ?_) | (refine bExit ?_) | (refine bExitN rfl ?_)
            | (refine xMask ?_) | (refine xT ?_) | (refine xF ?_) | (refine xRet ?_) | (refine xNorm ?_)
            | (refine wSplit _ rfl (by (first | (simp only [go_sem, *]; (first | done | exact rfl)) | rfl)) ?_ ?_ <;> intro hb <;> (try simp only [beq_false, beq_true, Bool.not_true, Bool.not_false, Bool.not_eq_true', Bool.not_eq_false', decide_eq_false_iff_not, decide_eq_true_eq, bne_iff_ne, beq_iff_eq, Bool.true_eq, Bool.false_eq, Bool.not_not, Bool.and_eq_true, Bool.or_eq_true, Bool.bne_true, Bool.bne_false, bne_eq_false_iff_eq, beq_eq_false_iff_ne, ne_eq] at hb))
            | (refine W_cond _ (by (first | (simp only [go_sem, *]; (first | done | exact rfl)) | rfl)) ?_ ?_ <;> intro hb <;> (try simp only [beq_false, beq_true, Bool.not_true, Bool.not_false, Bool.not_eq_true', Bool.not_eq_false', decide_eq_false_iff_not, decide_eq_true_eq, bne_iff_ne, beq_iff_eq, Bool.true_eq, Bool.false_eq, Bool.not_not, Bool.and_eq_true, Bool.or_eq_true, Bool.bne_true, Bool.bne_false, bne_eq_false_iff_eq, beq_eq_false_iff_ne, ne_eq] at hb)))
          all_goals exact ⟨rfl, (by repeat' (first | assumption | exact Up.refl _ | refine Up.new ?_ ?_))⟩
        | true =>
          cases B4 : (((C : Int) == (C' : Int)) && (n1 == n1')) with
          | false =>
            have e : sameB k1 k2 k3 k4 C n1 s1 s2 ok x L k1' k2' k3' k4' C' n1' s1' s2' ok' x' L' = false := by unfold sameB; rw [B0, B1, B2, B3, B4]; rfl
            rw [e]
            clear e
            refine Sp_of (fn := f52) rfl (show W T b52 [.agg [.int .i64 k1, .int .i64 k2, .int .i64 k3, .int .i64 k4, .int .u64 (C : Int), .int .i64 n1, .int .i64 s1, .int .i64 s2, .bool ok, .str (bs x), S], .agg [.int .i64 k1', .int .i64 k2', .int .i64 k3', .int .i64 k4', .int .u64 (C' : Int), .int .i64 n1', .int .i64 s1', .int .i64 s2', .bool ok', .str (bs x'), S'], .tup [], .tup [], .tup [], .tup [], .tup [], .tup [], .tup [], .tup [], .tup [], .tup [], .tup [], .tup [], .tup [], .tup [], .tup [], .tup [], .tup [], .tup [], .tup [], .tup [], .tup [], .tup [], .tup [], .tup [], .tup [], .tup [], .tup [], .tup [], .tup [], .tup [], .tup [], .tup [], .tup [], .tup [], .tup [], .tup [], .tup [], .tup [], .tup [], .tup [], .tup [], .tup [], .tup [], .tup [], .tup [], .tup [], .tup [], .tup [], .tup [], .tup [], .tup [], .tup [], .tup [], .tup [], .tup [], .tup [], .tup [], .tup [], .tup [], .tup [], .tup [], .tup [], .tup [], .tup [], .tup [], .tup [], .tup [], .tup [], .tup [], .tup [], .tup []] _ _ from ?_)
            unfold b52
            repeat' (first
              | (refine wNil ?_) | (refine xPure ?_)
              | (refine xMk ?_; intro id hid; (try simp only [set_none_iff] at hid); have hz := hid; (repeat (replace hz := hz.2)); (try have := Up.none hu0 hz); refine mkDo ?_)
              | (refine xChk ?_) | (refine xChkF ?_) | (refine xSkip ?_)
              | (refine cSeq ?_) | (refine cNorm ?_) | (refine cRet ?_) | (refine cExit ?_) | (refine W_reg rfl ?_) | (refine W_block ?_) | (refine W_ret ?_) | (refine W_skip ?_) | (refine W_exit ?_) | (refine bNorm ?_) | (refine bRet ?_) | (refine bExit ?_) | (refine bExitN rfl ?_)
              | (refine xMask ?_) | (refine xT ?_) | (refine xF ?_) | (refine xRet ?_) | (refine xNorm ?_)
              | (refine wSplit _ rfl (by (first | (simp only [go_sem, *]; (first | done | exact rfl)) | rfl)) ?_ ?_ <;> intro hb <;> (try simp only [beq_false, beq_true, Bool.not_true, Bool.not_false, Bool.not_eq_true', Bool.not_eq_false', decide_eq_false_iff_not, decide_eq_true_eq, bne_iff_ne, beq_iff_eq, Bool.true_eq, Bool.false_eq, Bool.not_not, Bool.and_eq_true, Bool.or_eq_true, Bool.bne_true, Bool.bne_false, bne_eq_false_iff_eq, beq_eq_false_iff_ne, ne_eq] at hb))
              | (refine W_cond _ (by (first | (simp only [go_sem, *]; (first | done | exact rfl)) | rfl)) ?_ ?_ <;> intro hb <;> (try simp only [beq_false, beq_true, Bool.not_true, Bool.not_false, Bool.not_eq_true', Bool.not_eq_false', decide_eq_false_iff_not, decide_eq_true_eq, bne_iff_ne, beq_iff_eq, Bool.true_eq, Bool.false_eq, Bool.not_not, Bool.and_eq_true, Bool.or_eq_true, Bool.bne_true, Bool.bne_false, bne_eq_false_iff_eq, beq_eq_false_iff_ne, ne_eq] at hb)))
            all_goals exact ⟨rfl, (by repeat' (first | assumption | exact Up.refl _ | refine Up.new ?_ ?_))⟩
          | true =>
            cases B5 : (s1 == s1') with
            | false =>
              have e : sameB k1 k2 k3 k4 C n1 s1 s2 ok x L k1' k2' k3' k4' C' n1' s1' s2' ok' x' L' = false := by unfold sameB; rw [B0, B1, B2, B3, B4, B5]; rfl
              rw [e]
              clear e
              refine Sp_of (fn := f52) rfl (show W T b52 [.agg [.int .i64 k1, .int .i64 k2, .int .i64 k3, .int .i64 k4, .int .u64 (C : Int), .int .i64 n1, .int .i64 s1, .int .i64 s2, .bool ok, .str (bs x), S], .agg [.int .i64 k1', .int .i64 k2', .int .i64 k3', .int .i64 k4', .int .u64 (C' : Int), .int .i64 n1', .int .i64 s1', .int .i64 s2', .bool ok', .str (bs x'), S'], .tup [], .tup [], .tup [], .tup [], .tup [], .tup [], .tup [], .tup [], .tup [], .tup [], .tup [], .tup [], .tup [], .tup [], .tup [], .tup [], .tup [], .tup [], .tup [], .tup [], .tup [], .tup [], .tup [], .tup [], .tup [], .tup [], .tup [], .tup [], .tup [], .tup [], .tup [], .tup [], .tup [], .tup [], .tup [], .tup [], .tup [], .tup [], .tup [], .tup [], .tup [], .tup [], .tup [], .tup [], .tup [], .tup [], .tup [], .tup [], .tup [], .tup [], .tup [], .tup [], .tup [], .tup [], .tup [], .tup [], .tup [], .tup [], .tup [], .tup [], .tup [], .tup [], .tup [], .tup [], .tup [], .tup [], .tup [], .tup [], .tup [], .tup [], .tup []] _ _ from ?_)
              unfold b52
              repeat' (first
                | (refine wNil ?_) | (refine xPure ?_)
                | (refine xMk ?_; intro id hid; (try simp only [set_none_iff] at hid); have hz := hid; (repeat (replace hz := hz.2)); (try have := Up.none hu0 hz); refine mkDo ?_)
                | (refine xChk ?_) | (refine xChkF ?_) | (refine xSkip ?_)
                | (refine cSeq ?_) | (refine cNorm ?_) | (refine cRet ?_) | (refine cExit ?_) | (refine W_reg rfl ?_) | (refine W_block ?_) | (refine W_ret ?_) | (refine W_skip ?_) | (refine W_exit ?_) | (refine bNorm ?_) | (refine bRet ?_) | (refine bExit ?_) | (refine bExitN rfl ?_)
                | (refine xMask ?_) | (refine xT ?_) | (refine xF ?_) | (refine xRet ?_) | (refine xNorm ?_)
                | (refine wSplit _ rfl (by (first | (simp only [go_sem, *]; (first | done | exact rfl)) | rfl)) ?_ ?_ <;> intro hb <;> (try simp only [beq_false, beq_true, Bool.not_true, Bool.not_false, Bool.not_eq_true', Bool.not_eq_false', decide_eq_false_iff_not, decide_eq_true_eq, bne_iff_ne, beq_iff_eq, Bool.true_eq, Bool.false_eq, Bool.not_not, Bool.and_eq_true, Bool.or_eq_true, Bool.bne_true, Bool.bne_false, bne_eq_false_iff_eq, beq_eq_false_iff_ne, ne_eq] at hb))
                | (refine W_cond _ (by (first | (simp only [go_sem, *]; (first | done | exact rfl)) | rfl)) ?_ ?_ <;> intro hb <;> (try simp only [beq_false, beq_true, Bool.not_true, Bool.not_false, Bool.not_eq_true', Bool.not_eq_false', decide_eq_false_iff_not, decide_eq_true_eq, bne_iff_ne, beq_iff_eq, Bool.true_eq, Bool.false_eq, Bool.not_not, Bool.and_eq_true, Bool.or_eq_true, Bool.bne_true, Bool.bne_false, bne_eq_false_iff_eq, beq_eq_false_iff_ne, ne_eq] at hb)))
              all_goals exact ⟨rfl, (by repeat' (first | assumption | exact Up.refl _ | refine Up.new ?_ ?_))⟩
            | true =>
              cases B6 : (s2 == s2') with
              | false =>
                have e : sameB k1 k2 k3 k4 C n1 s1 s2 ok x L k1' k2' k3' k4' C' n1' s1' s2' ok' x' L' = false := by unfold sameB; rw [B0, B1, B2, B3, B4, B5, B6]; rfl
                rw [e]
                clear e
                refine Sp_of (fn := f52) rfl (show W T b52 [.agg [.int .i64 k1, .int .i64 k2, .int .i64 k3, .int .i64 k4, .int .u64 (C : Int), .int .i64 n1, .int .i64 s1, .int .i64 s2, .bool ok, .str (bs x), S], .agg [.int .i64 k1', .int .i64 k2', .int .i64 k3', .int .i64 k4', .int .u64 (C' : Int), .int .i64 n1', .int .i64 s1', .int .i64 s2', .bool ok', .str (bs x'), S'], .tup [], .tup [], .tup [], .tup [], .tup [], .tup [], .tup [], .tup [], .tup [], .tup [], .tup [], .tup [], .tup [], .tup [], .tup [], .tup [], .tup [], .tup [], .tup [], .tup [], .tup [], .tup [], .tup [], .tup [], .tup [], .tup [], .tup [], .tup [], .tup [], .tup [], .tup [], .tup [], .tup [], .tup [], .tup [], .tup [], .tup [], .tup [], .tup [], .tup [], .tup [], .tup [], .tup [], .tup [], .tup [], .tup [], .tup [], .tup [], .tup [], .tup [], .tup [], .tup [], .tup [], .tup [], .tup [], .tup [], .tup [], .tup [], .tup [], .tup [], .tup [], .tup [], .tup [], .tup [], .tup [], .tup [], .tup [], .tup [], .tup [], .tup [], .tup []] _ _ from ?_)
                unfold b52
                repeat' (first
                  | (refine wNil ?_) | (refine xPure ?_)
                  | (refine xMk ?_; intro id hid; (try simp only [set_none_iff] at hid); have hz := hid; (repeat (replace hz := hz.2)); (try have := Up.none hu0 hz); refine mkDo ?_)
                  | (refine xChk ?_) | (refine xChkF ?_) | (refine xSkip ?_)
                  | (refine cSeq ?_) | (refine cNorm ?_) | (refine cRet ?_) | (refine cExit ?_) | (refine W_reg rfl ?_) | (refine W_block ?_) | (refine W_ret ?_) | (refine W_skip ?_) | (refine W_exit ?_) | (refine bNorm ?_) | (refine bRet ?_) | (refine bExit ?_) | (refine bExitN rfl ?_)
                  | (refine xMask ?_) | (refine xT ?_) | (refine xF ?_) | (refine xRet ?_) | (refine xNorm ?_)
                  | (refine wSplit _ rfl (by (first | (simp only [go_sem, *]; (first | done | exact rfl)) | rfl)) ?_ ?_ <;> intro hb <;> (try simp only [beq_false, beq_true, Bool.not_true, Bool.not_false, Bool.not_eq_true', Bool.not_eq_false', decide_eq_false_iff_not, decide_eq_true_eq, bne_iff_ne, beq_iff_eq, Bool.true_eq, Bool.false_eq, Bool.not_not, Bool.and_eq_true, Bool.or_eq_true, Bool.bne_true, Bool.bne_false, bne_eq_false_iff_eq, beq_eq_false_iff_ne, ne_eq] at hb))
                  | (refine W_cond _ (by (first | (simp only [go_sem, *]; (first | done | exact rfl)) | rfl)) ?_ ?_ <;> intro hb <;> (try simp only [beq_false, beq_true, Bool.not_true, Bool.not_false, Bool.not_eq_true', Bool.not_eq_false', decide_eq_false_iff_not, decide_eq_true_eq, bne_iff_ne, beq_iff_eq, Bool.true_eq, Bool.false_eq, Bool.not_not, Bool.and_eq_true, Bool.or_eq_true, Bool.bne_true, Bool.bne_false, bne_eq_false_iff_eq, beq_eq_false_iff_ne, ne_eq] at hb)))
                all_goals exact ⟨rfl, (by repeat' (first | assumption | exact Up.refl _ | refine Up.new ?_ ?_))⟩
              | true =>
                cases B7 : (ok == ok') with
                | false =>
                  have e : sameB k1 k2 k3 k4 C n1 s1 s2 ok x L k1' k2' k3' k4' C' n1' s1' s2' ok' x' L' = false := by unfold sameB; rw [B0, B1, B2, B3, B4, B5, B6, B7]; rfl
                  rw [e]
                  clear e
                  refine Sp_of (fn := f52) rfl (show W T b52 [.agg [.int .i64 k1, .int .i64 k2, .int .i64 k3, .int .i64 k4, .int .u64 (C : Int), .int .i64 n1, .int .i64 s1, .int .i64 s2, .bool ok, .str (bs x), S], .agg [.int .i64 k1', .int .i64 k2', .int .i64 k3', .int .i64 k4', .int .u64 (C' : Int), .int .i64 n1', .int .i64 s1', .int .i64 s2', .bool ok', .str (bs x'), S'], .tup [], .tup [], .tup [], .tup [], .tup [], .tup [], .tup [], .tup [], .tup [], .tup [], .tup [], .tup [], .tup [], .tup [], .tup [], .tup [], .tup [], .tup [], .tup [], .tup [], .tup [], .tup [], .tup [], .tup [], .tup [], .tup [], .tup [], .tup [], .tup [], .tup [], .tup [], .tup [], .tup [], .tup [], .tup [], .tup [], .tup [], .tup [], .tup [], .tup [], .tup [], .tup [], .tup [], .tup [], .tup [], .tup [], .tup [], .tup [], .tup [], .tup [], .tup [], .tup [], .tup [], .tup [], .tup [], .tup [], .tup [], .tup [], .tup [], .tup [], .tup [], .tup [], .tup [], .tup [], .tup [], .tup [], .tup [], .tup [], .tup [], .tup [], .tup []] _ _ from ?_)
                  unfold b52
                  repeat' (first
                    | (refine wNil ?_) | (refine xPure ?_)
                    | (refine xMk ?_; intro id hid; (try simp only [set_none_iff] at hid); have hz := hid; (repeat (replace hz := hz.2)); (try have := Up.none hu0 hz); refine mkDo ?_)
                    | (refine xChk ?_) | (refine xChkF ?_) | (refine xSkip ?_)
                    | (refine cSeq ?_) | (refine cNorm ?_) | (refine cRet ?_) | (refine cExit ?_) | (refine W_reg rfl ?_) | (refine W_block ?_) | (refine W_ret ?_) | (refine W_skip ?_) | (refine W_exit ?_) | (refine bNorm ?_) | (refine bRet ?_) | (refine bExit ?_) | (refine bExitN rfl ?_)
                    | (refine xMask ?_) | (refine xT ?_) | (refine xF ?_) | (refine xRet ?_) | (refine xNorm ?_)
                    | (refine wSplit _ rfl (by (first | (simp only [go_sem, *]; (first | done | exact rfl)) | rfl)) ?_ ?_ <;> intro hb <;> (try simp only [beq_false, beq_true, Bool.not_true, Bool.not_false, Bool.not_eq_true', Bool.not_eq_false', decide_eq_false_iff_not, decide_eq_true_eq, bne_iff_ne, beq_iff_eq, Bool.true_eq, Bool.false_eq, Bool.not_not, Bool.and_eq_true, Bool.or_eq_true, Bool.bne_true, Bool.bne_false, bne_eq_false_iff_eq, beq_eq_false_iff_ne, ne_eq] at hb))
                    | (refine W_cond _ (by (first | (simp only [go_sem, *]; (first | done | exact rfl)) | rfl)) ?_ ?_ <;> intro hb <;> (try simp only [beq_false, beq_true, Bool.not_true, Bool.not_false, Bool.not_eq_true', Bool.not_eq_false', decide_eq_false_iff_not, decide_eq_true_eq, bne_iff_ne, beq_iff_eq, Bool.true_eq, Bool.false_eq, Bool.not_not, Bool.and_eq_true, Bool.or_eq_true, Bool.bne_true, Bool.bne_false, bne_eq_false_iff_eq, beq_eq_false_iff_ne, ne_eq] at hb)))
                  all_goals exact ⟨rfl, (by repeat' (first | assumption | exact Up.refl _ | refine Up.new ?_ ?_))⟩
                | true =>
                  cases B8 : (x == x') with
                  | false =>
                    have e : sameB k1 k2 k3 k4 C n1 s1 s2 ok x L k1' k2' k3' k4' C' n1' s1' s2' ok' x' L' = false := by unfold sameB; rw [B0, B1, B2, B3, B4, B5, B6, B7, B8]; rfl
                    rw [e]
                    clear e
                    refine Sp_of (fn := f52) rfl (show W T b52 [.agg [.int .i64 k1, .int .i64 k2, .int .i64 k3, .int .i64 k4, .int .u64 (C : Int), .int .i64 n1, .int .i64 s1, .int .i64 s2, .bool ok, .str (bs x), S], .agg [.int .i64 k1', .int .i64 k2', .int .i64 k3', .int .i64 k4', .int .u64 (C' : Int), .int .i64 n1', .int .i64 s1', .int .i64 s2', .bool ok', .str (bs x'), S'], .tup [], .tup [], .tup [], .tup [], .tup [], .tup [], .tup [], .tup [], .tup [], .tup [], .tup [], .tup [], .tup [], .tup [], .tup [], .tup [], .tup [], .tup [], .tup [], .tup [], .tup [], .tup [], .tup [], .tup [], .tup [], .tup [], .tup [], .tup [], .tup [], .tup [], .tup [], .tup [], .tup [], .tup [], .tup [], .tup [], .tup [], .tup [], .tup [], .tup [], .tup [], .tup [], .tup [], .tup [], .tup [], .tup [], .tup [], .tup [], .tup [], .tup [], .tup [], .tup [], .tup [], .tup [], .tup [], .tup [], .tup [], .tup [], .tup [], .tup [], .tup [], .tup [], .tup [], .tup [], .tup [], .tup [], .tup [], .tup [], .tup [], .tup [], .tup []] _ _ from ?_)
                    unfold b52
                    repeat' (first
                      | (refine wNil ?_) | (refine xPure ?_)
                      | (refine xMk ?_; intro id hid; (try simp only [set_none_iff] at hid); have hz := hid; (repeat (replace hz := hz.2)); (try have := Up.none hu0 hz); refine mkDo ?_)
                      | (refine xChk ?_) | (refine xChkF ?_) | (refine xSkip ?_)
                      | (refine cSeq ?_) | (refine cNorm ?_) | (refine cRet ?_) | (refine cExit ?_) | (refine W_reg rfl ?_) | (refine W_block ?_) | (refine W_ret ?_) | (refine W_skip ?_) | (refine W_exit ?_) | (refine bNorm ?_) | (refine bRet ?_) | (refine bExit ?_) | (refine bExitN rfl ?_)
                      | (refine xMask ?_) | (refine xT ?_) | (refine xF ?_) | (refine xRet ?_) | (refine xNorm ?_)
                      | (refine wSplit _ rfl (by (first | (simp only [go_sem, *]; (first | done | exact rfl)) | rfl)) ?_ ?_ <;> intro hb <;> (try simp only [beq_false, beq_true, Bool.not_true, Bool.not_false, Bool.not_eq_true', Bool.not_eq_false', decide_eq_false_iff_not, decide_eq_true_eq, bne_iff_ne, beq_iff_eq, Bool.true_eq, Bool.false_eq, Bool.not_not, Bool.and_eq_true, Bool.or_eq_true, Bool.bne_true, Bool.bne_false, bne_eq_false_iff_eq, beq_eq_false_iff_ne, ne_eq] at hb))
                      | (refine W_cond _ (by (first | (simp only [go_sem, *]; (first | done | exact rfl)) | rfl)) ?_ ?_ <;> intro hb <;> (try simp only [beq_false, beq_true, Bool.not_true, Bool.not_false, Bool.not_eq_true', Bool.not_eq_false', decide_eq_false_iff_not, decide_eq_true_eq, bne_iff_ne, beq_iff_eq, Bool.true_eq, Bool.false_eq, Bool.not_not, Bool.and_eq_true, Bool.or_eq_true, Bool.bne_true, Bool.bne_false, bne_eq_false_iff_eq, beq_eq_false_iff_ne, ne_eq] at hb)))
                    all_goals exact ⟨rfl, (by repeat' (first | assumption | exact Up.refl _ | refine Up.new ?_ ?_))⟩
                  | true =>
                    have e : sameB k1 k2 k3 k4 C n1 s1 s2 ok x L k1' k2' k3' k4' C' n1' s1' s2' ok' x' L' = decide (L = L') := by unfold sameB; rw [B0, B1, B2, B3, B4, B5, B6, B7, B8]; rfl
                    rw [e]
                    clear e
                    refine Sp_of (fn := f52) rfl (show W T b52 [.agg [.int .i64 k1, .int .i64 k2, .int .i64 k3, .int .i64 k4, .int .u64 (C : Int), .int .i64 n1, .int .i64 s1, .int .i64 s2, .bool ok, .str (bs x), S], .agg [.int .i64 k1', .int .i64 k2', .int .i64 k3', .int .i64 k4', .int .u64 (C' : Int), .int .i64 n1', .int .i64 s1', .int .i64 s2', .bool ok', .str (bs x'), S'], .tup [], .tup [], .tup [], .tup [], .tup [], .tup [], .tup [], .tup [], .tup [], .tup [], .tup [], .tup [], .tup [], .tup [], .tup [], .tup [], .tup [], .tup [], .tup [], .tup [], .tup [], .tup [], .tup [], .tup [], .tup [], .tup [], .tup [], .tup [], .tup [], .tup [], .tup [], .tup [], .tup [], .tup [], .tup [], .tup [], .tup [], .tup [], .tup [], .tup [], .tup [], .tup [], .tup [], .tup [], .tup [], .tup [], .tup [], .tup [], .tup [], .tup [], .tup [], .tup [], .tup [], .tup [], .tup [], .tup [], .tup [], .tup [], .tup [], .tup [], .tup [], .tup [], .tup [], .tup [], .tup [], .tup [], .tup [], .tup [], .tup [], .tup [], .tup []] _ _ from ?_)
                    unfold b52
                    repeat' (first
                      | (refine wNil ?_) | (refine xPure ?_)
                      | (refine xMk ?_; intro id hid; (try simp only [set_none_iff] at hid); have hz := hid; (repeat (replace hz := hz.2)); (try have := Up.none hu0 hz); refine mkDo ?_)
                      | (refine xChk ?_) | (refine xChkF ?_) | (refine xSkip ?_)
                      | (refine xCall rfl rfl (sp77 S S' L L' _ (hS.up (by repeat' (first | assumption | exact Up.refl _ | refine Up.new ?_ ?_))) (hS'.up (by repeat' (first | assumption | exact Up.refl _ | refine Up.new ?_ ?_))) hl) ?_; rintro v j ⟨rfl, hx⟩; cases hx; refine nTm ?_)
                      | (refine cSeq ?_) | (refine cNorm ?_) | (refine cRet ?_) | (refine cExit ?_) | (refine W_reg rfl ?_) | (refine W_block ?_) | (refine W_ret ?_) | (refine W_skip ?_) | (refine W_exit ?_) | (refine bNorm ?_) | (refine bRet ?_) | (refine bExit ?_) | (refine bExitN rfl ?_)
                      | (refine xMask ?_) | (refine xT ?_) | (refine xF ?_) | (refine xRet ?_) | (refine xNorm ?_)
                      | (refine wSplit _ rfl (by (first | (simp only [go_sem, *]; (first | done | exact rfl)) | rfl)) ?_ ?_ <;> intro hb <;> (try simp only [beq_false, beq_true, Bool.not_true, Bool.not_false, Bool.not_eq_true', Bool.not_eq_false', decide_eq_false_iff_not, decide_eq_true_eq, bne_iff_ne, beq_iff_eq, Bool.true_eq, Bool.false_eq, Bool.not_not, Bool.and_eq_true, Bool.or_eq_true, Bool.bne_true, Bool.bne_false, bne_eq_false_iff_eq, beq_eq_false_iff_ne, ne_eq] at hb))
                      | (refine W_cond _ (by (first | (simp only [go_sem, *]; (first | done | exact rfl)) | rfl)) ?_ ?_ <;> intro hb <;> (try simp only [beq_false, beq_true, Bool.not_true, Bool.not_false, Bool.not_eq_true', Bool.not_eq_false', decide_eq_false_iff_not, decide_eq_true_eq, bne_iff_ne, beq_iff_eq, Bool.true_eq, Bool.false_eq, Bool.not_not, Bool.and_eq_true, Bool.or_eq_true, Bool.bne_true, Bool.bne_false, bne_eq_false_iff_eq, beq_eq_false_iff_ne, ne_eq] at hb)))
                    all_goals exact ⟨rfl, (by repeat' (first | assumption | exact Up.refl _ | refine Up.new ?_ ?_))⟩
end Go.Proofs.YtgekngfnhhdamaaI
set_option linter.unusedVariables false
set_option linter.unusedSimpArgs false
set_option maxRecDepth 100000
set_option maxHeartbeats 4000000
namespace Go.Proofs.YtgekngfnhhdamaaI
open Go Go.Proofs.YtgekngfnhhdamaaM
attribute [local go_sem] aop ev fg_slc fg_slk fg_ptr fg_bool fg_int fg_str fg_iface fg_func fg_agg fg_tup fg_nils fg_nilp fg_nilI fg_nilF fg_und aboundsK alen_nils alen_slc alen_slk aslice_nils aslice_slc aslice_slk awanted abin aun aint aeqn aeqc aeqs apart abounds abnd amaxi amaxiGo cells_agg cells_slc cells_slk cells_ptr cells_bool cells_int cells_str cells_iface cells_func cells_tup cells_nils cells_nilp cells_nilI cells_nilF cells_und sc_slc sc_slk sc_ptr sc_bool sc_int sc_str sc_iface sc_func sc_nils sc_nilp sc_nilI sc_nilF gd_zero gd_succ List.all_cons List.all_nil Bool.and_self Bool.and_true Bool.true_and List.length_cons List.length_nil Option.map_some Option.some.injEq cell_same cell_ne cell_ne' cellsAt_same cellsAt_ne cellsAt_ne' put_same put_of set_same set_ne set_ne' List.getElem?_cons_zero List.getElem?_cons_succ if_true if_false and_self and_true true_and ne_eq not_true_eq_false not_false_eq_true decide_true decide_false Bool.false_eq_true Bool.true_eq_false beq_self_eq_true bne_self_eq_false beq_true beq_false Bool.not_true Bool.not_false List.map_cons List.map_nil putL List.set_cons_zero List.set_cons_succ afill Nat.zero_le Nat.le_refl Nat.zero_add Nat.add_zero List.drop_zero List.drop_succ_cons List.take_zero List.take_succ_cons Bool.not_eq_true Bool.not_eq_false decide_eq_true_eq decide_eq_false_iff_not Int.toNat_zero Nat.sub_zero Int.toNat_natCast Bool.bne_true Bool.bne_false AH.cell AH.cellsAt AH.put Nat.mul_one Nat.one_mul Int.natCast_nonneg List.length_set bs_append bs_size bs_toList bs_extract bs_get List.cons_append List.nil_append List.append_nil Nat.sub_zero bne_self_eq_false beq_self_eq_true azeros Int.le_refl
/-- Do slots rise? -/
def ris : Int → List En → Bool
  | _, [] => true
  | last, y :: L => decide (last < y.1) && ris y.1 L
end Go.Proofs.YtgekngfnhhdamaaI
set_option linter.unusedVariables false
set_option linter.unusedSimpArgs false
set_option maxRecDepth 100000
set_option maxHeartbeats 4000000
namespace Go.Proofs.YtgekngfnhhdamaaI
open Go Go.Proofs.YtgekngfnhhdamaaM
attribute [local go_sem] aop ev fg_slc fg_slk fg_ptr fg_bool fg_int fg_str fg_iface fg_func fg_agg fg_tup fg_nils fg_nilp fg_nilI fg_nilF fg_und aboundsK alen_nils alen_slc alen_slk aslice_nils aslice_slc aslice_slk awanted abin aun aint aeqn aeqc aeqs apart abounds abnd amaxi amaxiGo cells_agg cells_slc cells_slk cells_ptr cells_bool cells_int cells_str cells_iface cells_func cells_tup cells_nils cells_nilp cells_nilI cells_nilF cells_und sc_slc sc_slk sc_ptr sc_bool sc_int sc_str sc_iface sc_func sc_nils sc_nilp sc_nilI sc_nilF gd_zero gd_succ List.all_cons List.all_nil Bool.and_self Bool.and_true Bool.true_and List.length_cons List.length_nil Option.map_some Option.some.injEq cell_same cell_ne cell_ne' cellsAt_same cellsAt_ne cellsAt_ne' put_same put_of set_same set_ne set_ne' List.getElem?_cons_zero List.getElem?_cons_succ if_true if_false and_self and_true true_and ne_eq not_true_eq_false not_false_eq_true decide_true decide_false Bool.false_eq_true Bool.true_eq_false beq_self_eq_true bne_self_eq_false beq_true beq_false Bool.not_true Bool.not_false List.map_cons List.map_nil putL List.set_cons_zero List.set_cons_succ afill Nat.zero_le Nat.le_refl Nat.zero_add Nat.add_zero List.drop_zero List.drop_succ_cons List.take_zero List.take_succ_cons Bool.not_eq_true Bool.not_eq_false decide_eq_true_eq decide_eq_false_iff_not Int.toNat_zero Nat.sub_zero Int.toNat_natCast Bool.bne_true Bool.bne_false AH.cell AH.cellsAt AH.put Nat.mul_one Nat.one_mul Int.natCast_nonneg List.length_set bs_append bs_size bs_toList bs_extract bs_get List.cons_append List.nil_append List.append_nil Nat.sub_zero bne_self_eq_false beq_self_eq_true azeros Int.le_refl
def p4 (y : En) : Bool := decide (y.2.2.2.length ≤ 400)
def p2 (y : En) : Bool := snd y.2.1 y.2.2.1 && decide (0 ≤ y.1 ∧ y.1 ≤ 1099511627776)
def r4 (L : List En) : Int := if ris (-1) L then 0 else 4
def r3 (L : List En) : Int := if L.all p4 then r4 L else 6
def r2 (x : List UInt8) (L : List En) : Int := if x.length ≤ 131072 ∧ L.length ≤ 64 then r3 L else 6
def r1 (x : List UInt8) (L : List En) : Int := if L.all p2 then r2 x L else 2
end Go.Proofs.YtgekngfnhhdamaaI
set_option linter.unusedVariables false
set_option linter.unusedSimpArgs false
set_option maxRecDepth 100000
set_option maxHeartbeats 4000000
namespace Go.Proofs.YtgekngfnhhdamaaI
open Go Go.Proofs.YtgekngfnhhdamaaM
attribute [local go_sem] aop ev fg_slc fg_slk fg_ptr fg_bool fg_int fg_str fg_iface fg_func fg_agg fg_tup fg_nils fg_nilp fg_nilI fg_nilF fg_und aboundsK alen_nils alen_slc alen_slk aslice_nils aslice_slc aslice_slk awanted abin aun aint aeqn aeqc aeqs apart abounds abnd amaxi amaxiGo cells_agg cells_slc cells_slk cells_ptr cells_bool cells_int cells_str cells_iface cells_func cells_tup cells_nils cells_nilp cells_nilI cells_nilF cells_und sc_slc sc_slk sc_ptr sc_bool sc_int sc_str sc_iface sc_func sc_nils sc_nilp sc_nilI sc_nilF gd_zero gd_succ List.all_cons List.all_nil Bool.and_self Bool.and_true Bool.true_and List.length_cons List.length_nil Option.map_some Option.some.injEq cell_same cell_ne cell_ne' cellsAt_same cellsAt_ne cellsAt_ne' put_same put_of set_same set_ne set_ne' List.getElem?_cons_zero List.getElem?_cons_succ if_true if_false and_self and_true true_and ne_eq not_true_eq_false not_false_eq_true decide_true decide_false Bool.false_eq_true Bool.true_eq_false beq_self_eq_true bne_self_eq_false beq_true beq_false Bool.not_true Bool.not_false List.map_cons List.map_nil putL List.set_cons_zero List.set_cons_succ afill Nat.zero_le Nat.le_refl Nat.zero_add Nat.add_zero List.drop_zero List.drop_succ_cons List.take_zero List.take_succ_cons Bool.not_eq_true Bool.not_eq_false decide_eq_true_eq decide_eq_false_iff_not Int.toNat_zero Nat.sub_zero Int.toNat_natCast Bool.bne_true Bool.bne_false AH.cell AH.cellsAt AH.put Nat.mul_one Nat.one_mul Int.natCast_nonneg List.length_set bs_append bs_size bs_toList bs_extract bs_get List.cons_append List.nil_append List.append_nil Nat.sub_zero bne_self_eq_false beq_self_eq_true azeros Int.le_refl
/-- The document's Check. -/
def chk (k1 k2 k3 k4 : Int) (C : Nat) (n1 s1 s2 : Int) (x : List UInt8) (L : List En) : Int :=
  if decide (1 ≤ k1 ∧ k1 ≤ 13) then (if decide (0 ≤ k2 ∧ k2 ≤ 11) then (if decide (0 ≤ k3 ∧ k3 ≤ 11) then (if decide (0 ≤ k4 ∧ k4 ≤ 3) then (if snd C n1 then (if decide (0 ≤ s1 ∧ s1 ≤ 1099511627776) then (if decide (0 ≤ s2 ∧ s2 ≤ 1099511627776) then r1 x L else 2) else 2) else 2) else 2) else 2) else 2) else 1
end Go.Proofs.YtgekngfnhhdamaaI
set_option linter.unusedVariables false
set_option linter.unusedSimpArgs false
set_option maxRecDepth 100000
set_option maxHeartbeats 4000000
namespace Go.Proofs.YtgekngfnhhdamaaI
open Go Go.Proofs.YtgekngfnhhdamaaM
attribute [local go_sem] aop ev fg_slc fg_slk fg_ptr fg_bool fg_int fg_str fg_iface fg_func fg_agg fg_tup fg_nils fg_nilp fg_nilI fg_nilF fg_und aboundsK alen_nils alen_slc alen_slk aslice_nils aslice_slc aslice_slk awanted abin aun aint aeqn aeqc aeqs apart abounds abnd amaxi amaxiGo cells_agg cells_slc cells_slk cells_ptr cells_bool cells_int cells_str cells_iface cells_func cells_tup cells_nils cells_nilp cells_nilI cells_nilF cells_und sc_slc sc_slk sc_ptr sc_bool sc_int sc_str sc_iface sc_func sc_nils sc_nilp sc_nilI sc_nilF gd_zero gd_succ List.all_cons List.all_nil Bool.and_self Bool.and_true Bool.true_and List.length_cons List.length_nil Option.map_some Option.some.injEq cell_same cell_ne cell_ne' cellsAt_same cellsAt_ne cellsAt_ne' put_same put_of set_same set_ne set_ne' List.getElem?_cons_zero List.getElem?_cons_succ if_true if_false and_self and_true true_and ne_eq not_true_eq_false not_false_eq_true decide_true decide_false Bool.false_eq_true Bool.true_eq_false beq_self_eq_true bne_self_eq_false beq_true beq_false Bool.not_true Bool.not_false List.map_cons List.map_nil putL List.set_cons_zero List.set_cons_succ afill Nat.zero_le Nat.le_refl Nat.zero_add Nat.add_zero List.drop_zero List.drop_succ_cons List.take_zero List.take_succ_cons Bool.not_eq_true Bool.not_eq_false decide_eq_true_eq decide_eq_false_iff_not Int.toNat_zero Nat.sub_zero Int.toNat_natCast Bool.bne_true Bool.bne_false AH.cell AH.cellsAt AH.put Nat.mul_one Nat.one_mul Int.natCast_nonneg List.length_set bs_append bs_size bs_toList bs_extract bs_get List.append_nil Nat.sub_zero bne_self_eq_false beq_self_eq_true azeros Int.le_refl
/-- the document's ballot's Put -/
theorem sp36 (C : Nat) (n : Int) (h : AH) (hC : C ≤ 18446744073709551615) (hn : n ≤ 9223372036854775807) : Sp T 36 [.agg [.int .u64 C, .int .i64 n]] h (fun r h' => r = .str (bs (encU C ++ encN n)) ∧ Up h h') := by
  have a1 : ¬ IntKind.i64.max < (((encU C).length + (encN n).length : Nat) : Int) := by
    have h1 := encU_length C
    have h2 : (encN n).length ≤ 9 := encU_length n.toNat
    have e : IntKind.i64.max = 9223372036854775807 := by decide
    rw [e]; omega
  refine Sp_of (fn := f36) rfl (show W T b36 [.agg [.int .u64 C, .int .i64 n], .tup [], .tup [], .tup [], .tup [], .tup [], .tup [], .tup [], .tup [], .tup []] _ _ from ?_)
  unfold b36
  repeat' (first
    | (refine wNil ?_) | (refine xPure ?_)
    | (refine xMk ?_; intro id hid; (try simp only [set_none_iff] at hid); refine mkDo ?_)
    | (refine xChk ?_) | (refine xChkF ?_) | (refine xSkip ?_)
    | (refine xCall rfl rfl (sp57 C _ hC) ?_; rintro v j2 ⟨rfl, hu2⟩; have hb : j2 id = some ⟨true, [.int .u64 C, .int .i64 n]⟩ := (by first | exact hu2 _ _ set_same | exact hu2 _ _ hb); have HU : Up h j2 := (by first | exact fun z b e => hu2 z b (by rw [set_ne (nei e hid)]; exact e) | exact fun z b e => hu2 z b (HU z b e)); refine nTm ?_)
    | (refine xCall rfl rfl (sp58 n _ hn) ?_; rintro v j3 ⟨rfl, hu3⟩; have hb : j3 id = some ⟨true, [.int .u64 C, .int .i64 n]⟩ := (by first | exact hu3 _ _ set_same | exact hu3 _ _ hb); have HU : Up h j3 := (by first | exact fun z b e => hu3 z b (by rw [set_ne (nei e hid)]; exact e) | exact fun z b e => hu3 z b (HU z b e)); refine nTm ?_)
    | (refine cSeq ?_) | (refine cNorm ?_) | (refine cRet ?_) | (refine cExit ?_) | (refine W_reg rfl ?_) | (refine W_block ?_) | (refine W_ret ?_) | (refine W_skip ?_) | (refine W_exit ?_) | (refine bNorm ?_) | (refine bRet ?_) | (refine bExit ?_) | (refine bExitN rfl ?_)
    | (refine xMask ?_) | (refine xT ?_) | (refine xF ?_) | (refine xRet ?_) | (refine xNorm ?_)
    | (refine wSplit _ rfl (by (first | (simp only [go_sem, *]; (first | done | exact rfl)) | rfl)) ?_ ?_ <;> intro hb <;> (try simp only [beq_false, beq_true, Bool.not_true, Bool.not_false, Bool.not_eq_true', Bool.not_eq_false', decide_eq_false_iff_not, decide_eq_true_eq, bne_iff_ne, beq_iff_eq, Bool.true_eq, Bool.false_eq, Bool.not_not, Bool.and_eq_true, Bool.or_eq_true, Bool.bne_true, Bool.bne_false, bne_eq_false_iff_eq, beq_eq_false_iff_ne, ne_eq] at hb))
    | (refine W_cond _ (by (first | (simp only [go_sem, *]; (first | done | exact rfl)) | rfl)) ?_ ?_ <;> intro hb <;> (try simp only [beq_false, beq_true, Bool.not_true, Bool.not_false, Bool.not_eq_true', Bool.not_eq_false', decide_eq_false_iff_not, decide_eq_true_eq, bne_iff_ne, beq_iff_eq, Bool.true_eq, Bool.false_eq, Bool.not_not, Bool.and_eq_true, Bool.or_eq_true, Bool.bne_true, Bool.bne_false, bne_eq_false_iff_eq, beq_eq_false_iff_ne, ne_eq] at hb)))
  all_goals exact ⟨rfl, HU⟩
end Go.Proofs.YtgekngfnhhdamaaI
set_option linter.unusedVariables false
set_option linter.unusedSimpArgs false
set_option maxRecDepth 100000
set_option maxHeartbeats 4000000
namespace Go.Proofs.YtgekngfnhhdamaaI
open Go Go.Proofs.YtgekngfnhhdamaaM
attribute [local go_sem] aop ev fg_slc fg_slk fg_ptr fg_bool fg_int fg_str fg_iface fg_func fg_agg fg_tup fg_nils fg_nilp fg_nilI fg_nilF fg_und aboundsK alen_nils alen_slc alen_slk aslice_nils aslice_slc aslice_slk awanted abin aun aint aeqn aeqc aeqs apart abounds abnd amaxi amaxiGo cells_agg cells_slc cells_slk cells_ptr cells_bool cells_int cells_str cells_iface cells_func cells_tup cells_nils cells_nilp cells_nilI cells_nilF cells_und sc_slc sc_slk sc_ptr sc_bool sc_int sc_str sc_iface sc_func sc_nils sc_nilp sc_nilI sc_nilF gd_zero gd_succ List.all_cons List.all_nil Bool.and_self Bool.and_true Bool.true_and List.length_cons List.length_nil Option.map_some Option.some.injEq cell_same cell_ne cell_ne' cellsAt_same cellsAt_ne cellsAt_ne' put_same put_of set_same set_ne set_ne' List.getElem?_cons_zero List.getElem?_cons_succ if_true if_false and_self and_true true_and ne_eq not_true_eq_false not_false_eq_true decide_true decide_false Bool.false_eq_true Bool.true_eq_false beq_self_eq_true bne_self_eq_false beq_true beq_false Bool.not_true Bool.not_false List.map_cons List.map_nil putL List.set_cons_zero List.set_cons_succ afill Nat.zero_le Nat.le_refl Nat.zero_add Nat.add_zero List.drop_zero List.drop_succ_cons List.take_zero List.take_succ_cons Bool.not_eq_true Bool.not_eq_false decide_eq_true_eq decide_eq_false_iff_not Int.toNat_zero Nat.sub_zero Int.toNat_natCast Bool.bne_true Bool.bne_false AH.cell AH.cellsAt AH.put Nat.mul_one Nat.one_mul Int.natCast_nonneg List.length_set bs_append bs_size bs_toList bs_extract bs_get List.append_nil Nat.sub_zero bne_self_eq_false beq_self_eq_true azeros Int.le_refl
def enE (y : En) : List UInt8 := encN y.1 ++ (encU y.2.1 ++ encN y.2.2.1) ++ encS y.2.2.2
def okE (y : En) : Prop := y.1 ≤ 9223372036854775807 ∧ y.2.1 ≤ 18446744073709551615 ∧ y.2.2.1 ≤ 9223372036854775807 ∧ y.2.2.2.length ≤ 1000
theorem encS_len (s : List UInt8) : (encS s).length ≤ 9 + s.length := by
  have a := encU_length ((s.length : Int).toNat)
  have e : (encS s).length = (encN (s.length : Int)).length + s.length := by show (encN _ ++ _).length = _; rw [List.length_append]
  have f : (encN (s.length : Int)).length ≤ 9 := a
  omega
theorem enE_len {y : En} (h : okE y) : (enE y).length ≤ 1036 := by
  have a := encU_length y.1.toNat
  have b := encU_length y.2.1
  have c := encU_length y.2.2.1.toNat
  have d := encS_len y.2.2.2
  have e := h.2.2.2
  have f : (encN y.1).length ≤ 9 := a
  have i : (encN y.2.2.1).length ≤ 9 := c
  unfold enE
  rw [List.length_append, List.length_append, List.length_append]; omega
theorem enL_len {L : List En} (h : ∀ y ∈ L, okE y) : (L.flatMap enE).length ≤ 1036 * L.length := by
  induction L with
  | nil => simp
  | cons y L ih =>
    have a := enE_len (h y (by simp))
    have b := ih (fun z hz => h z (by simp [hz]))
    rw [List.flatMap_cons, List.length_append, List.length_cons]; omega
def hdI (k2 k3 k4 : Int) (C : Nat) (n1 s1 s2 : Int) (ok : Bool) (x : List UInt8) (n : Nat) : List UInt8 := ((((((((encN k2 ++ encN k3) ++ encN k4) ++ (encU C ++ encN n1)) ++ encN s1) ++ encN s2) ++ encB ok) ++ encS x) ++ encN (n : Int))
def inI (k2 k3 k4 : Int) (C : Nat) (n1 s1 s2 : Int) (ok : Bool) (x : List UInt8) (L : List En) : List UInt8 := hdI k2 k3 k4 C n1 s1 s2 ok x L.length ++ L.flatMap enE
theorem mx : IntKind.i64.max = 9223372036854775807 := by decide
/-- Inside -/
theorem sp76g (k1 k2 k3 k4 : Int) (C : Nat) (n1 s1 s2 : Int) (ok : Bool) (x : List UInt8) (S : AV) (L : List En) (h : AH) (hS : Lg h S L) (hl : L.length ≤ 1000) (hx : x.length ≤ 1048576) (b1 : k2 ≤ 9223372036854775807) (b2 : k3 ≤ 9223372036854775807) (b3 : k4 ≤ 9223372036854775807) (bC : C ≤ 18446744073709551615) (b4 : n1 ≤ 9223372036854775807) (b5 : s1 ≤ 9223372036854775807) (b6 : s2 ≤ 9223372036854775807) (hL : ∀ y ∈ L, okE y) :
    Sp T 76 [.agg [.int .i64 k1, .int .i64 k2, .int .i64 k3, .int .i64 k4, .int .u64 (C : Int), .int .i64 n1, .int .i64 s1, .int .i64 s2, .bool ok, .str (bs x), S]] h (fun v h' => v = .str (bs (inI k2 k3 k4 C n1 s1 s2 ok x L)) ∧ Up h h') := by
  have b7 : (L.length : Int) ≤ 9223372036854775807 := by omega
  have hSl := hS.len
  have hSc := hS.sc.2
  have l1 : (encN k2).length ≤ 9 := encU_length k2.toNat
  have l2 : (encN k3).length ≤ 9 := encU_length k3.toNat
  have l3 : (encN k4).length ≤ 9 := encU_length k4.toNat
  have l4 : (encN s1).length ≤ 9 := encU_length s1.toNat
  have l5 : (encN s2).length ≤ 9 := encU_length s2.toNat
  have l6 : (encN (L.length : Int)).length ≤ 9 := encU_length (L.length : Int).toNat
  have l7 := encS_len x
  have l8 : (encB ok).length = 1 := rfl
  have l9 := enL_len hL
  obtain ⟨EB, hEB⟩ : ∃ EB, encU C ++ encN n1 = EB := ⟨_, rfl⟩
  have l10 : EB.length ≤ 18 := by
    have a := encU_length C
    have b : (encN n1).length ≤ 9 := encU_length n1.toNat
    rw [← hEB, List.length_append]; omega
  have f0 : ¬ IntKind.i64.max < (((encN k2).length + (encN k3).length : Nat) : Int) := by rw [mx]; (try simp only [List.length_append]); omega
  have f1 : ¬ IntKind.i64.max < ((((encN k2 ++ encN k3)).length + (encN k4).length : Nat) : Int) := by rw [mx]; (try simp only [List.length_append]); omega
  have f2 : ¬ IntKind.i64.max < (((((encN k2 ++ encN k3) ++ encN k4)).length + (EB).length : Nat) : Int) := by rw [mx]; (try simp only [List.length_append]); omega
  have f3 : ¬ IntKind.i64.max < ((((((encN k2 ++ encN k3) ++ encN k4) ++ EB)).length + (encN s1).length : Nat) : Int) := by rw [mx]; (try simp only [List.length_append]); omega
  have f4 : ¬ IntKind.i64.max < (((((((encN k2 ++ encN k3) ++ encN k4) ++ EB) ++ encN s1)).length + (encN s2).length : Nat) : Int) := by rw [mx]; (try simp only [List.length_append]); omega
  have f5 : ¬ IntKind.i64.max < ((((((((encN k2 ++ encN k3) ++ encN k4) ++ EB) ++ encN s1) ++ encN s2)).length + (encB ok).length : Nat) : Int) := by rw [mx]; (try simp only [List.length_append]); omega
  have f6 : ¬ IntKind.i64.max < (((((((((encN k2 ++ encN k3) ++ encN k4) ++ EB) ++ encN s1) ++ encN s2) ++ encB ok)).length + (encS x).length : Nat) : Int) := by rw [mx]; (try simp only [List.length_append]); omega
  have f7 : ¬ IntKind.i64.max < ((((((((((encN k2 ++ encN k3) ++ encN k4) ++ EB) ++ encN s1) ++ encN s2) ++ encB ok) ++ encS x)).length + (encN (L.length : Int)).length : Nat) : Int) := by rw [mx]; (try simp only [List.length_append]); omega
  have HU0 := Up.refl h
  have hHD : ((((((((encN k2 ++ encN k3) ++ encN k4) ++ EB) ++ encN s1) ++ encN s2) ++ encB ok) ++ encS x) ++ encN (L.length : Int)) = hdI k2 k3 k4 C n1 s1 s2 ok x L.length := by rw [← hEB]; rfl
  have hHl : (hdI k2 k3 k4 C n1 s1 s2 ok x L.length).length ≤ 2000000 := by rw [← hHD]; simp only [List.length_append]; omega
  have hSh := hS
  clear l1 l2 l3 l4 l5 l6 l7 l8 l10
  refine Sp_of (fn := f76) rfl (show W T b76 [.agg [.int .i64 k1, .int .i64 k2, .int .i64 k3, .int .i64 k4, .int .u64 (C : Int), .int .i64 n1, .int .i64 s1, .int .i64 s2, .bool ok, .str (bs x), S], .tup [], .tup [], .tup [], .tup [], .tup [], .tup [], .tup [], .tup [], .tup [], .tup [], .tup [], .tup [], .tup [], .tup [], .tup [], .tup [], .tup [], .tup [], .tup [], .tup [], .tup [], .tup [], .tup [], .tup [], .tup [], .tup [], .tup [], .tup [], .tup [], .tup [], .tup [], .tup [], .tup [], .tup [], .tup [], .tup [], .tup [], .tup [], .tup [], .tup [], .tup [], .tup [], .tup [], .tup [], .tup [], .tup [], .tup [], .tup [], .tup [], .tup [], .tup [], .tup [], .tup [], .tup [], .tup [], .tup [], .tup [], .tup [], .tup [], .tup [], .tup [], .tup [], .tup []] _ _ from ?_)
  unfold b76
  repeat' (first
    | (refine wNil ?_) | (refine xPure ?_)
    | (refine xMk ?_; intro id hid; (try simp only [set_none_iff] at hid); refine mkDo ?_)
    | (refine xChk ?_) | (refine xChkF ?_) | (refine xSkip ?_)
    | (refine xCall rfl rfl (sp58 k2 _ b1) ?_; rintro v j1 ⟨rfl, hu1⟩; have hb : j1 id = some ⟨true, [.int .i64 k1, .int .i64 k2, .int .i64 k3, .int .i64 k4, .int .u64 (C : Int), .int .i64 n1, .int .i64 s1, .int .i64 s2, .bool ok, .str (bs x), S]⟩ := (by first | exact hu1 _ _ set_same | exact hu1 _ _ hb); have HU : Up h j1 := (by first | exact fun z b e => hu1 z b (by simp only [set_ne (nei (HU0 z b e) hid)]; exact HU0 z b e) | exact fun z b e => hu1 z b (HU z b e)); refine nTm ?_)
    | (refine xCall rfl rfl (sp58 k3 _ b2) ?_; rintro v j2 ⟨rfl, hu2⟩; have hb : j2 id = some ⟨true, [.int .i64 k1, .int .i64 k2, .int .i64 k3, .int .i64 k4, .int .u64 (C : Int), .int .i64 n1, .int .i64 s1, .int .i64 s2, .bool ok, .str (bs x), S]⟩ := (by first | exact hu2 _ _ set_same | exact hu2 _ _ hb); have HU : Up h j2 := (by first | exact fun z b e => hu2 z b (by simp only [set_ne (nei (HU0 z b e) hid)]; exact HU0 z b e) | exact fun z b e => hu2 z b (HU z b e)); refine nTm ?_)
    | (refine xCall rfl rfl (sp58 k4 _ b3) ?_; rintro v j3 ⟨rfl, hu3⟩; have hb : j3 id = some ⟨true, [.int .i64 k1, .int .i64 k2, .int .i64 k3, .int .i64 k4, .int .u64 (C : Int), .int .i64 n1, .int .i64 s1, .int .i64 s2, .bool ok, .str (bs x), S]⟩ := (by first | exact hu3 _ _ set_same | exact hu3 _ _ hb); have HU : Up h j3 := (by first | exact fun z b e => hu3 z b (by simp only [set_ne (nei (HU0 z b e) hid)]; exact HU0 z b e) | exact fun z b e => hu3 z b (HU z b e)); refine nTm ?_)
    | (refine xCall rfl rfl (sp36 C n1 _ bC b4) ?_; rintro v j4 ⟨rfl, hu4⟩; have hb : j4 id = some ⟨true, [.int .i64 k1, .int .i64 k2, .int .i64 k3, .int .i64 k4, .int .u64 (C : Int), .int .i64 n1, .int .i64 s1, .int .i64 s2, .bool ok, .str (bs x), S]⟩ := (by first | exact hu4 _ _ set_same | exact hu4 _ _ hb); have HU : Up h j4 := (by first | exact fun z b e => hu4 z b (by simp only [set_ne (nei (HU0 z b e) hid)]; exact HU0 z b e) | exact fun z b e => hu4 z b (HU z b e)); rw [hEB]; refine nTm ?_)
    | (refine xCall rfl rfl (sp58 s1 _ b5) ?_; rintro v j5 ⟨rfl, hu5⟩; have hb : j5 id = some ⟨true, [.int .i64 k1, .int .i64 k2, .int .i64 k3, .int .i64 k4, .int .u64 (C : Int), .int .i64 n1, .int .i64 s1, .int .i64 s2, .bool ok, .str (bs x), S]⟩ := (by first | exact hu5 _ _ set_same | exact hu5 _ _ hb); have HU : Up h j5 := (by first | exact fun z b e => hu5 z b (by simp only [set_ne (nei (HU0 z b e) hid)]; exact HU0 z b e) | exact fun z b e => hu5 z b (HU z b e)); refine nTm ?_)
    | (refine xCall rfl rfl (sp58 s2 _ b6) ?_; rintro v j6 ⟨rfl, hu6⟩; have hb : j6 id = some ⟨true, [.int .i64 k1, .int .i64 k2, .int .i64 k3, .int .i64 k4, .int .u64 (C : Int), .int .i64 n1, .int .i64 s1, .int .i64 s2, .bool ok, .str (bs x), S]⟩ := (by first | exact hu6 _ _ set_same | exact hu6 _ _ hb); have HU : Up h j6 := (by first | exact fun z b e => hu6 z b (by simp only [set_ne (nei (HU0 z b e) hid)]; exact HU0 z b e) | exact fun z b e => hu6 z b (HU z b e)); refine nTm ?_)
    | (refine xCall rfl rfl (sp59 ok _) ?_; rintro v j7 ⟨rfl, hx⟩; cases hx; refine nTm ?_)
    | (refine xCall rfl rfl (sp60 x _ (by omega)) ?_; rintro v j8 ⟨rfl, hu8⟩; have hb : j8 id = some ⟨true, [.int .i64 k1, .int .i64 k2, .int .i64 k3, .int .i64 k4, .int .u64 (C : Int), .int .i64 n1, .int .i64 s1, .int .i64 s2, .bool ok, .str (bs x), S]⟩ := (by first | exact hu8 _ _ set_same | exact hu8 _ _ hb); have HU : Up h j8 := (by first | exact fun z b e => hu8 z b (by simp only [set_ne (nei (HU0 z b e) hid)]; exact HU0 z b e) | exact fun z b e => hu8 z b (HU z b e)); refine nTm ?_)
    | (refine xCall rfl rfl (sp58 (L.length : Int) _ b7) ?_; rintro v j9 ⟨rfl, hu9⟩; have hb : j9 id = some ⟨true, [.int .i64 k1, .int .i64 k2, .int .i64 k3, .int .i64 k4, .int .u64 (C : Int), .int .i64 n1, .int .i64 s1, .int .i64 s2, .bool ok, .str (bs x), S]⟩ := (by first | exact hu9 _ _ set_same | exact hu9 _ _ hb); have HU : Up h j9 := (by first | exact fun z b e => hu9 z b (by simp only [set_ne (nei (HU0 z b e) hid)]; exact HU0 z b e) | exact fun z b e => hu9 z b (HU z b e)); refine nTm ?_)
    | (refine cSeq ?_) | (refine cNorm ?_) | (refine cRet ?_) | (refine cExit ?_) | (refine W_reg rfl ?_) | (refine W_block ?_) | (refine W_ret ?_) | (refine W_skip ?_) | (refine W_exit ?_) | (refine bNorm ?_) | (refine bRet ?_) | (refine bExit ?_) | (refine bExitN rfl ?_)
    | (refine xMask ?_) | (refine xT ?_) | (refine xF ?_) | (refine xRet ?_) | (refine xNorm ?_)
    | (refine wSplit _ rfl (by (first | (simp only [go_sem, *]; (first | done | exact rfl)) | rfl)) ?_ ?_ <;> intro hb <;> (try simp only [beq_false, beq_true, Bool.not_true, Bool.not_false, Bool.not_eq_true', Bool.not_eq_false', decide_eq_false_iff_not, decide_eq_true_eq, bne_iff_ne, beq_iff_eq, Bool.true_eq, Bool.false_eq, Bool.not_not, Bool.and_eq_true, Bool.or_eq_true, Bool.bne_true, Bool.bne_false, bne_eq_false_iff_eq, beq_eq_false_iff_ne, ne_eq] at hb))
    | (refine W_cond _ (by (first | (simp only [go_sem, *]; (first | done | exact rfl)) | rfl)) ?_ ?_ <;> intro hb <;> (try simp only [beq_false, beq_true, Bool.not_true, Bool.not_false, Bool.not_eq_true', Bool.not_eq_false', decide_eq_false_iff_not, decide_eq_true_eq, bne_iff_ne, beq_iff_eq, Bool.true_eq, Bool.false_eq, Bool.not_not, Bool.and_eq_true, Bool.or_eq_true, Bool.bne_true, Bool.bne_false, bne_eq_false_iff_eq, beq_eq_false_iff_ne, ne_eq] at hb)))
  refine W_loop (fun m tm g' => ∃ k : Nat, k + m = L.length ∧ Up h g' ∧ keep [3, 43, 44, 45] 0 tm = [.und, .und, .und, .str (bs (hdI k2 k3 k4 C n1 s1 s2 ok x L.length ++ (L.take k).flatMap enE)), .und, .und, .und, .und, .und, .und, .und, .und, .und, .und, .und, .und, .und, .und, .und, .und, .und, .und, .und, .und, .und, .und, .und, .und, .und, .und, .und, .und, .und, .und, .und, .und, .und, .und, .und, .und, .und, .und, .und, S, .int .i64 (L.length : Int), .int .i64 (k : Int), .und, .und, .und, .und, .und, .und, .und, .und, .und, .und, .und, .und, .und, .und, .und, .und, .und, .und]) L.length ⟨0, by omega, HU, by simp only [List.take_zero, List.flatMap_nil, List.append_nil]; rfl⟩ ?_
  clear HU hb f0 f1 f2 f3 f4 f5 f6 f7 hHD HU0
  rintro m tm g' ⟨k, hk, HU0, htm⟩
  refine cSeq (cMask (cNorm ?_))
  rw [htm]; clear htm
  by_cases hkl : k < L.length
  · have d1 : (k : Int) < (L.length : Int) := by omega
    have d2 : (0 : Int) ≤ (k : Int) := by omega
    have w1 : IntKind.i64.wrap ((k : Int) + 1) = ((k + 1 : Nat) : Int) := by rw [wrap64 (by omega) (by omega)]; rfl
    obtain ⟨⟨y1, y2, y3, y4⟩, hy⟩ : ∃ y, L[k]? = some y := ⟨_, List.getElem?_eq_getElem hkl⟩
    obtain ⟨c1, c2, c3, c4⟩ := hL _ (List.mem_of_getElem? hy)
    simp only at c1 c2 c3 c4
    have htk : (L.take (k + 1)).flatMap enE = (L.take k).flatMap enE ++ enE (y1, y2, y3, y4) := by rw [List.take_add_one, hy, List.flatMap_append]; simp
    have hPl := enL_len (L := L.take k) (fun z hz => hL z (List.mem_of_mem_take hz))
    rcases hS with ⟨rfl, rfl⟩ | ⟨iL, ow, rest, hfg, hLL⟩
    · simp at hkl
    have hLg := HU0 _ _ hLL
    obtain ⟨g1, g2⟩ := flat_get eMz hy rest
    simp only [eM] at g2
    obtain ⟨EY, hEY⟩ : ∃ EY, encU y2 ++ encN y3 = EY := ⟨_, rfl⟩
    have l1 : (encN y1).length ≤ 9 := encU_length y1.toNat
    have l2 : EY.length ≤ 18 := by
      have a := encU_length y2
      have b : (encN y3).length ≤ 9 := encU_length y3.toNat
      rw [← hEY, List.length_append]; omega
    have l3 := encS_len y4
    have hnew : hdI k2 k3 k4 C n1 s1 s2 ok x L.length ++ (L.take (k + 1)).flatMap enE = (hdI k2 k3 k4 C n1 s1 s2 ok x L.length ++ (L.take k).flatMap enE) ++ (encN y1 ++ EY ++ encS y4) := by rw [htk, ← List.append_assoc, ← hEY]; rfl
    have hlk : (L.take k).length ≤ 1000 := by rw [List.length_take]; omega
    have q1 : ¬ IntKind.i64.max < (((encN y1).length + EY.length : Nat) : Int) := by rw [mx]; omega
    have q2 : ¬ IntKind.i64.max < (((encN y1 ++ EY).length + (encS y4).length : Nat) : Int) := by rw [mx, List.length_append]; omega
    have q3 : ¬ IntKind.i64.max < (((hdI k2 k3 k4 C n1 s1 s2 ok x L.length ++ (L.take k).flatMap enE).length + (encN y1 ++ EY ++ encS y4).length : Nat) : Int) := by rw [mx]; simp only [List.length_append]; omega
    obtain ⟨P, hP⟩ : ∃ P, hdI k2 k3 k4 C n1 s1 s2 ok x L.length ++ (L.take k).flatMap enE = P := ⟨_, rfl⟩
    rw [hP] at q3 hnew ⊢
    clear hP htk hPl l1 l2 l3 hlk hy hLL
    repeat' (first
      | (refine wNil ?_) | (refine xPure ?_)
      | (refine xMk ?_; intro id hid; (try simp only [set_none_iff] at hid); have hz := hid; (repeat (replace hz := hz.2)); (try have := nei hLg hz); refine mkDo ?_)
      | (refine xChk ?_) | (refine xChkF ?_) | (refine xSkip ?_)
      | (refine xCall rfl rfl (sp58 y1 _ c1) ?_; rintro v j1 ⟨rfl, hu1⟩; have hb : j1 id = some ⟨true, [.int .i64 y1, .int .u64 (y2 : Int), .int .i64 y3, .str (bs y4)]⟩ := (by first | exact hu1 _ _ set_same | exact hu1 _ _ hb); have HU : Up h j1 := (by first | exact fun z b e => hu1 z b (by simp only [set_ne (nei (HU0 z b e) hid)]; exact HU0 z b e) | exact fun z b e => hu1 z b (HU z b e)); refine nTm ?_)
      | (refine xCall rfl rfl (sp36 y2 y3 _ c2 c3) ?_; rintro v j2 ⟨rfl, hu2⟩; have hb : j2 id = some ⟨true, [.int .i64 y1, .int .u64 (y2 : Int), .int .i64 y3, .str (bs y4)]⟩ := (by first | exact hu2 _ _ set_same | exact hu2 _ _ hb); have HU : Up h j2 := (by first | exact fun z b e => hu2 z b (by simp only [set_ne (nei (HU0 z b e) hid)]; exact HU0 z b e) | exact fun z b e => hu2 z b (HU z b e)); rw [hEY]; refine nTm ?_)
      | (refine xCall rfl rfl (sp60 y4 _ (by omega)) ?_; rintro v j3 ⟨rfl, hu3⟩; have hb : j3 id = some ⟨true, [.int .i64 y1, .int .u64 (y2 : Int), .int .i64 y3, .str (bs y4)]⟩ := (by first | exact hu3 _ _ set_same | exact hu3 _ _ hb); have HU : Up h j3 := (by first | exact fun z b e => hu3 z b (by simp only [set_ne (nei (HU0 z b e) hid)]; exact HU0 z b e) | exact fun z b e => hu3 z b (HU z b e)); refine nTm ?_)
      | (refine cSeq ?_) | (refine cNorm ?_) | (refine cRet ?_) | (refine cExit ?_) | (refine W_reg rfl ?_) | (refine W_block ?_) | (refine W_ret ?_) | (refine W_skip ?_) | (refine W_exit ?_) | (refine bNorm ?_) | (refine bRet ?_) | (refine bExit ?_) | (refine bExitN rfl ?_)
      | (refine xMask ?_) | (refine xT ?_) | (refine xF ?_) | (refine xRet ?_) | (refine xNorm ?_)
      | (refine wSplit _ rfl (by (first | (simp only [go_sem, *]; (first | done | exact rfl)) | rfl)) ?_ ?_ <;> intro hb <;> (try simp only [beq_false, beq_true, Bool.not_true, Bool.not_false, Bool.not_eq_true', Bool.not_eq_false', decide_eq_false_iff_not, decide_eq_true_eq, bne_iff_ne, beq_iff_eq, Bool.true_eq, Bool.false_eq, Bool.not_not, Bool.and_eq_true, Bool.or_eq_true, Bool.bne_true, Bool.bne_false, bne_eq_false_iff_eq, beq_eq_false_iff_ne, ne_eq] at hb))
      | (refine W_cond _ (by (first | (simp only [go_sem, *]; (first | done | exact rfl)) | rfl)) ?_ ?_ <;> intro hb <;> (try simp only [beq_false, beq_true, Bool.not_true, Bool.not_false, Bool.not_eq_true', Bool.not_eq_false', decide_eq_false_iff_not, decide_eq_true_eq, bne_iff_ne, beq_iff_eq, Bool.true_eq, Bool.false_eq, Bool.not_not, Bool.and_eq_true, Bool.or_eq_true, Bool.bne_true, Bool.bne_false, bne_eq_false_iff_eq, beq_eq_false_iff_ne, ne_eq] at hb)))
    all_goals exact ⟨m - 1, by omega, k + 1, by omega, HU, by rw [hnew]; simp only [keep, List.contains_cons, List.contains_nil, Nat.reduceBEq, Bool.or_true, Bool.true_or, Bool.or_false, Bool.false_or, if_true, if_false, Bool.false_eq_true, beq_self_eq_true, Nat.zero_add, Nat.reduceAdd, eq_self]⟩
  · have d1 : ¬ (k : Int) < (L.length : Int) := by omega
    rw [List.take_of_length_le (by omega)]
    repeat' (first
      | (refine wNil ?_) | (refine xPure ?_)
      | (refine xMk ?_; intro id hid; (try simp only [set_none_iff] at hid); refine mkDo ?_)
      | (refine xChk ?_) | (refine xChkF ?_) | (refine xSkip ?_)
      | (refine cSeq ?_) | (refine cNorm ?_) | (refine cRet ?_) | (refine cExit ?_) | (refine W_reg rfl ?_) | (refine W_block ?_) | (refine W_ret ?_) | (refine W_skip ?_) | (refine W_exit ?_) | (refine bNorm ?_) | (refine bRet ?_) | (refine bExit ?_) | (refine bExitN rfl ?_)
      | (refine xMask ?_) | (refine xT ?_) | (refine xF ?_) | (refine xRet ?_) | (refine xNorm ?_)
      | (refine wSplit _ rfl (by (first | (simp only [go_sem, *]; (first | done | exact rfl)) | rfl)) ?_ ?_ <;> intro hb <;> (try simp only [beq_false, beq_true, Bool.not_true, Bool.not_false, Bool.not_eq_true', Bool.not_eq_false', decide_eq_false_iff_not, decide_eq_true_eq, bne_iff_ne, beq_iff_eq, Bool.true_eq, Bool.false_eq, Bool.not_not, Bool.and_eq_true, Bool.or_eq_true, Bool.bne_true, Bool.bne_false, bne_eq_false_iff_eq, beq_eq_false_iff_ne, ne_eq] at hb))
      | (refine W_cond _ (by (first | (simp only [go_sem, *]; (first | done | exact rfl)) | rfl)) ?_ ?_ <;> intro hb <;> (try simp only [beq_false, beq_true, Bool.not_true, Bool.not_false, Bool.not_eq_true', Bool.not_eq_false', decide_eq_false_iff_not, decide_eq_true_eq, bne_iff_ne, beq_iff_eq, Bool.true_eq, Bool.false_eq, Bool.not_not, Bool.and_eq_true, Bool.or_eq_true, Bool.bne_true, Bool.bne_false, bne_eq_false_iff_eq, beq_eq_false_iff_ne, ne_eq] at hb)))
    all_goals exact ⟨rfl, HU0⟩
end Go.Proofs.YtgekngfnhhdamaaI
set_option linter.unusedVariables false
set_option linter.unusedSimpArgs false
set_option maxRecDepth 100000
set_option maxHeartbeats 4000000
namespace Go.Proofs.YtgekngfnhhdamaaI
open Go Go.Proofs.YtgekngfnhhdamaaM
attribute [local go_sem] aop ev fg_slc fg_slk fg_ptr fg_bool fg_int fg_str fg_iface fg_func fg_agg fg_tup fg_nils fg_nilp fg_nilI fg_nilF fg_und aboundsK alen_nils alen_slc alen_slk aslice_nils aslice_slc aslice_slk awanted abin aun aint aeqn aeqc aeqs apart abounds abnd amaxi amaxiGo cells_agg cells_slc cells_slk cells_ptr cells_bool cells_int cells_str cells_iface cells_func cells_tup cells_nils cells_nilp cells_nilI cells_nilF cells_und sc_slc sc_slk sc_ptr sc_bool sc_int sc_str sc_iface sc_func sc_nils sc_nilp sc_nilI sc_nilF gd_zero gd_succ List.all_cons List.all_nil Bool.and_self Bool.and_true Bool.true_and List.length_cons List.length_nil Option.map_some Option.some.injEq cell_same cell_ne cell_ne' cellsAt_same cellsAt_ne cellsAt_ne' put_same put_of set_same set_ne set_ne' List.getElem?_cons_zero List.getElem?_cons_succ if_true if_false and_self and_true true_and ne_eq not_true_eq_false not_false_eq_true decide_true decide_false Bool.false_eq_true Bool.true_eq_false beq_self_eq_true bne_self_eq_false beq_true beq_false Bool.not_true Bool.not_false List.map_cons List.map_nil putL List.set_cons_zero List.set_cons_succ afill Nat.zero_le Nat.le_refl Nat.zero_add Nat.add_zero List.drop_zero List.drop_succ_cons List.take_zero List.take_succ_cons Bool.not_eq_true Bool.not_eq_false decide_eq_true_eq decide_eq_false_iff_not Int.toNat_zero Nat.sub_zero Int.toNat_natCast Bool.bne_true Bool.bne_false AH.cell AH.cellsAt AH.put Nat.mul_one Nat.one_mul Int.natCast_nonneg List.length_set bs_append bs_size bs_toList bs_extract bs_get List.append_nil Nat.sub_zero bne_self_eq_false beq_self_eq_true azeros Int.le_refl
end Go.Proofs.YtgekngfnhhdamaaI
set_option linter.unusedVariables false
set_option linter.unusedSimpArgs false
set_option maxRecDepth 100000
set_option maxHeartbeats 4000000
namespace Go.Proofs.YtgekngfnhhdamaaI
open Go Go.Proofs.YtgekngfnhhdamaaM
attribute [local go_sem] aop ev fg_slc fg_slk fg_ptr fg_bool fg_int fg_str fg_iface fg_func fg_agg fg_tup fg_nils fg_nilp fg_nilI fg_nilF fg_und aboundsK alen_nils alen_slc alen_slk aslice_nils aslice_slc aslice_slk awanted abin aun aint aeqn aeqc aeqs apart abounds abnd amaxi amaxiGo cells_agg cells_slc cells_slk cells_ptr cells_bool cells_int cells_str cells_iface cells_func cells_tup cells_nils cells_nilp cells_nilI cells_nilF cells_und sc_slc sc_slk sc_ptr sc_bool sc_int sc_str sc_iface sc_func sc_nils sc_nilp sc_nilI sc_nilF gd_zero gd_succ List.all_cons List.all_nil Bool.and_self Bool.and_true Bool.true_and List.length_cons List.length_nil Option.map_some Option.some.injEq cell_same cell_ne cell_ne' cellsAt_same cellsAt_ne cellsAt_ne' put_same put_of set_same set_ne set_ne' List.getElem?_cons_zero List.getElem?_cons_succ if_true if_false and_self and_true true_and ne_eq not_true_eq_false not_false_eq_true decide_true decide_false Bool.false_eq_true Bool.true_eq_false beq_self_eq_true bne_self_eq_false beq_true beq_false Bool.not_true Bool.not_false List.map_cons List.map_nil putL List.set_cons_zero List.set_cons_succ afill Nat.zero_le Nat.le_refl Nat.zero_add Nat.add_zero List.drop_zero List.drop_succ_cons List.take_zero List.take_succ_cons Bool.not_eq_true Bool.not_eq_false decide_eq_true_eq decide_eq_false_iff_not Int.toNat_zero Nat.sub_zero Int.toNat_natCast Bool.bne_true Bool.bne_false AH.cell AH.cellsAt AH.put Nat.mul_one Nat.one_mul Int.natCast_nonneg List.length_set
/-- Numbers in range. -/
def rgN (n : Int) : Prop := 0 ≤ n ∧ n ≤ 9223372036854775807
end Go.Proofs.YtgekngfnhhdamaaI
