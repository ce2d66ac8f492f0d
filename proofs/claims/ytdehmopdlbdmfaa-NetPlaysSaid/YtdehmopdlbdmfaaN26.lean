import Derived.Test.YtdehmopdlbdmfaaN25
set_option linter.unusedVariables false
set_option linter.unusedSimpArgs false
set_option maxRecDepth 100000
set_option maxHeartbeats 4000000
namespace Go.Proofs.YtdehmopdlbdmfaaI
open Go Go.Proofs.YtdehmopdlbdmfaaM
attribute [local go_sem] aop ev fg_slc fg_slk fg_ptr fg_bool fg_int fg_str fg_iface fg_func fg_agg fg_tup fg_nils fg_nilp fg_nilI fg_nilF fg_und aboundsK alen_nils alen_slc alen_slk aslice_nils aslice_slc aslice_slk awanted abin aun aint aeqn aeqc aeqs apart abounds abnd amaxi amaxiGo cells_agg cells_slc cells_slk cells_ptr cells_bool cells_int cells_str cells_iface cells_func cells_tup cells_nils cells_nilp cells_nilI cells_nilF cells_und sc_slc sc_slk sc_ptr sc_bool sc_int sc_str sc_iface sc_func sc_nils sc_nilp sc_nilI sc_nilF gd_zero gd_succ List.all_cons List.all_nil Bool.and_self Bool.and_true Bool.true_and List.length_cons List.length_nil Option.map_some Option.some.injEq cell_same cell_ne cell_ne' cellsAt_same cellsAt_ne cellsAt_ne' put_same put_of set_same set_ne set_ne' List.getElem?_cons_zero List.getElem?_cons_succ if_true if_false and_self and_true true_and ne_eq not_true_eq_false not_false_eq_true decide_true decide_false Bool.false_eq_true Bool.true_eq_false beq_self_eq_true bne_self_eq_false beq_true beq_false Bool.not_true Bool.not_false List.map_cons List.map_nil putL List.set_cons_zero List.set_cons_succ afill Nat.zero_le Nat.le_refl Nat.zero_add Nat.add_zero List.drop_zero List.drop_succ_cons List.take_zero List.take_succ_cons Bool.not_eq_true Bool.not_eq_false decide_eq_true_eq decide_eq_false_iff_not Int.toNat_zero Nat.sub_zero Int.toNat_natCast Bool.bne_true Bool.bne_false AH.cell AH.cellsAt AH.put Nat.mul_one Nat.one_mul Int.natCast_nonneg List.length_set bne_self_eq_false azeros List.cons_append List.nil_append List.append_nil aapp Int.le_refl
theorem dispatch (B0 B h1 : AH) (p i4 i5 i6 i9 : List Nat) (N : Int) (L : List Pk) (C : List Int) (V : List Wy) (SL SC : AV) (x1 x2 x3 pa pb : Int) (x4 pc : ByteArray) (th : Bool) (hN : N ≤ 12) (h0 : Sub B0 B) (z4 : B0 i4 = none) (z6 : B0 i6 = none) (hn : Nt B p h1 N L C) (hC : okC C) (hL : Lv e3 3 B0 SL L) (hV : Lv e2 2 B0 SC V) (hv : V.length ≤ 100) (hlt : L.length ≤ 100) (hall : ∀ q ∈ L, isW N q.1 q.2.1 = true) (hag : ∀ a b : Int, (isW N a b && cutBit C a.toNat b.toNat) = hasW V a b) (B4 : B i4 = some ⟨true, [.int .i64 N, SL, SC]⟩) (B5 : B i5 = some ⟨true, [.int .i64 x1, .int .i64 x2, .int .i64 x3, .str x4]⟩) (B6 : B i6 = some ⟨true, [.int .i64 0, .nils, .nils]⟩) (B9 : B i9 = some ⟨true, [.int .i64 pa, .int .i64 pb, .str pc]⟩) (n45 : i4 ≠ i5) (n46 : i4 ≠ i6) (n49 : i4 ≠ i9) (n56 : i5 ≠ i6) (n59 : i5 ≠ i9) (n69 : i6 ≠ i9) (hth : th = decide (0 ≤ x2 ∧ x2 < L.length)) (hq : th = true → L[x2.toNat]? = some (pa, pb, pc)) : W T rest25 [.ptr p 0, .und, .und, .und, .ptr i4 0, .ptr i5 0, .ptr i6 0, .und, .bool th, .ptr i9 0, .und, .und, .und, .und, .und, .und, .und, .und, .und, .und, .und, .und, .und, .und, .und, .und, .und, .und, .und, .und, .und, .und, .und, .und, .und, .und, .und, .und, .und, .und, .und, .und, .und, .und, .und, .und, .und, .und, .und, .und, .und, .und, .und, .und, .und, .und, .und, .und, .und, .und, .und, .und, .und, .und, .und, .und, .und, .und, .und, .und, .und, .und, .und, .und, .und, .und, .und, .und, .und, .und, .und, .und, .und, .und, .und, .und, .und, .und, .und, .und, .und, .und, .und, .und, .und, .und, .und, .und, .und, .und, .und, .und, .und, .und, .und, .und, .und, .und, .und, .und, .und, .und, .und, .und, .und, .und, .und, .und, .und, .und, .und, .und, .und, .und, .und, .und, .und, .und, .und, .und, .und, .und, .und, .und, .und, .und, .und, .und, .und, .und, .und, .und, .und, .und, .und, .und, .und, .und, .und, .und, .und, .und, .und, .und, .und, .und, .und, .und, .und, .und, .und, .und, .und, .und, .und, .und, .und, .und, .und, .und, .und, .und, .und, .und, .und, .und, .und, .und, .und] h1 (Rets f25 fun v h' => DoQ B0 p N L V v h') := by
  by_cases k0 : x1 = 0
  · cases hw : isW N x2 x3 with
    | true => exact d0t B0 B h1 p i4 i5 i6 i9 N L C V SL SC x1 x2 x3 pa pb x4 pc th hN h0 z4 z6 hn hC hL hV hv hlt hall hag B4 B5 B6 B9 n45 n46 n49 n56 n59 n69 hth hq k0 hw
    | false => exact d0f B0 B h1 p i4 i5 i6 i9 N L C V SL SC x1 x2 x3 pa pb x4 pc th hN h0 z4 z6 hn hC hL hV hv hlt hall hag B4 B5 B6 B9 n45 n46 n49 n56 n59 n69 hth hq k0 hw
  by_cases k1 : x1 = 1
  · cases ht : th with
    | true =>
      subst ht
      cases hc : (isW N pa pb && cutBit C pa.toNat pb.toNat) with
      | true => exact d1c B0 B h1 p i4 i5 i6 i9 N L C V SL SC x1 x2 x3 pa pb x4 pc true hN h0 z4 z6 hn hC hL hV hv hlt hall hag B4 B5 B6 B9 n45 n46 n49 n56 n59 n69 hth hq k1 rfl hc
      | false => exact d1t B0 B h1 p i4 i5 i6 i9 N L C V SL SC x1 x2 x3 pa pb x4 pc true hN h0 z4 z6 hn hC hL hV hv hlt hall hag B4 B5 B6 B9 n45 n46 n49 n56 n59 n69 hth hq k1 rfl hc
    | false =>
      subst ht
      exact d1f B0 B h1 p i4 i5 i6 i9 N L C V SL SC x1 x2 x3 pa pb x4 pc false hN h0 z4 z6 hn hC hL hV hv hlt hall hag B4 B5 B6 B9 n45 n46 n49 n56 n59 n69 hth hq k1 rfl
  by_cases k2 : x1 = 2
  · cases ht : th with
    | true =>
      subst ht
      exact d2t B0 B h1 p i4 i5 i6 i9 N L C V SL SC x1 x2 x3 pa pb x4 pc true hN h0 z4 z6 hn hC hL hV hv hlt hall hag B4 B5 B6 B9 n45 n46 n49 n56 n59 n69 hth hq k2 rfl
    | false =>
      subst ht
      exact d2f B0 B h1 p i4 i5 i6 i9 N L C V SL SC x1 x2 x3 pa pb x4 pc false hN h0 z4 z6 hn hC hL hV hv hlt hall hag B4 B5 B6 B9 n45 n46 n49 n56 n59 n69 hth hq k2 rfl
  by_cases k3 : x1 = 3
  · cases ht : th with
    | true =>
      subst ht
      exact d3t B0 B h1 p i4 i5 i6 i9 N L C V SL SC x1 x2 x3 pa pb x4 pc true hN h0 z4 z6 hn hC hL hV hv hlt hall hag B4 B5 B6 B9 n45 n46 n49 n56 n59 n69 hth hq k3 rfl
    | false =>
      subst ht
      exact d3f B0 B h1 p i4 i5 i6 i9 N L C V SL SC x1 x2 x3 pa pb x4 pc false hN h0 z4 z6 hn hC hL hV hv hlt hall hag B4 B5 B6 B9 n45 n46 n49 n56 n59 n69 hth hq k3 rfl
  by_cases k4 : x1 = 4
  · cases ht : th with
    | true =>
      subst ht
      exact d4t B0 B h1 p i4 i5 i6 i9 N L C V SL SC x1 x2 x3 pa pb x4 pc true hN h0 z4 z6 hn hC hL hV hv hlt hall hag B4 B5 B6 B9 n45 n46 n49 n56 n59 n69 hth hq k4 rfl
    | false =>
      subst ht
      exact d4f B0 B h1 p i4 i5 i6 i9 N L C V SL SC x1 x2 x3 pa pb x4 pc false hN h0 z4 z6 hn hC hL hV hv hlt hall hag B4 B5 B6 B9 n45 n46 n49 n56 n59 n69 hth hq k4 rfl
  by_cases k5 : x1 = 5
  · exact d5 B0 B h1 p i4 i5 i6 i9 N L C V SL SC x1 x2 x3 pa pb x4 pc th hN h0 z4 z6 hn hC hL hV hv hlt hall hag B4 B5 B6 B9 n45 n46 n49 n56 n59 n69 hth hq k5
  by_cases k6 : x1 = 6
  · exact d6 B0 B h1 p i4 i5 i6 i9 N L C V SL SC x1 x2 x3 pa pb x4 pc th hN h0 z4 z6 hn hC hL hV hv hlt hall hag B4 B5 B6 B9 n45 n46 n49 n56 n59 n69 hth hq k6
  by_cases k7 : x1 = 7
  · exact d7 B0 B h1 p i4 i5 i6 i9 N L C V SL SC x1 x2 x3 pa pb x4 pc th hN h0 z4 z6 hn hC hL hV hv hlt hall hag B4 B5 B6 B9 n45 n46 n49 n56 n59 n69 hth hq k7
  exact d8 B0 B h1 p i4 i5 i6 i9 N L C V SL SC x1 x2 x3 pa pb x4 pc th hN h0 z4 z6 hn hC hL hV hv hlt hall hag B4 B5 B6 B9 n45 n46 n49 n56 n59 n69 hth hq (by omega)
/-- do -/
theorem sp25 (B0 h : AH) (p : List Nat) (N : Int) (L : List Pk) (C : List Int) (V : List Wy) (SL SC : AV) (x1 x2 x3 : Int) (x4 : ByteArray) (hN : N ≤ 12) (hn : Nt B0 p h N L C) (hC : okC C) (hL : Lv e3 3 B0 SL L) (hV : Lv e2 2 B0 SC V) (hv : V.length ≤ 100) (hlt : L.length ≤ 100) (hall : ∀ q ∈ L, isW N q.1 q.2.1 = true) (hag : ∀ a b : Int, (isW N a b && cutBit C a.toNat b.toNat) = hasW V a b) :
    Sp T 25 [.ptr p 0, .agg [.int .i64 N, SL, SC], .agg [.int .i64 x1, .int .i64 x2, .int .i64 x3, .str x4]] h (fun v h' => DoQ B0 p N L V v h') := by
  obtain ⟨c1, c2, c3⟩ := hL.len
  obtain ⟨c4, c5, c6⟩ := hV.len
  have hu := Up.refl h
  by_cases x0 : 0 ≤ x2
  · by_cases xl : x2 < (L.length : Int)
    · obtain ⟨⟨q1, q2, q3⟩, hq⟩ : ∃ q, L[x2.toNat]? = some q := ⟨_, List.getElem?_eq_getElem (by omega)⟩
      have hth : decide (0 ≤ x2 ∧ x2 < L.length) = true := by simp [x0, xl]
      have hL' := hL
      rcases hL' with ⟨rfl, rfl⟩ | ⟨j, o, rfl, hj0⟩
      · simp at hq
      have hj := hn.1 _ _ hj0
      obtain ⟨f1, f2⟩ := flat_get e3z hq []
      rw [List.append_nil] at f1 f2
      simp only [e3] at f2
      refine Sp_of (fn := f25) rfl (show W T b25 [.ptr p 0, .agg [.int .i64 N, .slc j 0 L.length 3, SC], .agg [.int .i64 x1, .int .i64 x2, .int .i64 x3, .str x4], .tup [], .tup [], .tup [], .tup [], .tup [], .tup [], .tup [], .tup [], .tup [], .tup [], .tup [], .tup [], .tup [], .tup [], .tup [], .tup [], .tup [], .tup [], .tup [], .tup [], .tup [], .tup [], .tup [], .tup [], .tup [], .tup [], .tup [], .tup [], .tup [], .tup [], .tup [], .tup [], .tup [], .tup [], .tup [], .tup [], .tup [], .tup [], .tup [], .tup [], .tup [], .tup [], .tup [], .tup [], .tup [], .tup [], .tup [], .tup [], .tup [], .tup [], .tup [], .tup [], .tup [], .tup [], .tup [], .tup [], .tup [], .tup [], .tup [], .tup [], .tup [], .tup [], .tup [], .tup [], .tup [], .tup [], .tup [], .tup [], .tup [], .tup [], .tup [], .tup [], .tup [], .tup [], .tup [], .tup [], .tup [], .tup [], .tup [], .tup [], .tup [], .tup [], .tup [], .tup [], .tup [], .tup [], .tup [], .tup [], .tup [], .tup [], .tup [], .tup [], .tup [], .tup [], .tup [], .tup [], .tup [], .tup [], .tup [], .tup [], .tup [], .tup [], .tup [], .tup [], .tup [], .tup [], .tup [], .tup [], .tup [], .tup [], .tup [], .tup [], .tup [], .tup [], .tup [], .tup [], .tup [], .tup [], .tup [], .tup [], .tup [], .tup [], .tup [], .tup [], .tup [], .tup [], .tup [], .tup [], .tup [], .tup [], .tup [], .tup [], .tup [], .tup [], .tup [], .tup [], .tup [], .tup [], .tup [], .tup [], .tup [], .tup [], .tup [], .tup [], .tup [], .tup [], .tup [], .tup [], .tup [], .tup [], .tup [], .tup [], .tup [], .tup [], .tup [], .tup [], .tup [], .tup [], .tup [], .tup [], .tup [], .tup [], .tup [], .tup [], .tup [], .tup [], .tup [], .tup [], .tup [], .tup [], .tup [], .tup [], .tup [], .tup [], .tup [], .tup []] _ _ from ?_)
      unfold b25
      iterate 46 (first
        | (refine wNil ?_)
        | (refine wPure rfl (by (first | (simp only [go_sem, *]; (first | done | exact rfl)) | rfl)) rfl (by (first | (simp only [go_sem, *]; (first | done | exact rfl)) | rfl)) ?_; dsimp only [putT, ev, Int.toNat_zero, Nat.sub_zero, Int.toNat_natCast,  gd_zero, gd_succ, Nat.zero_add, Nat.add_zero, Nat.reduceAdd, Nat.reduceMul, List.set_cons_zero, List.set_cons_succ, keep, List.contains_cons, List.contains_nil])
        | (refine wMk rfl (by (first | (simp only [go_sem, *]; (first | done | exact rfl)) | rfl)) rfl ?_; intro id hid; (try simp only [set_none_iff] at hid); have hz := hid; (repeat (replace hz := hz.2)); (try have := nei hj hz); (try have := Up.none hu hz); refine ⟨_, (by (first | (simp only [go_sem, *]; (first | done | exact rfl)) | rfl)), ?_⟩; dsimp only [putT, ev, Int.toNat_zero, Nat.sub_zero, Int.toNat_natCast,  gd_zero, gd_succ, Nat.zero_add, Nat.add_zero, Nat.reduceAdd, Nat.reduceMul, List.set_cons_zero, List.set_cons_succ, keep, List.contains_cons, List.contains_nil])
        | (refine wChk rfl (by (first | (simp only [go_sem, *]; (first | done | exact rfl)) | rfl)) rfl (by (first | (simp only [go_sem, *]; (first | done | exact rfl)) | rfl)) rfl ?_) | (refine wChkF rfl (by (first | (simp only [go_sem, *]; (first | done | exact rfl)) | rfl)) rfl ?_)
        | (refine wSkip rfl (by (first | (simp only [go_sem, *]; (first | done | exact rfl)) | rfl)) ?_; dsimp only [putT, ev, Int.toNat_zero, Nat.sub_zero, Int.toNat_natCast,  gd_zero, gd_succ, Nat.zero_add, Nat.add_zero, Nat.reduceAdd, Nat.reduceMul, List.set_cons_zero, List.set_cons_succ, keep, List.contains_cons, List.contains_nil])
        | (refine cSeq ?_) | (refine cNorm ?_) | (refine cRet ?_) | (refine cExit ?_) | (refine W_reg rfl ?_) | (refine W_block ?_) | (refine W_ret ?_) | (refine W_skip ?_) | (refine W_exit ?_) | (refine bNorm ?_) | (refine bRet ?_) | (refine bExit ?_) | (refine bExitN rfl ?_)
        | (refine cMask' (by simp only [keep, List.contains_cons, List.contains_nil, Nat.reduceBEq, Bool.or_true, Bool.true_or, Bool.or_false, Bool.false_or, if_true, if_false, Bool.false_eq_true, beq_self_eq_true, Nat.zero_add, Nat.reduceAdd, eq_self]; exact rfl) ?_)
        | (refine cT (by (first | (simp only [go_sem, *]; (first | done | exact rfl)) | rfl)) ?_) | (refine cF (by (first | (simp only [go_sem, *]; (first | done | exact rfl)) | rfl)) ?_)
        | (refine rRet (by (first | (simp only [go_sem, *]; (first | done | exact rfl)) | rfl)) ?_) | (refine rNorm (by (first | (simp only [go_sem, *]; (first | done | exact rfl)) | rfl)) ?_)
        | (refine wSplit _ rfl (by (first | (simp only [go_sem, *]; (first | done | exact rfl)) | rfl)) ?_ ?_ <;> intro hb <;> (try simp only [beq_false, beq_true, Bool.not_true, Bool.not_false, Bool.not_eq_true', Bool.not_eq_false', decide_eq_false_iff_not, decide_eq_true_eq, bne_iff_ne, beq_iff_eq, Bool.true_eq, Bool.false_eq, Bool.not_not, Bool.and_eq_true, Bool.or_eq_true, Bool.bne_true, Bool.bne_false, bne_eq_false_iff_eq, beq_eq_false_iff_ne, ne_eq] at hb))
        | (refine W_cond _ (by (first | (simp only [go_sem, *]; (first | done | exact rfl)) | rfl)) ?_ ?_ <;> intro hb <;> (try simp only [beq_false, beq_true, Bool.not_true, Bool.not_false, Bool.not_eq_true', Bool.not_eq_false', decide_eq_false_iff_not, decide_eq_true_eq, bne_iff_ne, beq_iff_eq, Bool.true_eq, Bool.false_eq, Bool.not_not, Bool.and_eq_true, Bool.or_eq_true, Bool.bne_true, Bool.bne_false, bne_eq_false_iff_eq, beq_eq_false_iff_ne, ne_eq] at hb)))
      rename_i i4 a1 a2 a3 a4 i5 b1 b2 b3 b4 i6 d1 d2 d3 d4 e1
      obtain ⟨i9, rfl⟩ : ∃ x, x = id := ⟨_, rfl⟩
      have y4 : h i4 = none := a1
      have n54 : i5 ≠ i4 := b1.1
      have y5 : h i5 = none := b1.2
      have n65 : i6 ≠ i5 := d1.1
      have n64 : i6 ≠ i4 := d1.2.1
      have y6 : h i6 = none := d1.2.2
      have n96 : i9 ≠ i6 := hid.1
      have n95 : i9 ≠ i5 := hid.2.1
      have n94 : i9 ≠ i4 := hid.2.2.1
      have y9 : h i9 = none := hid.2.2.2
      have m4 := hn.more (b := ⟨true, [.int .i64 N, (.slc j 0 L.length 3), SC]⟩) y4
      have m5 := m4.more (q := i5) (b := ⟨true, [.int .i64 x1, .int .i64 x2, .int .i64 x3, .str x4]⟩) (by rw [set_ne n54]; exact y5)
      have m6 := m5.more (q := i6) (b := ⟨true, [.int .i64 0, .nils, .nils]⟩) (by rw [set_ne n65, set_ne n64]; exact y6)
      have m9 := m6.more2 (q := i9) (z := some ⟨true, [.int .i64 0, .int .i64 0, .str ⟨#[]⟩]⟩) (b := ⟨true, [.int .i64 0, .int .i64 0, .str ⟨#[]⟩]⟩) (by rw [set_ne n96, set_ne n95, set_ne n94]; exact y9)
      have z4 : B0 i4 = none := hn.1.no y4
      have z5 : B0 i5 = none := hn.1.no y5
      have z6 : B0 i6 = none := hn.1.no y6
      have z9 : B0 i9 = none := hn.1.no y9
      have m10 := m9.poke (x := i9) (b := ⟨true, [.int .i64 q1, .int .i64 q2, .str q3]⟩) set_same
      have key := dispatch B0 _ _ p i4 i5 i6 i9 N L C V (.slc j 0 L.length 3) SC x1 x2 x3 q1 q2 x4 q3 true hN (fun y b e => by rw [set_ne (nei e z9), set_ne (nei e z9), set_ne (nei e z6), set_ne (nei e z5), set_ne (nei e z4)]; exact e) z4 z6 m10 hC hL hV hv hlt hall hag (by rw [set_ne n94.symm, set_ne n94.symm, set_ne n64.symm, set_ne n54.symm, set_same]) (by rw [set_ne n95.symm, set_ne n95.symm, set_ne n65.symm, set_same]) (by rw [set_ne n96.symm, set_ne n96.symm, set_same]) (by rw [set_same]) n54.symm n64.symm n94.symm n65.symm n95.symm n96.symm hth.symm (fun _ => hq)
      exact key
      
    · have hth : decide (0 ≤ x2 ∧ x2 < L.length) = false := by simp [xl]
      refine Sp_of (fn := f25) rfl (show W T b25 [.ptr p 0, .agg [.int .i64 N, SL, SC], .agg [.int .i64 x1, .int .i64 x2, .int .i64 x3, .str x4], .tup [], .tup [], .tup [], .tup [], .tup [], .tup [], .tup [], .tup [], .tup [], .tup [], .tup [], .tup [], .tup [], .tup [], .tup [], .tup [], .tup [], .tup [], .tup [], .tup [], .tup [], .tup [], .tup [], .tup [], .tup [], .tup [], .tup [], .tup [], .tup [], .tup [], .tup [], .tup [], .tup [], .tup [], .tup [], .tup [], .tup [], .tup [], .tup [], .tup [], .tup [], .tup [], .tup [], .tup [], .tup [], .tup [], .tup [], .tup [], .tup [], .tup [], .tup [], .tup [], .tup [], .tup [], .tup [], .tup [], .tup [], .tup [], .tup [], .tup [], .tup [], .tup [], .tup [], .tup [], .tup [], .tup [], .tup [], .tup [], .tup [], .tup [], .tup [], .tup [], .tup [], .tup [], .tup [], .tup [], .tup [], .tup [], .tup [], .tup [], .tup [], .tup [], .tup [], .tup [], .tup [], .tup [], .tup [], .tup [], .tup [], .tup [], .tup [], .tup [], .tup [], .tup [], .tup [], .tup [], .tup [], .tup [], .tup [], .tup [], .tup [], .tup [], .tup [], .tup [], .tup [], .tup [], .tup [], .tup [], .tup [], .tup [], .tup [], .tup [], .tup [], .tup [], .tup [], .tup [], .tup [], .tup [], .tup [], .tup [], .tup [], .tup [], .tup [], .tup [], .tup [], .tup [], .tup [], .tup [], .tup [], .tup [], .tup [], .tup [], .tup [], .tup [], .tup [], .tup [], .tup [], .tup [], .tup [], .tup [], .tup [], .tup [], .tup [], .tup [], .tup [], .tup [], .tup [], .tup [], .tup [], .tup [], .tup [], .tup [], .tup [], .tup [], .tup [], .tup [], .tup [], .tup [], .tup [], .tup [], .tup [], .tup [], .tup [], .tup [], .tup [], .tup [], .tup [], .tup [], .tup [], .tup [], .tup [], .tup [], .tup [], .tup [], .tup [], .tup []] _ _ from ?_)
      unfold b25
      iterate 38 (first
        | (refine wNil ?_)
        | (refine wPure rfl (by (first | (simp only [go_sem, *]; (first | done | exact rfl)) | rfl)) rfl (by (first | (simp only [go_sem, *]; (first | done | exact rfl)) | rfl)) ?_; dsimp only [putT, ev, Int.toNat_zero, Nat.sub_zero, Int.toNat_natCast,  gd_zero, gd_succ, Nat.zero_add, Nat.add_zero, Nat.reduceAdd, Nat.reduceMul, List.set_cons_zero, List.set_cons_succ, keep, List.contains_cons, List.contains_nil])
        | (refine wMk rfl (by (first | (simp only [go_sem, *]; (first | done | exact rfl)) | rfl)) rfl ?_; intro id hid; (try simp only [set_none_iff] at hid); have hz := hid; (repeat (replace hz := hz.2)); (try have := Up.none hu hz); refine ⟨_, (by (first | (simp only [go_sem, *]; (first | done | exact rfl)) | rfl)), ?_⟩; dsimp only [putT, ev, Int.toNat_zero, Nat.sub_zero, Int.toNat_natCast,  gd_zero, gd_succ, Nat.zero_add, Nat.add_zero, Nat.reduceAdd, Nat.reduceMul, List.set_cons_zero, List.set_cons_succ, keep, List.contains_cons, List.contains_nil])
        | (refine wChk rfl (by (first | (simp only [go_sem, *]; (first | done | exact rfl)) | rfl)) rfl (by (first | (simp only [go_sem, *]; (first | done | exact rfl)) | rfl)) rfl ?_) | (refine wChkF rfl (by (first | (simp only [go_sem, *]; (first | done | exact rfl)) | rfl)) rfl ?_)
        | (refine wSkip rfl (by (first | (simp only [go_sem, *]; (first | done | exact rfl)) | rfl)) ?_; dsimp only [putT, ev, Int.toNat_zero, Nat.sub_zero, Int.toNat_natCast,  gd_zero, gd_succ, Nat.zero_add, Nat.add_zero, Nat.reduceAdd, Nat.reduceMul, List.set_cons_zero, List.set_cons_succ, keep, List.contains_cons, List.contains_nil])
        | (refine cSeq ?_) | (refine cNorm ?_) | (refine cRet ?_) | (refine cExit ?_) | (refine W_reg rfl ?_) | (refine W_block ?_) | (refine W_ret ?_) | (refine W_skip ?_) | (refine W_exit ?_) | (refine bNorm ?_) | (refine bRet ?_) | (refine bExit ?_) | (refine bExitN rfl ?_)
        | (refine cMask' (by simp only [keep, List.contains_cons, List.contains_nil, Nat.reduceBEq, Bool.or_true, Bool.true_or, Bool.or_false, Bool.false_or, if_true, if_false, Bool.false_eq_true, beq_self_eq_true, Nat.zero_add, Nat.reduceAdd, eq_self]; exact rfl) ?_)
        | (refine cT (by (first | (simp only [go_sem, *]; (first | done | exact rfl)) | rfl)) ?_) | (refine cF (by (first | (simp only [go_sem, *]; (first | done | exact rfl)) | rfl)) ?_)
        | (refine rRet (by (first | (simp only [go_sem, *]; (first | done | exact rfl)) | rfl)) ?_) | (refine rNorm (by (first | (simp only [go_sem, *]; (first | done | exact rfl)) | rfl)) ?_)
        | (refine wSplit _ rfl (by (first | (simp only [go_sem, *]; (first | done | exact rfl)) | rfl)) ?_ ?_ <;> intro hb <;> (try simp only [beq_false, beq_true, Bool.not_true, Bool.not_false, Bool.not_eq_true', Bool.not_eq_false', decide_eq_false_iff_not, decide_eq_true_eq, bne_iff_ne, beq_iff_eq, Bool.true_eq, Bool.false_eq, Bool.not_not, Bool.and_eq_true, Bool.or_eq_true, Bool.bne_true, Bool.bne_false, bne_eq_false_iff_eq, beq_eq_false_iff_ne, ne_eq] at hb))
        | (refine W_cond _ (by (first | (simp only [go_sem, *]; (first | done | exact rfl)) | rfl)) ?_ ?_ <;> intro hb <;> (try simp only [beq_false, beq_true, Bool.not_true, Bool.not_false, Bool.not_eq_true', Bool.not_eq_false', decide_eq_false_iff_not, decide_eq_true_eq, bne_iff_ne, beq_iff_eq, Bool.true_eq, Bool.false_eq, Bool.not_not, Bool.and_eq_true, Bool.or_eq_true, Bool.bne_true, Bool.bne_false, bne_eq_false_iff_eq, beq_eq_false_iff_ne, ne_eq] at hb)))
      rename_i i4 a1 a2 a3 i5 b1 b2 b3 i6 d1 d2 d3
      obtain ⟨i9, rfl⟩ : ∃ x, x = id := ⟨_, rfl⟩
      have y4 : h i4 = none := a1
      have n54 : i5 ≠ i4 := b1.1
      have y5 : h i5 = none := b1.2
      have n65 : i6 ≠ i5 := d1.1
      have n64 : i6 ≠ i4 := d1.2.1
      have y6 : h i6 = none := d1.2.2
      have n96 : i9 ≠ i6 := hid.1
      have n95 : i9 ≠ i5 := hid.2.1
      have n94 : i9 ≠ i4 := hid.2.2.1
      have y9 : h i9 = none := hid.2.2.2
      have m4 := hn.more (b := ⟨true, [.int .i64 N, SL, SC]⟩) y4
      have m5 := m4.more (q := i5) (b := ⟨true, [.int .i64 x1, .int .i64 x2, .int .i64 x3, .str x4]⟩) (by rw [set_ne n54]; exact y5)
      have m6 := m5.more (q := i6) (b := ⟨true, [.int .i64 0, .nils, .nils]⟩) (by rw [set_ne n65, set_ne n64]; exact y6)
      have m9 := m6.more2 (q := i9) (z := some ⟨true, [.int .i64 0, .int .i64 0, .str ⟨#[]⟩]⟩) (b := ⟨true, [.int .i64 0, .int .i64 0, .str ⟨#[]⟩]⟩) (by rw [set_ne n96, set_ne n95, set_ne n94]; exact y9)
      have z4 : B0 i4 = none := hn.1.no y4
      have z5 : B0 i5 = none := hn.1.no y5
      have z6 : B0 i6 = none := hn.1.no y6
      have z9 : B0 i9 = none := hn.1.no y9
      have key := dispatch B0 _ _ p i4 i5 i6 i9 N L C V SL SC x1 x2 x3 0 0 x4 ⟨#[]⟩ false hN (fun y b e => by rw [set_ne (nei e z9), set_ne (nei e z6), set_ne (nei e z5), set_ne (nei e z4)]; exact e) z4 z6 m9 hC hL hV hv hlt hall hag (by rw [set_ne n94.symm, set_ne n64.symm, set_ne n54.symm, set_same]) (by rw [set_ne n95.symm, set_ne n65.symm, set_same]) (by rw [set_ne n96.symm, set_same]) (by rw [set_same]) n54.symm n64.symm n94.symm n65.symm n95.symm n96.symm hth.symm (fun e => by cases e)
      exact key
      
  · have hth : decide (0 ≤ x2 ∧ x2 < L.length) = false := by simp [x0]
    refine Sp_of (fn := f25) rfl (show W T b25 [.ptr p 0, .agg [.int .i64 N, SL, SC], .agg [.int .i64 x1, .int .i64 x2, .int .i64 x3, .str x4], .tup [], .tup [], .tup [], .tup [], .tup [], .tup [], .tup [], .tup [], .tup [], .tup [], .tup [], .tup [], .tup [], .tup [], .tup [], .tup [], .tup [], .tup [], .tup [], .tup [], .tup [], .tup [], .tup [], .tup [], .tup [], .tup [], .tup [], .tup [], .tup [], .tup [], .tup [], .tup [], .tup [], .tup [], .tup [], .tup [], .tup [], .tup [], .tup [], .tup [], .tup [], .tup [], .tup [], .tup [], .tup [], .tup [], .tup [], .tup [], .tup [], .tup [], .tup [], .tup [], .tup [], .tup [], .tup [], .tup [], .tup [], .tup [], .tup [], .tup [], .tup [], .tup [], .tup [], .tup [], .tup [], .tup [], .tup [], .tup [], .tup [], .tup [], .tup [], .tup [], .tup [], .tup [], .tup [], .tup [], .tup [], .tup [], .tup [], .tup [], .tup [], .tup [], .tup [], .tup [], .tup [], .tup [], .tup [], .tup [], .tup [], .tup [], .tup [], .tup [], .tup [], .tup [], .tup [], .tup [], .tup [], .tup [], .tup [], .tup [], .tup [], .tup [], .tup [], .tup [], .tup [], .tup [], .tup [], .tup [], .tup [], .tup [], .tup [], .tup [], .tup [], .tup [], .tup [], .tup [], .tup [], .tup [], .tup [], .tup [], .tup [], .tup [], .tup [], .tup [], .tup [], .tup [], .tup [], .tup [], .tup [], .tup [], .tup [], .tup [], .tup [], .tup [], .tup [], .tup [], .tup [], .tup [], .tup [], .tup [], .tup [], .tup [], .tup [], .tup [], .tup [], .tup [], .tup [], .tup [], .tup [], .tup [], .tup [], .tup [], .tup [], .tup [], .tup [], .tup [], .tup [], .tup [], .tup [], .tup [], .tup [], .tup [], .tup [], .tup [], .tup [], .tup [], .tup [], .tup [], .tup [], .tup [], .tup [], .tup [], .tup [], .tup [], .tup [], .tup []] _ _ from ?_)
    unfold b25
    iterate 38 (first
      | (refine wNil ?_)
      | (refine wPure rfl (by (first | (simp only [go_sem, *]; (first | done | exact rfl)) | rfl)) rfl (by (first | (simp only [go_sem, *]; (first | done | exact rfl)) | rfl)) ?_; dsimp only [putT, ev, Int.toNat_zero, Nat.sub_zero, Int.toNat_natCast,  gd_zero, gd_succ, Nat.zero_add, Nat.add_zero, Nat.reduceAdd, Nat.reduceMul, List.set_cons_zero, List.set_cons_succ, keep, List.contains_cons, List.contains_nil])
      | (refine wMk rfl (by (first | (simp only [go_sem, *]; (first | done | exact rfl)) | rfl)) rfl ?_; intro id hid; (try simp only [set_none_iff] at hid); have hz := hid; (repeat (replace hz := hz.2)); (try have := Up.none hu hz); refine ⟨_, (by (first | (simp only [go_sem, *]; (first | done | exact rfl)) | rfl)), ?_⟩; dsimp only [putT, ev, Int.toNat_zero, Nat.sub_zero, Int.toNat_natCast,  gd_zero, gd_succ, Nat.zero_add, Nat.add_zero, Nat.reduceAdd, Nat.reduceMul, List.set_cons_zero, List.set_cons_succ, keep, List.contains_cons, List.contains_nil])
      | (refine wChk rfl (by (first | (simp only [go_sem, *]; (first | done | exact rfl)) | rfl)) rfl (by (first | (simp only [go_sem, *]; (first | done | exact rfl)) | rfl)) rfl ?_) | (refine wChkF rfl (by (first | (simp only [go_sem, *]; (first | done | exact rfl)) | rfl)) rfl ?_)
      | (refine wSkip rfl (by (first | (simp only [go_sem, *]; (first | done | exact rfl)) | rfl)) ?_; dsimp only [putT, ev, Int.toNat_zero, Nat.sub_zero, Int.toNat_natCast,  gd_zero, gd_succ, Nat.zero_add, Nat.add_zero, Nat.reduceAdd, Nat.reduceMul, List.set_cons_zero, List.set_cons_succ, keep, List.contains_cons, List.contains_nil])
      | (refine cSeq ?_) | (refine cNorm ?_) | (refine cRet ?_) | (refine cExit ?_) | (refine W_reg rfl ?_) | (refine W_block ?_) | (refine W_ret ?_) | (refine W_skip ?_) | (refine W_exit ?_) | (refine bNorm ?_) | (refine bRet ?_) | (refine bExit ?_) | (refine bExitN rfl ?_)
      | (refine cMask' (by simp only [keep, List.contains_cons, List.contains_nil, Nat.reduceBEq, Bool.or_true, Bool.true_or, Bool.or_false, Bool.false_or, if_true, if_false, Bool.false_eq_true, beq_self_eq_true, Nat.zero_add, Nat.reduceAdd, eq_self]; exact rfl) ?_)
      | (refine cT (by (first | (simp only [go_sem, *]; (first | done | exact rfl)) | rfl)) ?_) | (refine cF (by (first | (simp only [go_sem, *]; (first | done | exact rfl)) | rfl)) ?_)
      | (refine rRet (by (first | (simp only [go_sem, *]; (first | done | exact rfl)) | rfl)) ?_) | (refine rNorm (by (first | (simp only [go_sem, *]; (first | done | exact rfl)) | rfl)) ?_)
      | (refine wSplit _ rfl (by (first | (simp only [go_sem, *]; (first | done | exact rfl)) | rfl)) ?_ ?_ <;> intro hb <;> (try simp only [beq_false, beq_true, Bool.not_true, Bool.not_false, Bool.not_eq_true', Bool.not_eq_false', decide_eq_false_iff_not, decide_eq_true_eq, bne_iff_ne, beq_iff_eq, Bool.true_eq, Bool.false_eq, Bool.not_not, Bool.and_eq_true, Bool.or_eq_true, Bool.bne_true, Bool.bne_false, bne_eq_false_iff_eq, beq_eq_false_iff_ne, ne_eq] at hb))
      | (refine W_cond _ (by (first | (simp only [go_sem, *]; (first | done | exact rfl)) | rfl)) ?_ ?_ <;> intro hb <;> (try simp only [beq_false, beq_true, Bool.not_true, Bool.not_false, Bool.not_eq_true', Bool.not_eq_false', decide_eq_false_iff_not, decide_eq_true_eq, bne_iff_ne, beq_iff_eq, Bool.true_eq, Bool.false_eq, Bool.not_not, Bool.and_eq_true, Bool.or_eq_true, Bool.bne_true, Bool.bne_false, bne_eq_false_iff_eq, beq_eq_false_iff_ne, ne_eq] at hb)))
    rename_i i4 a1 a2 a3 i5 b1 b2 b3 i6 d1 d2 d3
    obtain ⟨i9, rfl⟩ : ∃ x, x = id := ⟨_, rfl⟩
    have y4 : h i4 = none := a1
    have n54 : i5 ≠ i4 := b1.1
    have y5 : h i5 = none := b1.2
    have n65 : i6 ≠ i5 := d1.1
    have n64 : i6 ≠ i4 := d1.2.1
    have y6 : h i6 = none := d1.2.2
    have n96 : i9 ≠ i6 := hid.1
    have n95 : i9 ≠ i5 := hid.2.1
    have n94 : i9 ≠ i4 := hid.2.2.1
    have y9 : h i9 = none := hid.2.2.2
    have m4 := hn.more (b := ⟨true, [.int .i64 N, SL, SC]⟩) y4
    have m5 := m4.more (q := i5) (b := ⟨true, [.int .i64 x1, .int .i64 x2, .int .i64 x3, .str x4]⟩) (by rw [set_ne n54]; exact y5)
    have m6 := m5.more (q := i6) (b := ⟨true, [.int .i64 0, .nils, .nils]⟩) (by rw [set_ne n65, set_ne n64]; exact y6)
    have m9 := m6.more2 (q := i9) (z := some ⟨true, [.int .i64 0, .int .i64 0, .str ⟨#[]⟩]⟩) (b := ⟨true, [.int .i64 0, .int .i64 0, .str ⟨#[]⟩]⟩) (by rw [set_ne n96, set_ne n95, set_ne n94]; exact y9)
    have z4 : B0 i4 = none := hn.1.no y4
    have z5 : B0 i5 = none := hn.1.no y5
    have z6 : B0 i6 = none := hn.1.no y6
    have z9 : B0 i9 = none := hn.1.no y9
    have key := dispatch B0 _ _ p i4 i5 i6 i9 N L C V SL SC x1 x2 x3 0 0 x4 ⟨#[]⟩ false hN (fun y b e => by rw [set_ne (nei e z9), set_ne (nei e z6), set_ne (nei e z5), set_ne (nei e z4)]; exact e) z4 z6 m9 hC hL hV hv hlt hall hag (by rw [set_ne n94.symm, set_ne n64.symm, set_ne n54.symm, set_same]) (by rw [set_ne n95.symm, set_ne n65.symm, set_same]) (by rw [set_ne n96.symm, set_same]) (by rw [set_same]) n54.symm n64.symm n94.symm n65.symm n95.symm n96.symm hth.symm (fun e => by cases e)
    exact key
    
end Go.Proofs.YtdehmopdlbdmfaaI
