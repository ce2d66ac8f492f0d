import Derived.Test.YtdehmopdlbdmfaaN24
set_option linter.unusedVariables false
set_option linter.unusedSimpArgs false
set_option maxRecDepth 100000
set_option maxHeartbeats 4000000
namespace Go.Proofs.YtdehmopdlbdmfaaI
open Go Go.Proofs.YtdehmopdlbdmfaaM
attribute [local go_sem] aop ev fg_slc fg_slk fg_ptr fg_bool fg_int fg_str fg_iface fg_func fg_agg fg_tup fg_nils fg_nilp fg_nilI fg_nilF fg_und aboundsK alen_nils alen_slc alen_slk aslice_nils aslice_slc aslice_slk awanted abin aun aint aeqn aeqc aeqs apart abounds abnd amaxi amaxiGo cells_agg cells_slc cells_slk cells_ptr cells_bool cells_int cells_str cells_iface cells_func cells_tup cells_nils cells_nilp cells_nilI cells_nilF cells_und sc_slc sc_slk sc_ptr sc_bool sc_int sc_str sc_iface sc_func sc_nils sc_nilp sc_nilI sc_nilF gd_zero gd_succ List.all_cons List.all_nil Bool.and_self Bool.and_true Bool.true_and List.length_cons List.length_nil Option.map_some Option.some.injEq cell_same cell_ne cell_ne' cellsAt_same cellsAt_ne cellsAt_ne' put_same put_of set_same set_ne set_ne' List.getElem?_cons_zero List.getElem?_cons_succ if_true if_false and_self and_true true_and ne_eq not_true_eq_false not_false_eq_true decide_true decide_false Bool.false_eq_true Bool.true_eq_false beq_self_eq_true bne_self_eq_false beq_true beq_false Bool.not_true Bool.not_false List.map_cons List.map_nil putL List.set_cons_zero List.set_cons_succ afill Nat.zero_le Nat.le_refl Nat.zero_add Nat.add_zero List.drop_zero List.drop_succ_cons List.take_zero List.take_succ_cons Bool.not_eq_true Bool.not_eq_false decide_eq_true_eq decide_eq_false_iff_not Int.toNat_zero Nat.sub_zero Int.toNat_natCast Bool.bne_true Bool.bne_false AH.cell AH.cellsAt AH.put Nat.mul_one Nat.one_mul Int.natCast_nonneg List.length_set bne_self_eq_false azeros List.cons_append List.nil_append List.append_nil aapp Int.le_refl

theorem hasW_app (A B : List Wy) (a b : Int) : hasW (A ++ B) a b = (hasW A a b || hasW B a b) := List.any_append
theorem hasW_cut (V : List Wy) (x y a b : Int) : hasW (cutW V x y) a b = (hasW V a b && !(a == x && b == y)) := by
  induction V with
  | nil => rfl
  | cons w V ih =>
    have e1 : hasW (w :: V) a b = ((w.1 == a && w.2 == b) || hasW V a b) := rfl
    have e2 : cutW (w :: V) x y = if (w.1 != x || w.2 != y) then w :: cutW V x y else cutW V x y := List.filter_cons
    rw [e1, e2]
    obtain ⟨u, v⟩ := w
    by_cases h1 : u = x
    · by_cases h2 : v = y
      · subst h1; subst h2
        simp only [bne_self_eq_false, Bool.or_false, Bool.false_eq_true, if_false]
        rw [ih]
        by_cases h3 : u = a
        · by_cases h4 : v = b
          · subst h3; subst h4; simp
          · have : (v == b) = false := by simpa using h4
            rw [this]; simp
        · have : (u == a) = false := by simpa using h3
          rw [this]; simp
      · have e3 : (v != y) = true := by simpa using h2
        simp only [e3, Bool.or_true, if_true]
        have e4 : hasW ((u, v) :: cutW V x y) a b = ((u == a && v == b) || hasW (cutW V x y) a b) := rfl
        rw [e4, ih]
        by_cases h4 : v = b
        · subst h4
          have : (v == y) = false := by simpa using h2
          rw [this]; simp
        · have : (v == b) = false := by simpa using h4
          rw [this]; simp
    · have e3 : (u != x) = true := by simpa using h1
      simp only [e3, Bool.true_or, if_true]
      have e4 : hasW ((u, v) :: cutW V x y) a b = ((u == a && v == b) || hasW (cutW V x y) a b) := rfl
      rw [e4, ih]
      by_cases h4 : u = a
      · subst h4
        have : (u == x) = false := by simpa using h1
        rw [this]; simp
      · have : (u == a) = false := by simpa using h4
        rw [this]; simp
theorem agree_set {N : Int} {C C' : List Int} {V : List Wy} {x y : Int} {is : Bool} (hN : N ≤ 12) (hag : ∀ a b : Int, (isW N a b && cutBit C a.toNat b.toNat) = hasW V a b) (hw : isW N x y = true) (hs : Set1 C C' x.toNat y.toNat is) (a b : Int) : (isW N a b && cutBit C' a.toNat b.toNat) = hasW (setW N V x y is) a b := by
  unfold setW
  rw [hasW_app, hasW_cut, ← hag, hw, Bool.and_true]
  have hw' := hw
  simp only [isW, decide_eq_true_eq] at hw'
  have hone : hasW (if is then [(x, y)] else []) a b = (is && (x == a && y == b)) := by cases is <;> simp [hasW]
  rw [hone]
  cases hab : isW N a b with
  | false =>
    have hne : (x == a && y == b) = false := by
      cases h : (x == a && y == b) with
      | false => rfl
      | true =>
        simp only [Bool.and_eq_true, beq_iff_eq] at h
        rw [← h.1, ← h.2, hw] at hab; cases hab
    rw [hne]; simp
  | true =>
    have hab' := hab
    simp only [isW, decide_eq_true_eq] at hab'
    rw [Bool.true_and, Bool.true_and, hs.2 a.toNat b.toNat (by omega)]
    by_cases h : a = x ∧ b = y
    · rw [if_pos ⟨by rw [h.1], by rw [h.2]⟩, h.1, h.2]; simp
    · rw [if_neg (fun e => h ⟨by omega, by omega⟩)]
      have h1 : (a == x && b == y) = false := by
        cases e : (a == x && b == y) with
        | false => rfl
        | true => simp only [Bool.and_eq_true, beq_iff_eq] at e; exact absurd e h
      have h2 : (x == a && y == b) = false := by
        cases e : (x == a && y == b) with
        | false => rfl
        | true => simp only [Bool.and_eq_true, beq_iff_eq] at e; exact absurd ⟨e.1.symm, e.2.symm⟩ h
      rw [h1, h2]; simp
theorem agree_no {N : Int} {C : List Int} {V : List Wy} {x y : Int} {is : Bool} (hag : ∀ a b : Int, (isW N a b && cutBit C a.toNat b.toNat) = hasW V a b) (hw : isW N x y = false) (a b : Int) : (isW N a b && cutBit C a.toNat b.toNat) = hasW (setW N V x y is) a b := by
  unfold setW
  rw [hasW_app, hasW_cut, hag, hw, Bool.and_false]
  have hn : hasW (if false = true then [(x, y)] else []) a b = false := rfl
  rw [hn, Bool.or_false]
  cases e : (a == x && b == y) with
  | false => simp
  | true =>
    simp only [Bool.and_eq_true, beq_iff_eq] at e
    have := hag a b
    rw [e.1, e.2, hw, Bool.false_and] at this
    rw [e.1, e.2, ← this]; rfl
theorem sp23g (h0 : AH) (p : List Nat) (a b : Int) (is : Bool) (N : Int) (L : List Pk) (C : List Int) (V : List Wy) (h : AH) (hn : Nt h0 p h N L C) (hN : N ≤ 12) (hC : okC C) (hag : ∀ a b : Int, (isW N a b && cutBit C a.toNat b.toNat) = hasW V a b) :
    Sp T 23 [.ptr p 0, .int .i64 a, .int .i64 b, .bool is] h (fun v h' => ∃ C', okC C' ∧ Nt h0 p h' N L C' ∧ ∀ x y : Int, (isW N x y && cutBit C' x.toNat y.toNat) = hasW (setW N V a b is) x y) := by
  refine Sp.mono (sp23 h0 p a b is N L C h hn hN hC) ?_
  intro v h' hh
  cases hw : isW N a b with
  | true =>
    rw [hw] at hh
    obtain ⟨C', h1, h2⟩ := hh
    exact ⟨C', h1.1, h2, agree_set hN hag hw h1⟩
  | false =>
    rw [hw] at hh
    exact ⟨C, hC, hh, agree_no hag hw⟩
theorem setW_len (N : Int) (V : List Wy) (a b : Int) (is : Bool) : (setW N V a b is).length ≤ V.length + 1 := by
  unfold setW
  rw [List.length_append]
  have := cutW_len V a b
  have h2 : (if is && isW N a b then [(a, b)] else []).length ≤ 1 := by split <;> simp
  omega
theorem d5 (B0 B h1 : AH) (p i4 i5 i6 i9 : List Nat) (N : Int) (L : List Pk) (C : List Int) (V : List Wy) (SL SC : AV) (x1 x2 x3 pa pb : Int) (x4 pc : ByteArray) (th : Bool) (hN : N ≤ 12) (h0 : Sub B0 B) (z4 : B0 i4 = none) (z6 : B0 i6 = none) (hn : Nt B p h1 N L C) (hC : okC C) (hL : Lv e3 3 B0 SL L) (hV : Lv e2 2 B0 SC V) (hv : V.length ≤ 100) (hlt : L.length ≤ 100) (hall : ∀ q ∈ L, isW N q.1 q.2.1 = true) (hag : ∀ a b : Int, (isW N a b && cutBit C a.toNat b.toNat) = hasW V a b) (B4 : B i4 = some ⟨true, [.int .i64 N, SL, SC]⟩) (B5 : B i5 = some ⟨true, [.int .i64 x1, .int .i64 x2, .int .i64 x3, .str x4]⟩) (B6 : B i6 = some ⟨true, [.int .i64 0, .nils, .nils]⟩) (B9 : B i9 = some ⟨true, [.int .i64 pa, .int .i64 pb, .str pc]⟩) (n45 : i4 ≠ i5) (n46 : i4 ≠ i6) (n49 : i4 ≠ i9) (n56 : i5 ≠ i6) (n59 : i5 ≠ i9) (n69 : i6 ≠ i9) (hth : th = decide (0 ≤ x2 ∧ x2 < L.length)) (hq : th = true → L[x2.toNat]? = some (pa, pb, pc)) (hk : x1 = 5) : W T rest25 [.ptr p 0, .und, .und, .und, .ptr i4 0, .ptr i5 0, .ptr i6 0, .und, .bool th, .ptr i9 0, .und, .und, .und, .und, .und, .und, .und, .und, .und, .und, .und, .und, .und, .und, .und, .und, .und, .und, .und, .und, .und, .und, .und, .und, .und, .und, .und, .und, .und, .und, .und, .und, .und, .und, .und, .und, .und, .und, .und, .und, .und, .und, .und, .und, .und, .und, .und, .und, .und, .und, .und, .und, .und, .und, .und, .und, .und, .und, .und, .und, .und, .und, .und, .und, .und, .und, .und, .und, .und, .und, .und, .und, .und, .und, .und, .und, .und, .und, .und, .und, .und, .und, .und, .und, .und, .und, .und, .und, .und, .und, .und, .und, .und, .und, .und, .und, .und, .und, .und, .und, .und, .und, .und, .und, .und, .und, .und, .und, .und, .und, .und, .und, .und, .und, .und, .und, .und, .und, .und, .und, .und, .und, .und, .und, .und, .und, .und, .und, .und, .und, .und, .und, .und, .und, .und, .und, .und, .und, .und, .und, .und, .und, .und, .und, .und, .und, .und, .und, .und, .und, .und, .und, .und, .und, .und, .und, .und, .und, .und, .und, .und, .und, .und, .und, .und, .und, .und, .und, .und] h1 (Rets f25 fun v h' => DoQ B0 p N L V v h') := by
  obtain ⟨c1, c2, c3⟩ := hL.len
  obtain ⟨c4, c5, c6⟩ := hV.len
  have g4 := hn.1 _ _ B4
  have g5 := hn.1 _ _ B5
  have g6 := hn.1 _ _ B6
  have g9 := hn.1 _ _ B9
  have hu := Up.refl h1
  have hBh : Up B0 h1 := fun y b e => hn.1 _ _ (h0 _ _ e)
  have k0 : (x1 == 0) = false := by simp; omega
  have k1 : (x1 == 1) = false := by simp; omega
  have k2 : (x1 == 2) = false := by simp; omega
  have k3 : (x1 == 3) = false := by simp; omega
  have k4 : (x1 == 4) = false := by simp; omega
  have k5 : (x1 == 5) = true := by simp; omega
  clear hk
  unfold rest25
  repeat' (first
    | (refine wNil ?_)
    | (refine wPure rfl (by (first | (simp only [go_sem, *]; (first | done | exact rfl)) | rfl)) rfl (by (first | (simp only [go_sem, *]; (first | done | exact rfl)) | rfl)) ?_; dsimp only [putT, ev, Int.toNat_zero, Nat.sub_zero, Int.toNat_natCast,  gd_zero, gd_succ, Nat.zero_add, Nat.add_zero, Nat.reduceAdd, Nat.reduceMul, List.set_cons_zero, List.set_cons_succ, keep, List.contains_cons, List.contains_nil])
    | (refine wMk rfl (by (first | (simp only [go_sem, *]; (first | done | exact rfl)) | rfl)) rfl ?_; intro id hid; (try simp only [set_none_iff] at hid); refine ⟨_, (by (first | (simp only [go_sem, *]; (first | done | exact rfl)) | rfl)), ?_⟩; dsimp only [putT, ev, Int.toNat_zero, Nat.sub_zero, Int.toNat_natCast,  gd_zero, gd_succ, Nat.zero_add, Nat.add_zero, Nat.reduceAdd, Nat.reduceMul, List.set_cons_zero, List.set_cons_succ, keep, List.contains_cons, List.contains_nil])
    | (refine wChk rfl (by (first | (simp only [go_sem, *]; (first | done | exact rfl)) | rfl)) rfl (by (first | (simp only [go_sem, *]; (first | done | exact rfl)) | rfl)) rfl ?_) | (refine wChkF rfl (by (first | (simp only [go_sem, *]; (first | done | exact rfl)) | rfl)) rfl ?_)
    | (refine wSkip rfl (by (first | (simp only [go_sem, *]; (first | done | exact rfl)) | rfl)) ?_; dsimp only [putT, ev, Int.toNat_zero, Nat.sub_zero, Int.toNat_natCast,  gd_zero, gd_succ, Nat.zero_add, Nat.add_zero, Nat.reduceAdd, Nat.reduceMul, List.set_cons_zero, List.set_cons_succ, keep, List.contains_cons, List.contains_nil])
    | (refine wCall rfl (by (first | (simp only [awanted, gd_zero, gd_succ, beq_self_eq_true, beq_true, beq_false, Bool.not_true, Bool.not_false, *]; done) | rfl)) rfl (Sp.mono (sp23g B p x2 x3 true N L C V _ hn hN hC hag) ?_); rintro v h2 ⟨C', hC', hn2, hag2⟩; have e4 := hn2.1 _ _ B4; have e5 := hn2.1 _ _ B5; have e6 := hn2.1 _ _ B6; have hB2 : Up B0 h2 := (fun y b e => hn2.1 _ _ (h0 _ _ e)); dsimp only [putT, ev, Int.toNat_zero, Nat.sub_zero, Int.toNat_natCast,  gd_zero, gd_succ, Nat.zero_add, Nat.add_zero, Nat.reduceAdd, Nat.reduceMul, List.set_cons_zero, List.set_cons_succ, keep, List.contains_cons, List.contains_nil])
    | (refine wCall rfl (by (first | (simp only [awanted, gd_zero, gd_succ, beq_self_eq_true, beq_true, beq_false, Bool.not_true, Bool.not_false, *]; done) | rfl)) rfl (Sp.mono (sp72 N x2 x3 true SL SC V h2 (hV.up hB2) ⟨c3, c2⟩ (by omega)) ?_); rintro v h4 ⟨SC', rfl, hu4, iw, w1, rfl, w3⟩; have r4 := hu4 _ _ e4; have r5 := hu4 _ _ e5; have r6 := hu4 _ _ e6; dsimp only [putT, ev, Int.toNat_zero, Nat.sub_zero, Int.toNat_natCast,  gd_zero, gd_succ, Nat.zero_add, Nat.add_zero, Nat.reduceAdd, Nat.reduceMul, List.set_cons_zero, List.set_cons_succ, keep, List.contains_cons, List.contains_nil])
    | (refine cSeq ?_) | (refine cNorm ?_) | (refine cRet ?_) | (refine cExit ?_) | (refine W_reg rfl ?_) | (refine W_block ?_) | (refine W_ret ?_) | (refine W_skip ?_) | (refine W_exit ?_) | (refine bNorm ?_) | (refine bRet ?_) | (refine bExit ?_) | (refine bExitN rfl ?_)
    | (refine cMask' (by simp only [keep, List.contains_cons, List.contains_nil, Nat.reduceBEq, Bool.or_true, Bool.true_or, Bool.or_false, Bool.false_or, if_true, if_false, Bool.false_eq_true, beq_self_eq_true, Nat.zero_add, Nat.reduceAdd, eq_self]; exact rfl) ?_)
    | (refine cT (by (first | (simp only [go_sem, *]; (first | done | exact rfl)) | rfl)) ?_) | (refine cF (by (first | (simp only [go_sem, *]; (first | done | exact rfl)) | rfl)) ?_)
    | (refine rRet (by (first | (simp only [go_sem, *]; (first | done | exact rfl)) | rfl)) ?_) | (refine rNorm (by (first | (simp only [go_sem, *]; (first | done | exact rfl)) | rfl)) ?_)
    | (refine wSplit _ rfl (by (first | (simp only [go_sem, *]; (first | done | exact rfl)) | rfl)) ?_ ?_ <;> intro hb <;> (try simp only [beq_false, beq_true, Bool.not_true, Bool.not_false, Bool.not_eq_true', Bool.not_eq_false', decide_eq_false_iff_not, decide_eq_true_eq, bne_iff_ne, beq_iff_eq, Bool.true_eq, Bool.false_eq, Bool.not_not, Bool.and_eq_true, Bool.or_eq_true, Bool.bne_true, Bool.bne_false, bne_eq_false_iff_eq, beq_eq_false_iff_ne, ne_eq] at hb))
    | (refine W_cond _ (by (first | (simp only [go_sem, *]; (first | done | exact rfl)) | rfl)) ?_ ?_ <;> intro hb <;> (try simp only [beq_false, beq_true, Bool.not_true, Bool.not_false, Bool.not_eq_true', Bool.not_eq_false', decide_eq_false_iff_not, decide_eq_true_eq, bne_iff_ne, beq_iff_eq, Bool.true_eq, Bool.false_eq, Bool.not_not, Bool.and_eq_true, Bool.or_eq_true, Bool.bne_true, Bool.bne_false, bne_eq_false_iff_eq, beq_eq_false_iff_ne, ne_eq] at hb)))
  have hn5 := (hn2.grow hu4).poke (x := i4) (b := ⟨true, [.int .i64 N, SL, .slc iw 0 (setW N V x2 x3 true).length 2]⟩) ((ext_old e4).trans B4)
  obtain ⟨q1, q2, q3⟩ := doq46 h0 hn2.1 z4 z6 B4 B6 n46 _ hn5 ⟨true, [.int .i64 N, SL, .slc iw 0 (setW N V x2 x3 true).length 2]⟩
  all_goals (refine ⟨[.agg [.int .i64 N, SL, .slc iw 0 (setW N V x2 x3 true).length 2], .bool true], (by simp [ares, ares1, f25, ev, AH.cellsAt, AH.cell, set_same]), _, L, C', setW N V x2 x3 true, SL, _, rfl, q1, q2, hC', hL.up q1, .inr ⟨iw, true, rfl, q3 iw _ w1 w3⟩, setW_len _ _ _ _ _, by omega, hall, hag2⟩)
theorem d6 (B0 B h1 : AH) (p i4 i5 i6 i9 : List Nat) (N : Int) (L : List Pk) (C : List Int) (V : List Wy) (SL SC : AV) (x1 x2 x3 pa pb : Int) (x4 pc : ByteArray) (th : Bool) (hN : N ≤ 12) (h0 : Sub B0 B) (z4 : B0 i4 = none) (z6 : B0 i6 = none) (hn : Nt B p h1 N L C) (hC : okC C) (hL : Lv e3 3 B0 SL L) (hV : Lv e2 2 B0 SC V) (hv : V.length ≤ 100) (hlt : L.length ≤ 100) (hall : ∀ q ∈ L, isW N q.1 q.2.1 = true) (hag : ∀ a b : Int, (isW N a b && cutBit C a.toNat b.toNat) = hasW V a b) (B4 : B i4 = some ⟨true, [.int .i64 N, SL, SC]⟩) (B5 : B i5 = some ⟨true, [.int .i64 x1, .int .i64 x2, .int .i64 x3, .str x4]⟩) (B6 : B i6 = some ⟨true, [.int .i64 0, .nils, .nils]⟩) (B9 : B i9 = some ⟨true, [.int .i64 pa, .int .i64 pb, .str pc]⟩) (n45 : i4 ≠ i5) (n46 : i4 ≠ i6) (n49 : i4 ≠ i9) (n56 : i5 ≠ i6) (n59 : i5 ≠ i9) (n69 : i6 ≠ i9) (hth : th = decide (0 ≤ x2 ∧ x2 < L.length)) (hq : th = true → L[x2.toNat]? = some (pa, pb, pc)) (hk : x1 = 6) : W T rest25 [.ptr p 0, .und, .und, .und, .ptr i4 0, .ptr i5 0, .ptr i6 0, .und, .bool th, .ptr i9 0, .und, .und, .und, .und, .und, .und, .und, .und, .und, .und, .und, .und, .und, .und, .und, .und, .und, .und, .und, .und, .und, .und, .und, .und, .und, .und, .und, .und, .und, .und, .und, .und, .und, .und, .und, .und, .und, .und, .und, .und, .und, .und, .und, .und, .und, .und, .und, .und, .und, .und, .und, .und, .und, .und, .und, .und, .und, .und, .und, .und, .und, .und, .und, .und, .und, .und, .und, .und, .und, .und, .und, .und, .und, .und, .und, .und, .und, .und, .und, .und, .und, .und, .und, .und, .und, .und, .und, .und, .und, .und, .und, .und, .und, .und, .und, .und, .und, .und, .und, .und, .und, .und, .und, .und, .und, .und, .und, .und, .und, .und, .und, .und, .und, .und, .und, .und, .und, .und, .und, .und, .und, .und, .und, .und, .und, .und, .und, .und, .und, .und, .und, .und, .und, .und, .und, .und, .und, .und, .und, .und, .und, .und, .und, .und, .und, .und, .und, .und, .und, .und, .und, .und, .und, .und, .und, .und, .und, .und, .und, .und, .und, .und, .und, .und, .und, .und, .und, .und, .und] h1 (Rets f25 fun v h' => DoQ B0 p N L V v h') := by
  obtain ⟨c1, c2, c3⟩ := hL.len
  obtain ⟨c4, c5, c6⟩ := hV.len
  have g4 := hn.1 _ _ B4
  have g5 := hn.1 _ _ B5
  have g6 := hn.1 _ _ B6
  have g9 := hn.1 _ _ B9
  have hu := Up.refl h1
  have hBh : Up B0 h1 := fun y b e => hn.1 _ _ (h0 _ _ e)
  have k0 : (x1 == 0) = false := by simp; omega
  have k1 : (x1 == 1) = false := by simp; omega
  have k2 : (x1 == 2) = false := by simp; omega
  have k3 : (x1 == 3) = false := by simp; omega
  have k4 : (x1 == 4) = false := by simp; omega
  have k5 : (x1 == 5) = false := by simp; omega
  have k6 : (x1 == 6) = true := by simp; omega
  clear hk
  unfold rest25
  repeat' (first
    | (refine wNil ?_)
    | (refine wPure rfl (by (first | (simp only [go_sem, *]; (first | done | exact rfl)) | rfl)) rfl (by (first | (simp only [go_sem, *]; (first | done | exact rfl)) | rfl)) ?_; dsimp only [putT, ev, Int.toNat_zero, Nat.sub_zero, Int.toNat_natCast,  gd_zero, gd_succ, Nat.zero_add, Nat.add_zero, Nat.reduceAdd, Nat.reduceMul, List.set_cons_zero, List.set_cons_succ, keep, List.contains_cons, List.contains_nil])
    | (refine wMk rfl (by (first | (simp only [go_sem, *]; (first | done | exact rfl)) | rfl)) rfl ?_; intro id hid; (try simp only [set_none_iff] at hid); refine ⟨_, (by (first | (simp only [go_sem, *]; (first | done | exact rfl)) | rfl)), ?_⟩; dsimp only [putT, ev, Int.toNat_zero, Nat.sub_zero, Int.toNat_natCast,  gd_zero, gd_succ, Nat.zero_add, Nat.add_zero, Nat.reduceAdd, Nat.reduceMul, List.set_cons_zero, List.set_cons_succ, keep, List.contains_cons, List.contains_nil])
    | (refine wChk rfl (by (first | (simp only [go_sem, *]; (first | done | exact rfl)) | rfl)) rfl (by (first | (simp only [go_sem, *]; (first | done | exact rfl)) | rfl)) rfl ?_) | (refine wChkF rfl (by (first | (simp only [go_sem, *]; (first | done | exact rfl)) | rfl)) rfl ?_)
    | (refine wSkip rfl (by (first | (simp only [go_sem, *]; (first | done | exact rfl)) | rfl)) ?_; dsimp only [putT, ev, Int.toNat_zero, Nat.sub_zero, Int.toNat_natCast,  gd_zero, gd_succ, Nat.zero_add, Nat.add_zero, Nat.reduceAdd, Nat.reduceMul, List.set_cons_zero, List.set_cons_succ, keep, List.contains_cons, List.contains_nil])
    | (refine wCall rfl (by (first | (simp only [awanted, gd_zero, gd_succ, beq_self_eq_true, beq_true, beq_false, Bool.not_true, Bool.not_false, *]; done) | rfl)) rfl (Sp.mono (sp23g B p x2 x3 false N L C V _ hn hN hC hag) ?_); rintro v h2 ⟨C', hC', hn2, hag2⟩; have e4 := hn2.1 _ _ B4; have e5 := hn2.1 _ _ B5; have e6 := hn2.1 _ _ B6; have hB2 : Up B0 h2 := (fun y b e => hn2.1 _ _ (h0 _ _ e)); dsimp only [putT, ev, Int.toNat_zero, Nat.sub_zero, Int.toNat_natCast,  gd_zero, gd_succ, Nat.zero_add, Nat.add_zero, Nat.reduceAdd, Nat.reduceMul, List.set_cons_zero, List.set_cons_succ, keep, List.contains_cons, List.contains_nil])
    | (refine wCall rfl (by (first | (simp only [awanted, gd_zero, gd_succ, beq_self_eq_true, beq_true, beq_false, Bool.not_true, Bool.not_false, *]; done) | rfl)) rfl (Sp.mono (sp72 N x2 x3 false SL SC V h2 (hV.up hB2) ⟨c3, c2⟩ (by omega)) ?_); rintro v h4 ⟨SC', rfl, hu4, iw, w1, rfl, w3⟩; have r4 := hu4 _ _ e4; have r5 := hu4 _ _ e5; have r6 := hu4 _ _ e6; dsimp only [putT, ev, Int.toNat_zero, Nat.sub_zero, Int.toNat_natCast,  gd_zero, gd_succ, Nat.zero_add, Nat.add_zero, Nat.reduceAdd, Nat.reduceMul, List.set_cons_zero, List.set_cons_succ, keep, List.contains_cons, List.contains_nil])
    | (refine cSeq ?_) | (refine cNorm ?_) | (refine cRet ?_) | (refine cExit ?_) | (refine W_reg rfl ?_) | (refine W_block ?_) | (refine W_ret ?_) | (refine W_skip ?_) | (refine W_exit ?_) | (refine bNorm ?_) | (refine bRet ?_) | (refine bExit ?_) | (refine bExitN rfl ?_)
    | (refine cMask' (by simp only [keep, List.contains_cons, List.contains_nil, Nat.reduceBEq, Bool.or_true, Bool.true_or, Bool.or_false, Bool.false_or, if_true, if_false, Bool.false_eq_true, beq_self_eq_true, Nat.zero_add, Nat.reduceAdd, eq_self]; exact rfl) ?_)
    | (refine cT (by (first | (simp only [go_sem, *]; (first | done | exact rfl)) | rfl)) ?_) | (refine cF (by (first | (simp only [go_sem, *]; (first | done | exact rfl)) | rfl)) ?_)
    | (refine rRet (by (first | (simp only [go_sem, *]; (first | done | exact rfl)) | rfl)) ?_) | (refine rNorm (by (first | (simp only [go_sem, *]; (first | done | exact rfl)) | rfl)) ?_)
    | (refine wSplit _ rfl (by (first | (simp only [go_sem, *]; (first | done | exact rfl)) | rfl)) ?_ ?_ <;> intro hb <;> (try simp only [beq_false, beq_true, Bool.not_true, Bool.not_false, Bool.not_eq_true', Bool.not_eq_false', decide_eq_false_iff_not, decide_eq_true_eq, bne_iff_ne, beq_iff_eq, Bool.true_eq, Bool.false_eq, Bool.not_not, Bool.and_eq_true, Bool.or_eq_true, Bool.bne_true, Bool.bne_false, bne_eq_false_iff_eq, beq_eq_false_iff_ne, ne_eq] at hb))
    | (refine W_cond _ (by (first | (simp only [go_sem, *]; (first | done | exact rfl)) | rfl)) ?_ ?_ <;> intro hb <;> (try simp only [beq_false, beq_true, Bool.not_true, Bool.not_false, Bool.not_eq_true', Bool.not_eq_false', decide_eq_false_iff_not, decide_eq_true_eq, bne_iff_ne, beq_iff_eq, Bool.true_eq, Bool.false_eq, Bool.not_not, Bool.and_eq_true, Bool.or_eq_true, Bool.bne_true, Bool.bne_false, bne_eq_false_iff_eq, beq_eq_false_iff_ne, ne_eq] at hb)))
  have hn5 := (hn2.grow hu4).poke (x := i4) (b := ⟨true, [.int .i64 N, SL, .slc iw 0 (setW N V x2 x3 false).length 2]⟩) ((ext_old e4).trans B4)
  obtain ⟨q1, q2, q3⟩ := doq46 h0 hn2.1 z4 z6 B4 B6 n46 _ hn5 ⟨true, [.int .i64 N, SL, .slc iw 0 (setW N V x2 x3 false).length 2]⟩
  all_goals (refine ⟨[.agg [.int .i64 N, SL, .slc iw 0 (setW N V x2 x3 false).length 2], .bool true], (by simp [ares, ares1, f25, ev, AH.cellsAt, AH.cell, set_same]), _, L, C', setW N V x2 x3 false, SL, _, rfl, q1, q2, hC', hL.up q1, .inr ⟨iw, true, rfl, q3 iw _ w1 w3⟩, setW_len _ _ _ _ _, by omega, hall, hag2⟩)
end Go.Proofs.YtdehmopdlbdmfaaI
