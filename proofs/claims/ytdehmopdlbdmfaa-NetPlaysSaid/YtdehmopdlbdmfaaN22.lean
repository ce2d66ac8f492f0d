import Derived.Test.YtdehmopdlbdmfaaN21
set_option linter.unusedVariables false
set_option linter.unusedSimpArgs false
set_option maxRecDepth 100000
set_option maxHeartbeats 4000000
namespace Go.Proofs.YtdehmopdlbdmfaaI
open Go Go.Proofs.YtdehmopdlbdmfaaM
attribute [local go_sem] aop ev fg_slc fg_slk fg_ptr fg_bool fg_int fg_str fg_iface fg_func fg_agg fg_tup fg_nils fg_nilp fg_nilI fg_nilF fg_und aboundsK alen_nils alen_slc alen_slk aslice_nils aslice_slc aslice_slk awanted abin aun aint aeqn aeqc aeqs apart abounds abnd amaxi amaxiGo cells_agg cells_slc cells_slk cells_ptr cells_bool cells_int cells_str cells_iface cells_func cells_tup cells_nils cells_nilp cells_nilI cells_nilF cells_und sc_slc sc_slk sc_ptr sc_bool sc_int sc_str sc_iface sc_func sc_nils sc_nilp sc_nilI sc_nilF gd_zero gd_succ List.all_cons List.all_nil Bool.and_self Bool.and_true Bool.true_and List.length_cons List.length_nil Option.map_some Option.some.injEq cell_same cell_ne cell_ne' cellsAt_same cellsAt_ne cellsAt_ne' put_same put_of set_same set_ne set_ne' List.getElem?_cons_zero List.getElem?_cons_succ if_true if_false and_self and_true true_and ne_eq not_true_eq_false not_false_eq_true decide_true decide_false Bool.false_eq_true Bool.true_eq_false beq_self_eq_true bne_self_eq_false beq_true beq_false Bool.not_true Bool.not_false List.map_cons List.map_nil putL List.set_cons_zero List.set_cons_succ afill Nat.zero_le Nat.le_refl Nat.zero_add Nat.add_zero List.drop_zero List.drop_succ_cons List.take_zero List.take_succ_cons Bool.not_eq_true Bool.not_eq_false decide_eq_true_eq decide_eq_false_iff_not Int.toNat_zero Nat.sub_zero Int.toNat_natCast Bool.bne_true Bool.bne_false AH.cell AH.cellsAt AH.put Nat.mul_one Nat.one_mul Int.natCast_nonneg List.length_set bne_self_eq_false azeros List.cons_append List.nil_append List.append_nil aapp Int.le_refl

/-- A base, with all that has come since. -/
def ext (B ha hb : AH) : AH := fun y => match ha y with | none => hb y | some _ => B y
theorem ext_new {B ha hb : AH} {y : List Nat} (h : ha y = none) : ext B ha hb y = hb y := by simp [ext, h]
theorem ext_old {B ha hb : AH} {y : List Nat} {b : Blk} (h : ha y = some b) : ext B ha hb y = B y := by simp [ext, h]
theorem ext_sub {B ha hb : AH} (hs : Sub B ha) : Sub B (ext B ha hb) := fun y b e => by rw [ext_old (hs y b e)]; exact e
theorem Nt.grow {B ha hb : AH} {p : List Nat} {N : Int} {L : List Pk} {C : List Int} (hn : Nt B p ha N L C) (hu : Up ha hb) : Nt (ext B ha hb) p hb N L C := by
  obtain ⟨g1, g2, S, g3, g4⟩ := hn
  refine ⟨fun y b e => ?_, by rw [ext_old g3]; exact g2, S, hu _ _ g3, ?_⟩
  · unfold ext at e
    split at e
    · exact e
    · exact hu _ _ (g1 _ _ e)
  · rcases g4 with g4 | ⟨j, rest, k1, k2, k3, k4⟩
    · exact .inl g4
    · exact .inr ⟨j, rest, by rw [ext_old k3]; exact k1, k2, hu _ _ k3, k4⟩
theorem Lw.lv {α : Type} {enc : α → List AV} {sz : Nat} {B ha hb hc : AH} {S : AV} {L : List α} (h : Lw enc sz ha hb S L) (hc' : ∀ i, ha i = none → ∀ b, hb i = some b → hc i = some b) : Lv enc sz hc S L := by
  obtain ⟨i, h1, h2, h3⟩ := h
  exact .inr ⟨i, true, h2, hc' i h1 _ h3⟩
/-- What 'do' comes to. -/
def DoQ (B0 : AH) (p : List Nat) (N : Int) (L : List Pk) (V : List Wy) (v : AV) (h' : AH) : Prop :=
  ∃ B' L' C' V' SL' SC', v = .tup [.agg [.int .i64 N, SL', SC'], .bool true] ∧ Sub B0 B' ∧ Nt B' p h' N L' C' ∧ okC C' ∧ Lv e3 3 B' SL' L' ∧ Lv e2 2 B' SC' V' ∧ V'.length ≤ V.length + 1 ∧ L'.length ≤ L.length + 1 ∧ (∀ q ∈ L', isW N q.1 q.2.1 = true) ∧ ∀ a b : Int, (isW N a b && cutBit C' a.toNat b.toNat) = hasW V' a b
theorem doq6 {B0 B h1 hb h5 : AH} {p i6 : List Nat} {N : Int} {L' : List Pk} {C' : List Int} {c : Blk} (h0 : Sub B0 B) (hB : Sub B h1) (z6 : B0 i6 = none) (B6 : B i6 = some c) (hn5 : Nt (ext B h1 hb) p h5 N L' C') (b : Blk) :
    Sub B0 ((ext B h1 hb).set i6 (some b)) ∧ Nt ((ext B h1 hb).set i6 (some b)) p (h5.set i6 (some b)) N L' C' ∧ ∀ i d, h1 i = none → hb i = some d → ((ext B h1 hb).set i6 (some b)) i = some d :=
  ⟨fun y d e => by rw [set_ne (nei e z6)]; exact ext_sub hB _ _ (h0 _ _ e), hn5.poke ((ext_old (hB _ _ B6)).trans B6), fun i d h1n e => by rw [set_ne (fun q => by rw [q, hB _ _ B6] at h1n; cases h1n), ext_new h1n]; exact e⟩
def rest25 : ICode := (.seq (.seq (.reg [(0, false), (1, false)] r25_5)
 (.seq (.block 0 (.seq (.reg [(0, false), (1, false)] r25_6)
 (.cond (.t 39) (.seq (.reg [(0, false), (1, false), (2, false), (3, false), (4, false), (5, false), (6, false), (1, true), (3, true), (7, false), (8, false), (9, false)] r25_7)
 (.seq (.reg [(0, false), (1, false), (2, false), (3, false), (4, false), (5, false), (6, false), (7, false), (8, false)] r25_8)
 (.seq (.reg [(0, false), (1, false), (2, false), (4, false), (3, false), (0, true), (5, false), (6, false), (7, false)] r25_9)
 .ret)))
 (.seq (.reg [(0, false), (1, false)] r25_10)
 (.cond (.t 61) (.seq (.reg [(0, false), (1, false), (2, false), (3, false), (4, false), (5, false), (6, false), (7, false), (8, false), (9, false)] r25_11)
 (.seq (.reg [(0, false), (1, false), (2, false), (3, false), (4, false), (5, false), (6, false), (7, false), (8, false), (9, false), (10, false)] r25_12)
 (.seq (.seq (.reg [(0, false)] r25_13)
 (.seq (.cond (.t 80) (.reg [(0, false), (1, false), (2, false), (3, false), (4, false)] r25_14)
 .skip) (.mask [4, 6, 9, 13, 14, 15])))
 (.seq (.seq (.reg [(0, false), (1, false)] r25_15)
 (.cond (.t 86) (.seq (.reg [(0, false), (1, false), (2, false), (3, false), (4, false), (5, false), (6, false), (7, false), (8, false), (4, true), (9, false)] r25_16)
 .ret)
 .skip))
 (.seq (.reg [(0, false), (1, false), (2, false), (3, false), (4, false), (5, false), (6, false), (7, false), (3, true), (4, true), (8, false)] r25_17)
 .ret)))))
 (.seq (.reg [(0, false), (1, false)] r25_18)
 (.cond (.t 102) (.seq (.seq (.reg [(0, false)] r25_19)
 (.seq (.cond (.t 104) (.reg [(0, false), (1, false), (2, false), (3, false), (4, false)] r25_20)
 .skip) (.mask [0, 4, 5, 6, 8])))
 (.seq (.reg [(0, false), (1, false), (2, false), (3, false), (5, false), (4, false), (0, true), (6, false), (7, false), (8, false)] r25_21)
 .ret))
 (.seq (.reg [(0, false), (1, false)] r25_22)
 (.cond (.t 116) (.seq (.reg [(0, false), (1, false), (2, false), (3, false)] r25_23)
 (.seq (.seq (.reg [(0, false)] r25_24)
 (.seq (.cond (.t 119) (.reg [(0, false), (1, false), (2, false), (3, false), (4, false), (5, false), (6, false), (7, false)] r25_25)
 .skip) (.mask [0, 5, 6, 16, 17])))
 (.seq (.reg [(0, false), (1, false), (2, false), (3, false), (5, false), (4, false), (0, true), (6, false), (7, false), (8, false)] r25_26)
 .ret)))
 (.seq (.reg [(0, false), (1, false)] r25_27)
 (.cond (.t 133) (.seq (.seq (.reg [(0, false)] r25_28)
 (.seq (.cond (.t 135) (.reg [(0, false), (1, false), (2, false), (4, false), (3, false), (4, true), (5, false), (6, false), (7, false), (8, false), (9, false)] r25_29)
 .skip) (.mask [0, 4, 5, 6, 8])))
 (.seq (.reg [(0, false), (1, false), (2, false), (3, false), (5, false), (4, false), (0, true), (6, false), (7, false), (8, false)] r25_30)
 .ret))
 (.seq (.seq (.reg [(0, false), (1, false)] r25_31)
 (.seq (.cond (.t 152) .skip
 (.reg [(0, false), (1, false)] r25_32)) (.mask [0, 4, 5, 6, 38, 152])))
 (.seq (.cond (.t 152) (.seq (.reg [(0, false), (1, false), (2, false), (3, false), (4, false), (5, false), (6, false), (7, false), (8, false)] r25_33)
 (.reg [(0, false), (1, false), (2, false), (3, false), (4, false), (5, false), (6, false), (7, false), (8, false), (9, false)] r25_34))
 (.seq (.reg [(0, false), (1, false)] r25_35)
 (.seq (.cond (.t 173) (.seq (.reg [(0, false), (1, false)] r25_36)
 (.reg [(0, false), (1, false)] r25_37))
 .skip) (.mask [4, 6])))) (.mask [4, 6])))))))))))))) (.mask [4, 6])))
 (.seq (.reg [(0, false), (1, false), (2, false)] r25_38)
 .ret))
theorem d0f (B0 B h1 : AH) (p i4 i5 i6 i9 : List Nat) (N : Int) (L : List Pk) (C : List Int) (V : List Wy) (SL SC : AV) (x1 x2 x3 pa pb : Int) (x4 pc : ByteArray) (th : Bool) (hN : N ≤ 12) (h0 : Sub B0 B) (z4 : B0 i4 = none) (z6 : B0 i6 = none) (hn : Nt B p h1 N L C) (hC : okC C) (hL : Lv e3 3 B0 SL L) (hV : Lv e2 2 B0 SC V) (hv : V.length ≤ 100) (hlt : L.length ≤ 100) (hall : ∀ q ∈ L, isW N q.1 q.2.1 = true) (hag : ∀ a b : Int, (isW N a b && cutBit C a.toNat b.toNat) = hasW V a b) (B4 : B i4 = some ⟨true, [.int .i64 N, SL, SC]⟩) (B5 : B i5 = some ⟨true, [.int .i64 x1, .int .i64 x2, .int .i64 x3, .str x4]⟩) (B6 : B i6 = some ⟨true, [.int .i64 0, .nils, .nils]⟩) (B9 : B i9 = some ⟨true, [.int .i64 pa, .int .i64 pb, .str pc]⟩) (n45 : i4 ≠ i5) (n46 : i4 ≠ i6) (n49 : i4 ≠ i9) (n56 : i5 ≠ i6) (n59 : i5 ≠ i9) (n69 : i6 ≠ i9) (hth : th = decide (0 ≤ x2 ∧ x2 < L.length)) (hq : th = true → L[x2.toNat]? = some (pa, pb, pc)) (hk : x1 = 0) (hw : isW N x2 x3 = false) : W T rest25 [.ptr p 0, .und, .und, .und, .ptr i4 0, .ptr i5 0, .ptr i6 0, .und, .bool th, .ptr i9 0, .und, .und, .und, .und, .und, .und, .und, .und, .und, .und, .und, .und, .und, .und, .und, .und, .und, .und, .und, .und, .und, .und, .und, .und, .und, .und, .und, .und, .und, .und, .und, .und, .und, .und, .und, .und, .und, .und, .und, .und, .und, .und, .und, .und, .und, .und, .und, .und, .und, .und, .und, .und, .und, .und, .und, .und, .und, .und, .und, .und, .und, .und, .und, .und, .und, .und, .und, .und, .und, .und, .und, .und, .und, .und, .und, .und, .und, .und, .und, .und, .und, .und, .und, .und, .und, .und, .und, .und, .und, .und, .und, .und, .und, .und, .und, .und, .und, .und, .und, .und, .und, .und, .und, .und, .und, .und, .und, .und, .und, .und, .und, .und, .und, .und, .und, .und, .und, .und, .und, .und, .und, .und, .und, .und, .und, .und, .und, .und, .und, .und, .und, .und, .und, .und, .und, .und, .und, .und, .und, .und, .und, .und, .und, .und, .und, .und, .und, .und, .und, .und, .und, .und, .und, .und, .und, .und, .und, .und, .und, .und, .und, .und, .und, .und, .und, .und, .und, .und, .und] h1 (Rets f25 fun v h' => DoQ B0 p N L V v h') := by
  obtain ⟨c1, c2, c3⟩ := hL.len
  obtain ⟨c4, c5, c6⟩ := hV.len
  have g4 := hn.1 _ _ B4
  have g5 := hn.1 _ _ B5
  have g6 := hn.1 _ _ B6
  have g9 := hn.1 _ _ B9
  have hu := Up.refl h1
  have hBh : Up B0 h1 := fun y b e => hn.1 _ _ (h0 _ _ e)
  have k0 : (x1 == 0) = true := by simp; omega
  have c16 := fun (B2 h2 : AH) (hn1 : Nt B2 p h2 N L C) => sp16f B2 p (x2, x3, cut30 x4) N L C h2 hn1 (.inl hw)
  have c69 := fun (h2 : AH) (hl2 : Lv e3 3 h2 SL L) => sp69f N SL SC L (x2, x3, cut30 x4) h2 hl2 c6 (.inl hw)
  simp only at c16 c69
  unfold rest25
  repeat' (first
    | (refine wNil ?_)
    | (refine wPure rfl (by (first | (simp only [go_sem, *]; (first | done | exact rfl)) | rfl)) rfl (by (first | (simp only [go_sem, *]; (first | done | exact rfl)) | rfl)) ?_; dsimp only [putT, ev, Int.toNat_zero, Nat.sub_zero, Int.toNat_natCast,  gd_zero, gd_succ, Nat.zero_add, Nat.add_zero, Nat.reduceAdd, Nat.reduceMul, List.set_cons_zero, List.set_cons_succ, keep, List.contains_cons, List.contains_nil])
    | (refine wMk rfl (by (first | (simp only [go_sem, *]; (first | done | exact rfl)) | rfl)) rfl ?_; intro id hid; (try simp only [set_none_iff] at hid); have hz := hid; (repeat (replace hz := hz.2)); (try have := nei g4 hz); (try have := nei g5 hz); (try have := nei g6 hz); (try have := nei g9 hz); (try have := nei g10 hz); (try have := nei f4 hz); (try have := nei f6 hz); (try have := Up.none hU3 hz); (try have := Up.none hu hz); refine ⟨_, (by (first | (simp only [go_sem, *]; (first | done | exact rfl)) | rfl)), ?_⟩; dsimp only [putT, ev, Int.toNat_zero, Nat.sub_zero, Int.toNat_natCast,  gd_zero, gd_succ, Nat.zero_add, Nat.add_zero, Nat.reduceAdd, Nat.reduceMul, List.set_cons_zero, List.set_cons_succ, keep, List.contains_cons, List.contains_nil])
    | (refine wChk rfl (by (first | (simp only [go_sem, *]; (first | done | exact rfl)) | rfl)) rfl (by (first | (simp only [go_sem, *]; (first | done | exact rfl)) | rfl)) rfl ?_) | (refine wChkF rfl (by (first | (simp only [go_sem, *]; (first | done | exact rfl)) | rfl)) rfl ?_)
    | (refine wSkip rfl (by (first | (simp only [go_sem, *]; (first | done | exact rfl)) | rfl)) ?_; dsimp only [putT, ev, Int.toNat_zero, Nat.sub_zero, Int.toNat_natCast,  gd_zero, gd_succ, Nat.zero_add, Nat.add_zero, Nat.reduceAdd, Nat.reduceMul, List.set_cons_zero, List.set_cons_succ, keep, List.contains_cons, List.contains_nil])
    | (refine wCall rfl (by (first | (simp only [awanted, gd_zero, gd_succ, beq_self_eq_true, beq_true, beq_false, Bool.not_true, Bool.not_false, *]; done) | rfl)) rfl (Sp.mono (sp21 x4 _) ?_); rintro v hz ⟨rfl, hx9⟩; cases hx9; dsimp only [putT, ev, Int.toNat_zero, Nat.sub_zero, Int.toNat_natCast,  gd_zero, gd_succ, Nat.zero_add, Nat.add_zero, Nat.reduceAdd, Nat.reduceMul, List.set_cons_zero, List.set_cons_succ, keep, List.contains_cons, List.contains_nil])
    | (refine wCall rfl (by (first | (simp only [awanted, gd_zero, gd_succ, beq_self_eq_true, beq_true, beq_false, Bool.not_true, Bool.not_false, *]; done) | rfl)) rfl (Sp.mono (c69 _ (hL.up (Up.trans hBh (show Up h1 _ from (by repeat' (first | assumption | exact Up.refl _ | refine Up.new ?_ ?_)))))) ?_); rintro v h3 ⟨rfl, hu3⟩; obtain ⟨i10, rfl⟩ : ∃ x, x = id := ⟨_, rfl⟩; have g10 := hu3 _ _ set_same; have hU3 : Up h1 h3 := Up.trans (show Up h1 _ from (by repeat' (first | assumption | exact Up.refl _ | refine Up.new ?_ ?_))) hu3; have f4 := hU3 _ _ g4; have f6 := hU3 _ _ g6; dsimp only [putT, ev, Int.toNat_zero, Nat.sub_zero, Int.toNat_natCast,  gd_zero, gd_succ, Nat.zero_add, Nat.add_zero, Nat.reduceAdd, Nat.reduceMul, List.set_cons_zero, List.set_cons_succ, keep, List.contains_cons, List.contains_nil])
    | (refine wCall rfl (by (first | (simp only [awanted, gd_zero, gd_succ, beq_self_eq_true, beq_true, beq_false, Bool.not_true, Bool.not_false, *]; done) | rfl)) rfl (Sp.mono (c16 _ _ (hn.grow (by repeat' (first | assumption | exact Up.refl _ | refine Up.new ?_ ?_)))) ?_); rintro v h5 ⟨rfl, hn5⟩; obtain ⟨i11, rfl⟩ : ∃ x, x = id := ⟨_, rfl⟩; have z11 : h1 i11 = none := (by assumption); have e11 := hn5.1 i11 _ ((ext_new z11).trans set_same); have e6 := hn5.1 i6 _ ((ext_old g6).trans B6); have n611 := nei g6 z11; dsimp only [putT, ev, Int.toNat_zero, Nat.sub_zero, Int.toNat_natCast,  gd_zero, gd_succ, Nat.zero_add, Nat.add_zero, Nat.reduceAdd, Nat.reduceMul, List.set_cons_zero, List.set_cons_succ, keep, List.contains_cons, List.contains_nil])
    | (refine cSeq ?_) | (refine cNorm ?_) | (refine cRet ?_) | (refine cExit ?_) | (refine W_reg rfl ?_) | (refine W_block ?_) | (refine W_ret ?_) | (refine W_skip ?_) | (refine W_exit ?_) | (refine bNorm ?_) | (refine bRet ?_) | (refine bExit ?_) | (refine bExitN rfl ?_)
    | (refine cMask' (by simp only [keep, List.contains_cons, List.contains_nil, Nat.reduceBEq, Bool.or_true, Bool.true_or, Bool.or_false, Bool.false_or, if_true, if_false, Bool.false_eq_true, beq_self_eq_true, Nat.zero_add, Nat.reduceAdd, eq_self]; exact rfl) ?_)
    | (refine cT (by (first | (simp only [go_sem, *]; (first | done | exact rfl)) | rfl)) ?_) | (refine cF (by (first | (simp only [go_sem, *]; (first | done | exact rfl)) | rfl)) ?_)
    | (refine rRet (by (first | (simp only [go_sem, *]; (first | done | exact rfl)) | rfl)) ?_) | (refine rNorm (by (first | (simp only [go_sem, *]; (first | done | exact rfl)) | rfl)) ?_)
    | (refine wSplit _ rfl (by (first | (simp only [go_sem, *]; (first | done | exact rfl)) | rfl)) ?_ ?_ <;> intro hb <;> (try simp only [beq_false, beq_true, Bool.not_true, Bool.not_false, Bool.not_eq_true', Bool.not_eq_false', decide_eq_false_iff_not, decide_eq_true_eq, bne_iff_ne, beq_iff_eq, Bool.true_eq, Bool.false_eq, Bool.not_not, Bool.and_eq_true, Bool.or_eq_true, Bool.bne_true, Bool.bne_false, bne_eq_false_iff_eq, beq_eq_false_iff_ne, ne_eq] at hb))
    | (refine W_cond _ (by (first | (simp only [go_sem, *]; (first | done | exact rfl)) | rfl)) ?_ ?_ <;> intro hb <;> (try simp only [beq_false, beq_true, Bool.not_true, Bool.not_false, Bool.not_eq_true', Bool.not_eq_false', decide_eq_false_iff_not, decide_eq_true_eq, bne_iff_ne, beq_iff_eq, Bool.true_eq, Bool.false_eq, Bool.not_not, Bool.and_eq_true, Bool.or_eq_true, Bool.bne_true, Bool.bne_false, bne_eq_false_iff_eq, beq_eq_false_iff_ne, ne_eq] at hb)))
  obtain ⟨q1, q2, q3⟩ := doq6 h0 hn.1 z6 B6 hn5 ⟨true, [.int .i64 N, SL, SC]⟩
  all_goals (refine ⟨[.agg [.int .i64 N, SL, SC], .bool true], (by simp [ares, ares1, f25, ev, AH.cellsAt, AH.cell, set_same]), _, L, C, V, SL, SC, rfl, q1, q2, hC, hL.up q1, hV.up q1, by omega, by omega, hall, hag⟩)
theorem d0t (B0 B h1 : AH) (p i4 i5 i6 i9 : List Nat) (N : Int) (L : List Pk) (C : List Int) (V : List Wy) (SL SC : AV) (x1 x2 x3 pa pb : Int) (x4 pc : ByteArray) (th : Bool) (hN : N ≤ 12) (h0 : Sub B0 B) (z4 : B0 i4 = none) (z6 : B0 i6 = none) (hn : Nt B p h1 N L C) (hC : okC C) (hL : Lv e3 3 B0 SL L) (hV : Lv e2 2 B0 SC V) (hv : V.length ≤ 100) (hlt : L.length ≤ 100) (hall : ∀ q ∈ L, isW N q.1 q.2.1 = true) (hag : ∀ a b : Int, (isW N a b && cutBit C a.toNat b.toNat) = hasW V a b) (B4 : B i4 = some ⟨true, [.int .i64 N, SL, SC]⟩) (B5 : B i5 = some ⟨true, [.int .i64 x1, .int .i64 x2, .int .i64 x3, .str x4]⟩) (B6 : B i6 = some ⟨true, [.int .i64 0, .nils, .nils]⟩) (B9 : B i9 = some ⟨true, [.int .i64 pa, .int .i64 pb, .str pc]⟩) (n45 : i4 ≠ i5) (n46 : i4 ≠ i6) (n49 : i4 ≠ i9) (n56 : i5 ≠ i6) (n59 : i5 ≠ i9) (n69 : i6 ≠ i9) (hth : th = decide (0 ≤ x2 ∧ x2 < L.length)) (hq : th = true → L[x2.toNat]? = some (pa, pb, pc)) (hk : x1 = 0) (hw : isW N x2 x3 = true) : W T rest25 [.ptr p 0, .und, .und, .und, .ptr i4 0, .ptr i5 0, .ptr i6 0, .und, .bool th, .ptr i9 0, .und, .und, .und, .und, .und, .und, .und, .und, .und, .und, .und, .und, .und, .und, .und, .und, .und, .und, .und, .und, .und, .und, .und, .und, .und, .und, .und, .und, .und, .und, .und, .und, .und, .und, .und, .und, .und, .und, .und, .und, .und, .und, .und, .und, .und, .und, .und, .und, .und, .und, .und, .und, .und, .und, .und, .und, .und, .und, .und, .und, .und, .und, .und, .und, .und, .und, .und, .und, .und, .und, .und, .und, .und, .und, .und, .und, .und, .und, .und, .und, .und, .und, .und, .und, .und, .und, .und, .und, .und, .und, .und, .und, .und, .und, .und, .und, .und, .und, .und, .und, .und, .und, .und, .und, .und, .und, .und, .und, .und, .und, .und, .und, .und, .und, .und, .und, .und, .und, .und, .und, .und, .und, .und, .und, .und, .und, .und, .und, .und, .und, .und, .und, .und, .und, .und, .und, .und, .und, .und, .und, .und, .und, .und, .und, .und, .und, .und, .und, .und, .und, .und, .und, .und, .und, .und, .und, .und, .und, .und, .und, .und, .und, .und, .und, .und, .und, .und, .und, .und] h1 (Rets f25 fun v h' => DoQ B0 p N L V v h') := by
  obtain ⟨c1, c2, c3⟩ := hL.len
  obtain ⟨c4, c5, c6⟩ := hV.len
  have g4 := hn.1 _ _ B4
  have g5 := hn.1 _ _ B5
  have g6 := hn.1 _ _ B6
  have g9 := hn.1 _ _ B9
  have hu := Up.refl h1
  have hBh : Up B0 h1 := fun y b e => hn.1 _ _ (h0 _ _ e)
  have k0 : (x1 == 0) = true := by simp; omega
  have c16 := fun (B2 h2 : AH) (hn1 : Nt B2 p h2 N L C) => sp16 B2 p (x2, x3, cut30 x4) N L C h2 hn1 hw (by omega)
  have c69 := fun (h2 : AH) (hl2 : Lv e3 3 h2 SL L) => sp69 N SL SC L (x2, x3, cut30 x4) h2 hl2 ⟨c6, c5⟩ hw (by omega)
  simp only at c16 c69
  unfold rest25
  repeat' (first
    | (refine wNil ?_)
    | (refine wPure rfl (by (first | (simp only [go_sem, *]; (first | done | exact rfl)) | rfl)) rfl (by (first | (simp only [go_sem, *]; (first | done | exact rfl)) | rfl)) ?_; dsimp only [putT, ev, Int.toNat_zero, Nat.sub_zero, Int.toNat_natCast,  gd_zero, gd_succ, Nat.zero_add, Nat.add_zero, Nat.reduceAdd, Nat.reduceMul, List.set_cons_zero, List.set_cons_succ, keep, List.contains_cons, List.contains_nil])
    | (refine wMk rfl (by (first | (simp only [go_sem, *]; (first | done | exact rfl)) | rfl)) rfl ?_; intro id hid; (try simp only [set_none_iff] at hid); have hz := hid; (repeat (replace hz := hz.2)); (try have := nei g4 hz); (try have := nei g5 hz); (try have := nei g6 hz); (try have := nei g9 hz); (try have := nei g10 hz); (try have := nei f4 hz); (try have := nei f6 hz); (try have := Up.none hU3 hz); (try have := Up.none hu hz); refine ⟨_, (by (first | (simp only [go_sem, *]; (first | done | exact rfl)) | rfl)), ?_⟩; dsimp only [putT, ev, Int.toNat_zero, Nat.sub_zero, Int.toNat_natCast,  gd_zero, gd_succ, Nat.zero_add, Nat.add_zero, Nat.reduceAdd, Nat.reduceMul, List.set_cons_zero, List.set_cons_succ, keep, List.contains_cons, List.contains_nil])
    | (refine wChk rfl (by (first | (simp only [go_sem, *]; (first | done | exact rfl)) | rfl)) rfl (by (first | (simp only [go_sem, *]; (first | done | exact rfl)) | rfl)) rfl ?_) | (refine wChkF rfl (by (first | (simp only [go_sem, *]; (first | done | exact rfl)) | rfl)) rfl ?_)
    | (refine wSkip rfl (by (first | (simp only [go_sem, *]; (first | done | exact rfl)) | rfl)) ?_; dsimp only [putT, ev, Int.toNat_zero, Nat.sub_zero, Int.toNat_natCast,  gd_zero, gd_succ, Nat.zero_add, Nat.add_zero, Nat.reduceAdd, Nat.reduceMul, List.set_cons_zero, List.set_cons_succ, keep, List.contains_cons, List.contains_nil])
    | (refine wCall rfl (by (first | (simp only [awanted, gd_zero, gd_succ, beq_self_eq_true, beq_true, beq_false, Bool.not_true, Bool.not_false, *]; done) | rfl)) rfl (Sp.mono (sp21 x4 _) ?_); rintro v hz ⟨rfl, hx9⟩; cases hx9; dsimp only [putT, ev, Int.toNat_zero, Nat.sub_zero, Int.toNat_natCast,  gd_zero, gd_succ, Nat.zero_add, Nat.add_zero, Nat.reduceAdd, Nat.reduceMul, List.set_cons_zero, List.set_cons_succ, keep, List.contains_cons, List.contains_nil])
    | (refine wCall rfl (by (first | (simp only [awanted, gd_zero, gd_succ, beq_self_eq_true, beq_true, beq_false, Bool.not_true, Bool.not_false, *]; done) | rfl)) rfl (Sp.mono (c69 _ (hL.up (Up.trans hBh (show Up h1 _ from (by repeat' (first | assumption | exact Up.refl _ | refine Up.new ?_ ?_)))))) ?_); rintro v h3 ⟨SL', rfl, hu3, hw3⟩; obtain ⟨iw, w1, rfl, w3⟩ := hw3; have zw : h1 iw = none := Up.none (show Up h1 _ from (by repeat' (first | assumption | exact Up.refl _ | refine Up.new ?_ ?_))) w1; obtain ⟨i10, rfl⟩ : ∃ x, x = id := ⟨_, rfl⟩; have g10 := hu3 _ _ set_same; have hU3 : Up h1 h3 := Up.trans (show Up h1 _ from (by repeat' (first | assumption | exact Up.refl _ | refine Up.new ?_ ?_))) hu3; have f4 := hU3 _ _ g4; have f6 := hU3 _ _ g6; dsimp only [putT, ev, Int.toNat_zero, Nat.sub_zero, Int.toNat_natCast,  gd_zero, gd_succ, Nat.zero_add, Nat.add_zero, Nat.reduceAdd, Nat.reduceMul, List.set_cons_zero, List.set_cons_succ, keep, List.contains_cons, List.contains_nil])
    | (refine wCall rfl (by (first | (simp only [awanted, gd_zero, gd_succ, beq_self_eq_true, beq_true, beq_false, Bool.not_true, Bool.not_false, *]; done) | rfl)) rfl (Sp.mono (c16 _ _ (hn.grow (by repeat' (first | assumption | exact Up.refl _ | refine Up.new ?_ ?_)))) ?_); rintro v h5 ⟨rfl, hn5⟩; have nw := nei w3 (show h3 id = none by assumption); obtain ⟨i11, rfl⟩ : ∃ x, x = id := ⟨_, rfl⟩; have z11 : h1 i11 = none := (by assumption); have e11 := hn5.1 i11 _ ((ext_new z11).trans set_same); have e6 := hn5.1 i6 _ ((ext_old g6).trans B6); have n611 := nei g6 z11; dsimp only [putT, ev, Int.toNat_zero, Nat.sub_zero, Int.toNat_natCast,  gd_zero, gd_succ, Nat.zero_add, Nat.add_zero, Nat.reduceAdd, Nat.reduceMul, List.set_cons_zero, List.set_cons_succ, keep, List.contains_cons, List.contains_nil])
    | (refine cSeq ?_) | (refine cNorm ?_) | (refine cRet ?_) | (refine cExit ?_) | (refine W_reg rfl ?_) | (refine W_block ?_) | (refine W_ret ?_) | (refine W_skip ?_) | (refine W_exit ?_) | (refine bNorm ?_) | (refine bRet ?_) | (refine bExit ?_) | (refine bExitN rfl ?_)
    | (refine cMask' (by simp only [keep, List.contains_cons, List.contains_nil, Nat.reduceBEq, Bool.or_true, Bool.true_or, Bool.or_false, Bool.false_or, if_true, if_false, Bool.false_eq_true, beq_self_eq_true, Nat.zero_add, Nat.reduceAdd, eq_self]; exact rfl) ?_)
    | (refine cT (by (first | (simp only [go_sem, *]; (first | done | exact rfl)) | rfl)) ?_) | (refine cF (by (first | (simp only [go_sem, *]; (first | done | exact rfl)) | rfl)) ?_)
    | (refine rRet (by (first | (simp only [go_sem, *]; (first | done | exact rfl)) | rfl)) ?_) | (refine rNorm (by (first | (simp only [go_sem, *]; (first | done | exact rfl)) | rfl)) ?_)
    | (refine wSplit _ rfl (by (first | (simp only [go_sem, *]; (first | done | exact rfl)) | rfl)) ?_ ?_ <;> intro hb <;> (try simp only [beq_false, beq_true, Bool.not_true, Bool.not_false, Bool.not_eq_true', Bool.not_eq_false', decide_eq_false_iff_not, decide_eq_true_eq, bne_iff_ne, beq_iff_eq, Bool.true_eq, Bool.false_eq, Bool.not_not, Bool.and_eq_true, Bool.or_eq_true, Bool.bne_true, Bool.bne_false, bne_eq_false_iff_eq, beq_eq_false_iff_ne, ne_eq] at hb))
    | (refine W_cond _ (by (first | (simp only [go_sem, *]; (first | done | exact rfl)) | rfl)) ?_ ?_ <;> intro hb <;> (try simp only [beq_false, beq_true, Bool.not_true, Bool.not_false, Bool.not_eq_true', Bool.not_eq_false', decide_eq_false_iff_not, decide_eq_true_eq, bne_iff_ne, beq_iff_eq, Bool.true_eq, Bool.false_eq, Bool.not_not, Bool.and_eq_true, Bool.or_eq_true, Bool.bne_true, Bool.bne_false, bne_eq_false_iff_eq, beq_eq_false_iff_ne, ne_eq] at hb)))
  obtain ⟨q1, q2, q3⟩ := doq6 h0 hn.1 z6 B6 hn5 ⟨true, [.int .i64 N, .slc iw 0 (L ++ [(x2, x3, cut30 x4)]).length 3, SC]⟩
  all_goals (refine ⟨[.agg [.int .i64 N, .slc iw 0 (L ++ [(x2, x3, cut30 x4)]).length 3, SC], .bool true], (by simp [ares, ares1, f25, ev, AH.cellsAt, AH.cell, set_same]), _, L ++ [(x2, x3, cut30 x4)], C, V, _, SC, rfl, q1, q2, hC, .inr ⟨iw, true, rfl, q3 iw _ zw (by rw [set_ne nw, set_ne nw]; exact w3)⟩, hV.up q1, by omega, by simp, (fun q hq => by rcases List.mem_append.1 hq with h | h; exact hall q h; rw [List.mem_singleton.1 h]; exact hw), hag⟩)
end Go.Proofs.YtdehmopdlbdmfaaI
