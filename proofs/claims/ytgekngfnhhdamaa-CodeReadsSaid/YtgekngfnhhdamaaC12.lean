import Derived.Test.YtgekngfnhhdamaaC11
set_option linter.unusedVariables false
set_option linter.unusedSimpArgs false
set_option maxRecDepth 100000
set_option maxHeartbeats 4000000
namespace Go.Proofs.YtgekngfnhhdamaaI
open Go Go.Proofs.YtgekngfnhhdamaaM
attribute [local go_sem] aop ev awanted abin aun aint aeqn aeqc aeqs apart abounds abnd amaxi amaxiGo AV.cells AV.scalar gd_zero gd_succ List.all_cons List.all_nil Bool.and_self Bool.and_true Bool.true_and List.length_cons List.length_nil Option.map_some Option.some.injEq cell_same cell_ne cell_ne' cellsAt_same cellsAt_ne cellsAt_ne' put_same put_of set_same set_ne set_ne' List.getElem?_cons_zero List.getElem?_cons_succ if_true if_false and_self and_true true_and ne_eq not_true_eq_false not_false_eq_true decide_true decide_false Bool.false_eq_true Bool.true_eq_false beq_self_eq_true bne_self_eq_false beq_true beq_false Bool.not_true Bool.not_false List.map_cons List.map_nil putL List.set_cons_zero List.set_cons_succ afill Nat.zero_le Nat.le_refl Nat.zero_add Nat.add_zero List.drop_zero List.drop_succ_cons List.take_zero List.take_succ_cons Bool.not_eq_true Bool.not_eq_false decide_eq_true_eq decide_eq_false_iff_not Int.toNat_zero Nat.sub_zero Int.toNat_natCast Bool.bne_true Bool.bne_false AH.cell AH.cellsAt AH.put Nat.mul_one Nat.one_mul Int.natCast_nonneg List.length_set

theorem be_add (a : Nat) : ∀ (n v : Nat), be (a * 256 ^ n + v) n = be v n
  | 0, v => rfl
  | n + 1, v => by
    have e1 : a * 256 ^ (n + 1) + v = (a * 256) * 256 ^ n + v := by rw [Nat.pow_succ, Nat.mul_assoc, Nat.mul_comm 256]
    rw [e1, be, be, be_add' a n v]
    congr 1
    have hpos : 0 < 256 ^ n := Nat.pow_pos (by decide)
    have e2 : ((a * 256) * 256 ^ n + v) / 256 ^ n = a * 256 + v / 256 ^ n := by rw [Nat.add_comm, Nat.add_mul_div_right _ _ hpos, Nat.add_comm]
    rw [e2]
    apply UInt8.toNat_inj.1
    simp
where be_add' (a n v : Nat) : be ((a * 256) * 256 ^ n + v) n = be v n := be_add (a * 256) n v
theorem be_val : ∀ t : List UInt8, be (val t) t.length = t
  | [] => rfl
  | b :: t => by
    have h1 := val_lt t.length t rfl
    have hpos : 0 < 256 ^ t.length := Nat.pow_pos (by decide)
    rw [val_cons, List.length_cons, be, be_add, be_val t]
    have e2 : (b.toNat * 256 ^ t.length + val t) / 256 ^ t.length = b.toNat := by rw [Nat.add_comm, Nat.add_mul_div_right _ _ hpos, Nat.div_eq_of_lt h1, Nat.zero_add]
    rw [e2]; simp
theorem hd_two {v b n : Nat} (h : (hd v).1 = b) (hb : (b = 252 ∧ n = 2) ∨ (b = 253 ∧ n = 4) ∨ (b = 254 ∧ n = 8)) : (hd v).2 = n := by
  unfold hd at h ⊢
  by_cases c : v < 252
  · rw [if_pos c] at h; simp only at h; omega
  · rw [if_neg c] at h ⊢
    by_cases c2 : v < 65536
    · rw [if_pos c2] at h ⊢; simp only at h ⊢; omega
    · rw [if_neg c2] at h ⊢
      by_cases c3 : v < 4294967296
      · rw [if_pos c3] at h ⊢; simp only at h ⊢; omega
      · rw [if_neg c3] at h ⊢; simp only at h ⊢; omega
theorem ut_cases {b : UInt8} {s : List UInt8} {n : Nat} (hb : (b.toNat = 252 ∧ n = 2) ∨ (b.toNat = 253 ∧ n = 4) ∨ (b.toNat = 254 ∧ n = 8)) :
    ∃ R v, (ut b.toNat s 0 n = (R, 0, v) ∧ b :: s = encU v ++ R ∧ R.length ≤ s.length ∧ v ≤ 18446744073709551615) ∨ (ut b.toNat s 0 n = (R, 3, 0)) ∨ (ut b.toNat s 0 n = (R, 4, 0)) := by
  have h0 : (hd 0).1 = 0 := rfl
  by_cases c : s.length < n
  · refine ⟨s, 0, .inr (.inl ?_)⟩
    unfold ut
    rw [tk_end c]
    have e : val [] = 0 := rfl
    simp only [e, h0, if_neg (by omega : ¬ 0 = b.toNat)]
    rfl
  · by_cases c1 : (hd (val (s.take n))).1 = b.toNat
    · refine ⟨s.drop n, val (s.take n), .inl ⟨?_, ?_, by simp, ?_⟩⟩
      · unfold ut
        rw [tk_ok c]
        simp only [if_pos c1, if_true]
      · have e2 := hd_two c1 hb
        have e3 : (s.take n).length = n := by rw [List.length_take]; omega
        have e4 := be_val (s.take n)
        rw [e3] at e4
        unfold encU
        rw [c1, e2, e4, List.cons_append, List.take_append_drop]
        simp
      · have e3 : (s.take n).length = n := by rw [List.length_take]; omega
        have h1 := val_lt n (s.take n) e3
        have h2 : 256 ^ n ≤ 256 ^ 8 := Nat.pow_le_pow_right (by decide) (by omega)
        have h3 : (256 : Nat) ^ 8 = 18446744073709551616 := by decide
        omega
    · refine ⟨s.drop n, 0, .inr (.inr ?_)⟩
      unfold ut
      rw [tk_ok c]
      simp only [if_neg c1]
      rfl
theorem tU_cases (b : UInt8) (s : List UInt8) :
    ∃ R v, (tU (b :: s) 0 = (R, 0, v) ∧ b :: s = encU v ++ R ∧ R.length ≤ s.length ∧ v ≤ 18446744073709551615) ∨ (tU (b :: s) 0 = (R, 3, 0)) ∨ (tU (b :: s) 0 = (R, 4, 0)) := by
  have hbl := b.toNat_lt
  unfold tU
  rw [if_pos rfl]
  simp only
  by_cases c : b.toNat < 252
  · rw [if_pos c]
    refine ⟨s, b.toNat, .inl ⟨rfl, ?_, Nat.le_refl _, by omega⟩⟩
    unfold encU hd
    rw [if_pos c]; simp [be]
  · rw [if_neg c]
    by_cases c5 : b.toNat = 255
    · refine ⟨s, 0, .inr (.inr ?_)⟩
      rw [if_pos c5]
      unfold ut
      rw [tk_err (by decide)]
      have e : val [] = 0 := rfl
      have h0 : (hd 0).1 = 0 := rfl
      simp only [e, h0, if_neg (by omega : ¬ 0 = b.toNat)]
      rfl
    · rw [if_neg c5]
      refine ut_cases ?_
      by_cases c2 : b.toNat = 252
      · rw [if_pos c2]; exact .inl ⟨c2, rfl⟩
      · rw [if_neg c2]
        by_cases c3 : b.toNat = 253
        · rw [if_pos c3]; exact .inr (.inl ⟨c3, rfl⟩)
        · rw [if_neg c3]; exact .inr (.inr ⟨by omega, rfl⟩)
def N0' : AH := fun _ => none
theorem rd_of {h : AH} {p : List Nat} {R : List UInt8} {e : Int} (hp : h p = some ⟨true, [.str (bs R), .int .i64 e]⟩) : Rd (h.set p none) p h R e := by
  refine ⟨fun x b hx => ?_, set_same, hp⟩
  by_cases c : x = p
  · rw [c, set_same] at hx; cases hx
  · rw [set_ne c] at hx; exact hx
theorem rd_no {h : AH} {p : List Nat} {R : List UInt8} {e : Int} (hp : h p = some ⟨true, [.str (bs R), .int .i64 e]⟩) : Rd N0' p h R e := ⟨fun x b hx => by simp [N0'] at hx, rfl, hp⟩
theorem wr_list_ne {h : AH} {p : List Nat} {l : List UInt8} {s : ByteArray} {e : Int} {i : List Nat} (hp : h p = some ⟨true, [.str s, .int .i64 e]⟩) (hi : h i = some ⟨true, bc l⟩) : p ≠ i := by
  rintro rfl
  rw [hp] at hi
  cases l with
  | nil => cases hi
  | cons b l => simp [bc] at hi
theorem wr_after {h h' : AH} {p w : List Nat} {D R R' : List UInt8} {e e' : Int} (hw : Wr N0' w h D) (hp : h p = some ⟨true, [.str (bs R), .int .i64 e]⟩) (hr : Rd (h.set p none) p h' R' e') : Wr N0' w h' D := by
  obtain ⟨hs, hw0, S, hwS, hS⟩ := hw
  have f : ∀ x b, x ≠ p → h x = some b → h' x = some b := fun x b hx hh => hr.1 x b (by rw [set_ne hx]; exact hh)
  have hwp : w ≠ p := by
    rintro rfl; rw [hwS] at hp; cases hp
  refine ⟨fun x b hx => by simp [N0'] at hx, rfl, S, f _ _ hwp hwS, ?_⟩
  rcases hS with h | ⟨i, i1, i2, i3, i4⟩
  · exact .inl h
  · exact .inr ⟨i, i1, i2, i3, f _ _ (wr_list_ne hp i4).symm i4⟩
theorem wr_two {h : AH} {p w : List Nat} {D R : List UInt8} {e : Int} (hw : Wr N0' w h D) (hp : h p = some ⟨true, [.str (bs R), .int .i64 e]⟩) : Wr (N0'.set p (some ⟨true, [.str (bs R), .int .i64 e]⟩)) w h D := by
  obtain ⟨hs, hw0, S, hwS, hS⟩ := hw
  have hwp : w ≠ p := by
    rintro rfl; rw [hwS] at hp; cases hp
  refine ⟨fun x b hx => ?_, by rw [set_ne hwp]; rfl, S, hwS, ?_⟩
  · by_cases c : x = p
    · rw [c, set_same] at hx; rw [c, hp]; exact hx
    · rw [set_ne c] at hx; simp [N0'] at hx
  · rcases hS with h | ⟨i, i1, i2, i3, i4⟩
    · exact .inl h
    · exact .inr ⟨i, by rw [set_ne (wr_list_ne hp i4).symm]; rfl, i2, i3, i4⟩
theorem wr_no {h0 h : AH} {w : List Nat} {D : List UInt8} (hw : Wr h0 w h D) : Wr N0' w h D := hw.weak fun x b hx => by simp [N0'] at hx

/-- CodeOnce -/
theorem sp5 (s : List UInt8) (n : Int) (h0 : AH) (hn : n ≤ 9223372036854775807) : Sp T 5 [.str (bs s), .int .i64 n] h0 (fun v _ => v = .bool true) := by
  have c16 : ∀ h, Sp T 16 [.str (bs s), .int .i64 200] h (fun r h' => r = .str (bs (s.take 200)) ∧ h' = h) := fun h => sp16 s 200 h
  obtain ⟨s0, hs0⟩ : ∃ s0, s.take 200 = s0 := ⟨_, rfl⟩
  have hs0l : s0.length ≤ 200 := by rw [← hs0, List.length_take]; omega
  rw [hs0] at c16
  clear hs0
  refine Sp_of (fn := f5) rfl (show W T b5 [.str (bs s), .int .i64 n, .tup [], .tup [], .tup [], .tup [], .tup [], .tup [], .tup [], .tup [], .tup [], .tup [], .tup [], .tup [], .tup [], .tup [], .tup [], .tup [], .tup [], .tup [], .tup [], .tup [], .tup [], .tup [], .tup [], .tup [], .tup [], .tup [], .tup [], .tup [], .tup [], .tup [], .tup [], .tup [], .tup [], .tup [], .tup [], .tup [], .tup [], .tup [], .tup [], .tup [], .tup [], .tup [], .tup [], .tup [], .tup [], .tup [], .tup [], .tup [], .tup [], .tup [], .tup [], .tup [], .tup [], .tup [], .tup [], .tup [], .tup [], .tup [], .tup [], .tup [], .tup [], .tup [], .tup [], .tup [], .tup [], .tup [], .tup [], .tup [], .tup [], .tup [], .tup [], .tup [], .tup [], .tup [], .tup [], .tup [], .tup [], .tup [], .tup [], .tup [], .tup [], .tup [], .tup [], .tup [], .tup [], .tup [], .tup [], .tup [], .tup [], .tup [], .tup [], .tup [], .tup [], .tup [], .tup [], .tup [], .tup [], .tup [], .tup [], .tup [], .tup [], .tup [], .tup [], .tup [], .tup [], .tup [], .tup [], .tup []] _ _ from ?_)
  unfold b5
  repeat' (first
    | (refine wNil ?_)
    | (refine wPure rfl (by (first | (simp only [go_sem, aslice, azeros, bs_append, bs_size, bs_toList, bs_extract, bs_get, List.cons_append, List.nil_append, List.append_nil, AV.scalar, reduceIte, Int.le_refl, *]; (first | done | exact rfl)) | rfl)) rfl (by (first | (simp only [go_sem, aslice, azeros, bs_append, bs_size, bs_toList, bs_extract, bs_get, List.cons_append, List.nil_append, List.append_nil, AV.scalar, reduceIte, Int.le_refl, *]; (first | done | exact rfl)) | rfl)) ?_; dsimp only [putT, ev, Int.toNat_zero, Nat.sub_zero, Int.toNat_natCast,  gd_zero, gd_succ, Nat.zero_add, Nat.add_zero, Nat.reduceAdd, Nat.reduceMul, List.set_cons_zero, List.set_cons_succ, keep, List.contains_cons, List.contains_nil])
    | (refine wMk rfl (by (first | (simp only [go_sem, aslice, azeros, bs_append, bs_size, bs_toList, bs_extract, bs_get, List.cons_append, List.nil_append, List.append_nil, AV.scalar, reduceIte, Int.le_refl, *]; (first | done | exact rfl)) | rfl)) rfl ?_; intro id hid; (try simp only [set_none_iff] at hid); refine ⟨_, (by (first | (simp only [go_sem, aslice, azeros, bs_append, bs_size, bs_toList, bs_extract, bs_get, List.cons_append, List.nil_append, List.append_nil, AV.scalar, reduceIte, Int.le_refl, *]; (first | done | exact rfl)) | rfl)), ?_⟩; dsimp only [putT, ev, Int.toNat_zero, Nat.sub_zero, Int.toNat_natCast,  gd_zero, gd_succ, Nat.zero_add, Nat.add_zero, Nat.reduceAdd, Nat.reduceMul, List.set_cons_zero, List.set_cons_succ, keep, List.contains_cons, List.contains_nil])
    | (refine wChk rfl (by (first | (simp only [go_sem, aslice, azeros, bs_append, bs_size, bs_toList, bs_extract, bs_get, List.cons_append, List.nil_append, List.append_nil, AV.scalar, reduceIte, Int.le_refl, *]; (first | done | exact rfl)) | rfl)) rfl (by (first | (simp only [go_sem, aslice, azeros, bs_append, bs_size, bs_toList, bs_extract, bs_get, List.cons_append, List.nil_append, List.append_nil, AV.scalar, reduceIte, Int.le_refl, *]; (first | done | exact rfl)) | rfl)) rfl ?_) | (refine wChkF rfl (by (first | (simp only [go_sem, aslice, azeros, bs_append, bs_size, bs_toList, bs_extract, bs_get, List.cons_append, List.nil_append, List.append_nil, AV.scalar, reduceIte, Int.le_refl, *]; (first | done | exact rfl)) | rfl)) rfl ?_)
    | (refine wSkip rfl (by (first | (simp only [go_sem, aslice, azeros, bs_append, bs_size, bs_toList, bs_extract, bs_get, List.cons_append, List.nil_append, List.append_nil, AV.scalar, reduceIte, Int.le_refl, *]; (first | done | exact rfl)) | rfl)) ?_; dsimp only [putT, ev, Int.toNat_zero, Nat.sub_zero, Int.toNat_natCast,  gd_zero, gd_succ, Nat.zero_add, Nat.add_zero, Nat.reduceAdd, Nat.reduceMul, List.set_cons_zero, List.set_cons_succ, keep, List.contains_cons, List.contains_nil])
    | (refine wCall rfl (by (first | (simp only [awanted, gd_zero, gd_succ, beq_self_eq_true, beq_true, beq_false, Bool.not_true, Bool.not_false, *]; done) | rfl)) rfl (Sp.mono (sp13 _) ?_); rintro r h1 ⟨rfl, hU1⟩; dsimp only [putT, ev, Int.toNat_zero, Nat.sub_zero, Int.toNat_natCast,  gd_zero, gd_succ, Nat.zero_add, Nat.add_zero, Nat.reduceAdd, Nat.reduceMul, List.set_cons_zero, List.set_cons_succ, keep, List.contains_cons, List.contains_nil])
    | (refine wCall rfl (by (first | (simp only [awanted, gd_zero, gd_succ, beq_self_eq_true, beq_true, beq_false, Bool.not_true, Bool.not_false, *]; done) | rfl)) rfl (Sp.mono (c16 _) ?_); rintro r h' ⟨rfl, hx⟩; cases hx; dsimp only [putT, ev, Int.toNat_zero, Nat.sub_zero, Int.toNat_natCast,  gd_zero, gd_succ, Nat.zero_add, Nat.add_zero, Nat.reduceAdd, Nat.reduceMul, List.set_cons_zero, List.set_cons_succ, keep, List.contains_cons, List.contains_nil])
    | (refine wCall rfl (by (first | (simp only [awanted, gd_zero, gd_succ, beq_self_eq_true, beq_true, beq_false, Bool.not_true, Bool.not_false, *]; done) | rfl)) rfl (Sp.mono (sp17 s0 _) ?_); rintro r h4 ⟨p, rfl, hr⟩; have hp := hr.2.2; dsimp only [putT, ev, Int.toNat_zero, Nat.sub_zero, Int.toNat_natCast,  gd_zero, gd_succ, Nat.zero_add, Nat.add_zero, Nat.reduceAdd, Nat.reduceMul, List.set_cons_zero, List.set_cons_succ, keep, List.contains_cons, List.contains_nil])
    | (refine cSeq ?_) | (refine cNorm ?_) | (refine cRet ?_) | (refine cExit ?_) | (refine W_reg rfl ?_) | (refine W_block ?_) | (refine W_ret ?_) | (refine W_skip ?_) | (refine W_exit ?_) | (refine bNorm ?_) | (refine bRet ?_) | (refine bExit ?_) | (refine bExitN rfl ?_)
    | (refine cMask' (by simp only [keep, List.contains_cons, List.contains_nil, Nat.reduceBEq, Bool.or_true, Bool.true_or, Bool.or_false, Bool.false_or, if_true, if_false, Bool.false_eq_true, beq_self_eq_true, Nat.zero_add, Nat.reduceAdd, eq_self]; exact rfl) ?_)
    | (refine cT (by (first | (simp only [go_sem, aslice, azeros, bs_append, bs_size, bs_toList, bs_extract, bs_get, List.cons_append, List.nil_append, List.append_nil, AV.scalar, reduceIte, Int.le_refl, *]; (first | done | exact rfl)) | rfl)) ?_) | (refine cF (by (first | (simp only [go_sem, aslice, azeros, bs_append, bs_size, bs_toList, bs_extract, bs_get, List.cons_append, List.nil_append, List.append_nil, AV.scalar, reduceIte, Int.le_refl, *]; (first | done | exact rfl)) | rfl)) ?_)
    | (refine rRet (by (first | (simp only [go_sem, aslice, azeros, bs_append, bs_size, bs_toList, bs_extract, bs_get, List.cons_append, List.nil_append, List.append_nil, AV.scalar, reduceIte, Int.le_refl, *]; (first | done | exact rfl)) | rfl)) ?_) | (refine rNorm (by (first | (simp only [go_sem, aslice, azeros, bs_append, bs_size, bs_toList, bs_extract, bs_get, List.cons_append, List.nil_append, List.append_nil, AV.scalar, reduceIte, Int.le_refl, *]; (first | done | exact rfl)) | rfl)) ?_)
    | (refine wSplit _ rfl (by (first | (simp only [go_sem, aslice, azeros, bs_append, bs_size, bs_toList, bs_extract, bs_get, List.cons_append, List.nil_append, List.append_nil, AV.scalar, reduceIte, Int.le_refl, *]; (first | done | exact rfl)) | rfl)) ?_ ?_ <;> intro hb <;> (try simp only [beq_false, beq_true, Bool.not_true, Bool.not_false, Bool.not_eq_true', Bool.not_eq_false', decide_eq_false_iff_not, decide_eq_true_eq, bne_iff_ne, beq_iff_eq, Bool.true_eq, Bool.false_eq, Bool.not_not, Bool.and_eq_true, Bool.or_eq_true, Bool.bne_true, Bool.bne_false, bne_eq_false_iff_eq, beq_eq_false_iff_ne, ne_eq] at hb))
    | (refine W_cond _ (by (first | (simp only [go_sem, aslice, azeros, bs_append, bs_size, bs_toList, bs_extract, bs_get, List.cons_append, List.nil_append, List.append_nil, AV.scalar, reduceIte, Int.le_refl, *]; (first | done | exact rfl)) | rfl)) ?_ ?_ <;> intro hb <;> (try simp only [beq_false, beq_true, Bool.not_true, Bool.not_false, Bool.not_eq_true', Bool.not_eq_false', decide_eq_false_iff_not, decide_eq_true_eq, bne_iff_ne, beq_iff_eq, Bool.true_eq, Bool.false_eq, Bool.not_not, Bool.and_eq_true, Bool.or_eq_true, Bool.bne_true, Bool.bne_false, bne_eq_false_iff_eq, beq_eq_false_iff_ne, ne_eq] at hb)))
  obtain ⟨w, rfl⟩ : ∃ w, w = id := ⟨_, rfl⟩
  have hw : Wr N0' w _ [] := Wr.start (h := h4) (fun x b hx => by simp [N0'] at hx) hid
  have hp' : (AH.set h4 w (some ⟨true, [.nils]⟩)) p = some ⟨true, [.str (bs s0), .int .i64 0]⟩ := by rw [set_ne (nei hp hid)]; exact hp
  clear c16 hp hr hid hU1
  refine W_loop (fun m tm h' => ∃ D R e, h' p = some ⟨true, [.str (bs R), .int .i64 e]⟩ ∧ Wr N0' w h' D ∧ ((e = 0 ∧ m = R.length + 1 ∧ D ++ R = s0) ∨ ((e = 3 ∨ e = 4) ∧ m = 0 ∧ ∃ R0, R0 ≠ [] ∧ D ++ R0 = s0)) ∧ keep [0, 1, 5, 6] 0 tm = [.str (bs s0), .int .i64 n, .und, .und, .und, .ptr p 0, .ptr w 0, .und, .und, .und, .und, .und, .und, .und, .und, .und, .und, .und, .und, .und, .und, .und, .und, .und, .und, .und, .und, .und, .und, .und, .und, .und, .und, .und, .und, .und, .und, .und, .und, .und, .und, .und, .und, .und, .und, .und, .und, .und, .und, .und, .und, .und, .und, .und, .und, .und, .und, .und, .und, .und, .und, .und, .und, .und, .und, .und, .und, .und, .und, .und, .und, .und, .und, .und, .und, .und, .und, .und, .und, .und, .und, .und, .und, .und, .und, .und, .und, .und, .und, .und, .und, .und, .und, .und, .und, .und, .und, .und, .und, .und, .und, .und, .und, .und, .und, .und, .und, .und, .und, .und]) (s0.length + 1) ⟨[], s0, 0, hp', hw, .inl ⟨rfl, rfl, rfl⟩, rfl⟩ ?_
  clear hw hp'
  rintro m tm h' ⟨D, R, e, hp, hw, hI, htm⟩
  refine cSeq (cMask (cNorm ?_))
  rw [htm]; clear htm
  rcases hI with ⟨rfl, rfl, hDR⟩ | ⟨he, rfl, R0, hR0, hDR⟩
  · cases R with
    | nil =>
      have d1 : ¬ (0 : Int) < (([] : List UInt8).length : Int) := by simp
      obtain rfl : D = s0 := by simpa using hDR
      repeat' (first
        | (refine wNil ?_)
        | (refine wPure rfl (by (first | (simp only [go_sem, aslice, azeros, bs_append, bs_size, bs_toList, bs_extract, bs_get, List.cons_append, List.nil_append, List.append_nil, AV.scalar, reduceIte, Int.le_refl, *]; (first | done | exact rfl)) | rfl)) rfl (by (first | (simp only [go_sem, aslice, azeros, bs_append, bs_size, bs_toList, bs_extract, bs_get, List.cons_append, List.nil_append, List.append_nil, AV.scalar, reduceIte, Int.le_refl, *]; (first | done | exact rfl)) | rfl)) ?_; dsimp only [putT, ev, Int.toNat_zero, Nat.sub_zero, Int.toNat_natCast,  gd_zero, gd_succ, Nat.zero_add, Nat.add_zero, Nat.reduceAdd, Nat.reduceMul, List.set_cons_zero, List.set_cons_succ, keep, List.contains_cons, List.contains_nil])
        | (refine wMk rfl (by (first | (simp only [go_sem, aslice, azeros, bs_append, bs_size, bs_toList, bs_extract, bs_get, List.cons_append, List.nil_append, List.append_nil, AV.scalar, reduceIte, Int.le_refl, *]; (first | done | exact rfl)) | rfl)) rfl ?_; intro id hid; (try simp only [set_none_iff] at hid); refine ⟨_, (by (first | (simp only [go_sem, aslice, azeros, bs_append, bs_size, bs_toList, bs_extract, bs_get, List.cons_append, List.nil_append, List.append_nil, AV.scalar, reduceIte, Int.le_refl, *]; (first | done | exact rfl)) | rfl)), ?_⟩; dsimp only [putT, ev, Int.toNat_zero, Nat.sub_zero, Int.toNat_natCast,  gd_zero, gd_succ, Nat.zero_add, Nat.add_zero, Nat.reduceAdd, Nat.reduceMul, List.set_cons_zero, List.set_cons_succ, keep, List.contains_cons, List.contains_nil])
        | (refine wChk rfl (by (first | (simp only [go_sem, aslice, azeros, bs_append, bs_size, bs_toList, bs_extract, bs_get, List.cons_append, List.nil_append, List.append_nil, AV.scalar, reduceIte, Int.le_refl, *]; (first | done | exact rfl)) | rfl)) rfl (by (first | (simp only [go_sem, aslice, azeros, bs_append, bs_size, bs_toList, bs_extract, bs_get, List.cons_append, List.nil_append, List.append_nil, AV.scalar, reduceIte, Int.le_refl, *]; (first | done | exact rfl)) | rfl)) rfl ?_) | (refine wChkF rfl (by (first | (simp only [go_sem, aslice, azeros, bs_append, bs_size, bs_toList, bs_extract, bs_get, List.cons_append, List.nil_append, List.append_nil, AV.scalar, reduceIte, Int.le_refl, *]; (first | done | exact rfl)) | rfl)) rfl ?_)
        | (refine wSkip rfl (by (first | (simp only [go_sem, aslice, azeros, bs_append, bs_size, bs_toList, bs_extract, bs_get, List.cons_append, List.nil_append, List.append_nil, AV.scalar, reduceIte, Int.le_refl, *]; (first | done | exact rfl)) | rfl)) ?_; dsimp only [putT, ev, Int.toNat_zero, Nat.sub_zero, Int.toNat_natCast,  gd_zero, gd_succ, Nat.zero_add, Nat.add_zero, Nat.reduceAdd, Nat.reduceMul, List.set_cons_zero, List.set_cons_succ, keep, List.contains_cons, List.contains_nil])
        | (refine wCall rfl (by (first | (simp only [awanted, gd_zero, gd_succ, beq_self_eq_true, beq_true, beq_false, Bool.not_true, Bool.not_false, *]; done) | rfl)) rfl (Sp.mono (sp27 N0' p [] 0 _ (rd_no hp)) ?_); rintro r h' ⟨rfl, hx⟩; cases hx; dsimp only [putT, ev, Int.toNat_zero, Nat.sub_zero, Int.toNat_natCast,  gd_zero, gd_succ, Nat.zero_add, Nat.add_zero, Nat.reduceAdd, Nat.reduceMul, List.set_cons_zero, List.set_cons_succ, keep, List.contains_cons, List.contains_nil])
        | (refine wCall rfl (by (first | (simp only [awanted, gd_zero, gd_succ, beq_self_eq_true, beq_true, beq_false, Bool.not_true, Bool.not_false, *]; done) | rfl)) rfl (Sp.mono (sp26 N0' p [] 0 _ (rd_no hp)) ?_); rintro r h' ⟨rfl, hx⟩; cases hx; dsimp only [putT, ev, Int.toNat_zero, Nat.sub_zero, Int.toNat_natCast,  gd_zero, gd_succ, Nat.zero_add, Nat.add_zero, Nat.reduceAdd, Nat.reduceMul, List.set_cons_zero, List.set_cons_succ, keep, List.contains_cons, List.contains_nil])
        | (refine wCall rfl (by (first | (simp only [awanted, gd_zero, gd_succ, beq_self_eq_true, beq_true, beq_false, Bool.not_true, Bool.not_false, *]; done) | rfl)) rfl (Sp.mono (sp31 N0' w D _ hw) ?_); rintro r h' ⟨rfl, hx⟩; cases hx; dsimp only [putT, ev, Int.toNat_zero, Nat.sub_zero, Int.toNat_natCast,  gd_zero, gd_succ, Nat.zero_add, Nat.add_zero, Nat.reduceAdd, Nat.reduceMul, List.set_cons_zero, List.set_cons_succ, keep, List.contains_cons, List.contains_nil])
        | (refine cSeq ?_) | (refine cNorm ?_) | (refine cRet ?_) | (refine cExit ?_) | (refine W_reg rfl ?_) | (refine W_block ?_) | (refine W_ret ?_) | (refine W_skip ?_) | (refine W_exit ?_) | (refine bNorm ?_) | (refine bRet ?_) | (refine bExit ?_) | (refine bExitN rfl ?_)
        | (refine cMask' (by simp only [keep, List.contains_cons, List.contains_nil, Nat.reduceBEq, Bool.or_true, Bool.true_or, Bool.or_false, Bool.false_or, if_true, if_false, Bool.false_eq_true, beq_self_eq_true, Nat.zero_add, Nat.reduceAdd, eq_self]; exact rfl) ?_)
        | (refine cT (by (first | (simp only [go_sem, aslice, azeros, bs_append, bs_size, bs_toList, bs_extract, bs_get, List.cons_append, List.nil_append, List.append_nil, AV.scalar, reduceIte, Int.le_refl, *]; (first | done | exact rfl)) | rfl)) ?_) | (refine cF (by (first | (simp only [go_sem, aslice, azeros, bs_append, bs_size, bs_toList, bs_extract, bs_get, List.cons_append, List.nil_append, List.append_nil, AV.scalar, reduceIte, Int.le_refl, *]; (first | done | exact rfl)) | rfl)) ?_)
        | (refine rRet (by (first | (simp only [go_sem, aslice, azeros, bs_append, bs_size, bs_toList, bs_extract, bs_get, List.cons_append, List.nil_append, List.append_nil, AV.scalar, reduceIte, Int.le_refl, *]; (first | done | exact rfl)) | rfl)) ?_) | (refine rNorm (by (first | (simp only [go_sem, aslice, azeros, bs_append, bs_size, bs_toList, bs_extract, bs_get, List.cons_append, List.nil_append, List.append_nil, AV.scalar, reduceIte, Int.le_refl, *]; (first | done | exact rfl)) | rfl)) ?_)
        | (refine wSplit _ rfl (by (first | (simp only [go_sem, aslice, azeros, bs_append, bs_size, bs_toList, bs_extract, bs_get, List.cons_append, List.nil_append, List.append_nil, AV.scalar, reduceIte, Int.le_refl, *]; (first | done | exact rfl)) | rfl)) ?_ ?_ <;> intro hb <;> (try simp only [beq_false, beq_true, Bool.not_true, Bool.not_false, Bool.not_eq_true', Bool.not_eq_false', decide_eq_false_iff_not, decide_eq_true_eq, bne_iff_ne, beq_iff_eq, Bool.true_eq, Bool.false_eq, Bool.not_not, Bool.and_eq_true, Bool.or_eq_true, Bool.bne_true, Bool.bne_false, bne_eq_false_iff_eq, beq_eq_false_iff_ne, ne_eq] at hb))
        | (refine W_cond _ (by (first | (simp only [go_sem, aslice, azeros, bs_append, bs_size, bs_toList, bs_extract, bs_get, List.cons_append, List.nil_append, List.append_nil, AV.scalar, reduceIte, Int.le_refl, *]; (first | done | exact rfl)) | rfl)) ?_ ?_ <;> intro hb <;> (try simp only [beq_false, beq_true, Bool.not_true, Bool.not_false, Bool.not_eq_true', Bool.not_eq_false', decide_eq_false_iff_not, decide_eq_true_eq, bne_iff_ne, beq_iff_eq, Bool.true_eq, Bool.false_eq, Bool.not_not, Bool.and_eq_true, Bool.or_eq_true, Bool.bne_true, Bool.bne_false, bne_eq_false_iff_eq, beq_eq_false_iff_ne, ne_eq] at hb)))
      all_goals rfl
    | cons b R1 =>
      have d1 : (0 : Int) < ((R1.length + 1 : Nat) : Int) := by omega
      obtain ⟨R', v, hc⟩ := tU_cases b R1
      have k := sp19 (h'.set p none) p (b :: R1) 0 h' (rd_of hp)
      have hDl : D.length + 1 ≤ 200 := by have := congrArg List.length hDR; rw [List.length_append, List.length_cons] at this; omega
      rcases hc with ⟨hq, hR, hl, hv⟩ | hc
      · simp only [hq] at k
        have d2 : ¬ ((R1.length + 1 : Nat) : Int) ≤ (R'.length : Int) := by omega
        have b1 := encU_length v
        have hR' : Hid (b :: R1 = encU v ++ R') := hR
        clear hR
        repeat' (first
          | (refine wNil ?_)
          | (refine wPure rfl (by (first | (simp only [go_sem, aslice, azeros, bs_append, bs_size, bs_toList, bs_extract, bs_get, List.cons_append, List.nil_append, List.append_nil, AV.scalar, reduceIte, Int.le_refl, *]; (first | done | exact rfl)) | rfl)) rfl (by (first | (simp only [go_sem, aslice, azeros, bs_append, bs_size, bs_toList, bs_extract, bs_get, List.cons_append, List.nil_append, List.append_nil, AV.scalar, reduceIte, Int.le_refl, *]; (first | done | exact rfl)) | rfl)) ?_; dsimp only [putT, ev, Int.toNat_zero, Nat.sub_zero, Int.toNat_natCast,  gd_zero, gd_succ, Nat.zero_add, Nat.add_zero, Nat.reduceAdd, Nat.reduceMul, List.set_cons_zero, List.set_cons_succ, keep, List.contains_cons, List.contains_nil])
          | (refine wMk rfl (by (first | (simp only [go_sem, aslice, azeros, bs_append, bs_size, bs_toList, bs_extract, bs_get, List.cons_append, List.nil_append, List.append_nil, AV.scalar, reduceIte, Int.le_refl, *]; (first | done | exact rfl)) | rfl)) rfl ?_; intro id hid; (try simp only [set_none_iff] at hid); refine ⟨_, (by (first | (simp only [go_sem, aslice, azeros, bs_append, bs_size, bs_toList, bs_extract, bs_get, List.cons_append, List.nil_append, List.append_nil, AV.scalar, reduceIte, Int.le_refl, *]; (first | done | exact rfl)) | rfl)), ?_⟩; dsimp only [putT, ev, Int.toNat_zero, Nat.sub_zero, Int.toNat_natCast,  gd_zero, gd_succ, Nat.zero_add, Nat.add_zero, Nat.reduceAdd, Nat.reduceMul, List.set_cons_zero, List.set_cons_succ, keep, List.contains_cons, List.contains_nil])
          | (refine wChk rfl (by (first | (simp only [go_sem, aslice, azeros, bs_append, bs_size, bs_toList, bs_extract, bs_get, List.cons_append, List.nil_append, List.append_nil, AV.scalar, reduceIte, Int.le_refl, *]; (first | done | exact rfl)) | rfl)) rfl (by (first | (simp only [go_sem, aslice, azeros, bs_append, bs_size, bs_toList, bs_extract, bs_get, List.cons_append, List.nil_append, List.append_nil, AV.scalar, reduceIte, Int.le_refl, *]; (first | done | exact rfl)) | rfl)) rfl ?_) | (refine wChkF rfl (by (first | (simp only [go_sem, aslice, azeros, bs_append, bs_size, bs_toList, bs_extract, bs_get, List.cons_append, List.nil_append, List.append_nil, AV.scalar, reduceIte, Int.le_refl, *]; (first | done | exact rfl)) | rfl)) rfl ?_)
          | (refine wSkip rfl (by (first | (simp only [go_sem, aslice, azeros, bs_append, bs_size, bs_toList, bs_extract, bs_get, List.cons_append, List.nil_append, List.append_nil, AV.scalar, reduceIte, Int.le_refl, *]; (first | done | exact rfl)) | rfl)) ?_; dsimp only [putT, ev, Int.toNat_zero, Nat.sub_zero, Int.toNat_natCast,  gd_zero, gd_succ, Nat.zero_add, Nat.add_zero, Nat.reduceAdd, Nat.reduceMul, List.set_cons_zero, List.set_cons_succ, keep, List.contains_cons, List.contains_nil])
          | (refine wCall rfl (by (first | (simp only [awanted, gd_zero, gd_succ, beq_self_eq_true, beq_true, beq_false, Bool.not_true, Bool.not_false, *]; done) | rfl)) rfl (Sp.mono (sp27 N0' p (b :: R1) 0 _ (rd_no hp)) ?_); rintro r h' ⟨rfl, hx⟩; cases hx; dsimp only [putT, ev, Int.toNat_zero, Nat.sub_zero, Int.toNat_natCast,  gd_zero, gd_succ, Nat.zero_add, Nat.add_zero, Nat.reduceAdd, Nat.reduceMul, List.set_cons_zero, List.set_cons_succ, keep, List.contains_cons, List.contains_nil])
          | (refine wCall rfl (by (first | (simp only [awanted, gd_zero, gd_succ, beq_self_eq_true, beq_true, beq_false, Bool.not_true, Bool.not_false, *]; done) | rfl)) rfl (Sp.mono (sp26 N0' p (b :: R1) 0 _ (rd_no hp)) ?_); rintro r h' ⟨rfl, hx⟩; cases hx; dsimp only [putT, ev, Int.toNat_zero, Nat.sub_zero, Int.toNat_natCast,  gd_zero, gd_succ, Nat.zero_add, Nat.add_zero, Nat.reduceAdd, Nat.reduceMul, List.set_cons_zero, List.set_cons_succ, keep, List.contains_cons, List.contains_nil])
          | (refine wCall rfl (by (first | (simp only [awanted, gd_zero, gd_succ, beq_self_eq_true, beq_true, beq_false, Bool.not_true, Bool.not_false, *]; done) | rfl)) rfl (Sp.mono (k) ?_); rintro r h2 ⟨rfl, hr2⟩; have hp2 := hr2.2.2; have hw2 := wr_after hw hp hr2; dsimp only [putT, ev, Int.toNat_zero, Nat.sub_zero, Int.toNat_natCast,  gd_zero, gd_succ, Nat.zero_add, Nat.add_zero, Nat.reduceAdd, Nat.reduceMul, List.set_cons_zero, List.set_cons_succ, keep, List.contains_cons, List.contains_nil])
          | (refine wCall rfl (by (first | (simp only [awanted, gd_zero, gd_succ, beq_self_eq_true, beq_true, beq_false, Bool.not_true, Bool.not_false, *]; done) | rfl)) rfl (Sp.mono (sp26 N0' p R' 0 _ (rd_no hp2)) ?_); rintro r h' ⟨rfl, hx⟩; cases hx; dsimp only [putT, ev, Int.toNat_zero, Nat.sub_zero, Int.toNat_natCast,  gd_zero, gd_succ, Nat.zero_add, Nat.add_zero, Nat.reduceAdd, Nat.reduceMul, List.set_cons_zero, List.set_cons_succ, keep, List.contains_cons, List.contains_nil])
          | (refine wCall rfl (by (first | (simp only [awanted, gd_zero, gd_succ, beq_self_eq_true, beq_true, beq_false, Bool.not_true, Bool.not_false, *]; done) | rfl)) rfl (Sp.mono (sp30 ((N0'.set p _).set id (some ⟨true, [v].map fun (v : Nat) => AV.int .u64 (v : Int)⟩)) w id true D [v] _ ((wr_two hw2 hp2).new hid) set_same (by simp only [List.flatMap_cons, List.flatMap_nil, List.append_nil, List.length_append]; omega) (by simp)) ?_); rintro r h3 ⟨rfl, hw3⟩; have hp3 := hw3.1 _ _ ((set_ne (nei hp2 hid)).trans set_same); have hw4 := wr_no hw3; simp only [List.flatMap_cons, List.flatMap_nil, List.append_nil] at hw4; dsimp only [putT, ev, Int.toNat_zero, Nat.sub_zero, Int.toNat_natCast,  gd_zero, gd_succ, Nat.zero_add, Nat.add_zero, Nat.reduceAdd, Nat.reduceMul, List.set_cons_zero, List.set_cons_succ, keep, List.contains_cons, List.contains_nil])
          | (refine wCall rfl (by (first | (simp only [awanted, gd_zero, gd_succ, beq_self_eq_true, beq_true, beq_false, Bool.not_true, Bool.not_false, *]; done) | rfl)) rfl (Sp.mono (sp26 N0' p R' 0 _ (rd_no hp3)) ?_); rintro r h' ⟨rfl, hx⟩; cases hx; dsimp only [putT, ev, Int.toNat_zero, Nat.sub_zero, Int.toNat_natCast,  gd_zero, gd_succ, Nat.zero_add, Nat.add_zero, Nat.reduceAdd, Nat.reduceMul, List.set_cons_zero, List.set_cons_succ, keep, List.contains_cons, List.contains_nil])
          | (refine wCall rfl (by (first | (simp only [awanted, gd_zero, gd_succ, beq_self_eq_true, beq_true, beq_false, Bool.not_true, Bool.not_false, *]; done) | rfl)) rfl (Sp.mono (sp27 N0' p R' 0 _ (rd_no hp3)) ?_); rintro r h' ⟨rfl, hx⟩; cases hx; dsimp only [putT, ev, Int.toNat_zero, Nat.sub_zero, Int.toNat_natCast,  gd_zero, gd_succ, Nat.zero_add, Nat.add_zero, Nat.reduceAdd, Nat.reduceMul, List.set_cons_zero, List.set_cons_succ, keep, List.contains_cons, List.contains_nil])
          | (refine cSeq ?_) | (refine cNorm ?_) | (refine cRet ?_) | (refine cExit ?_) | (refine W_reg rfl ?_) | (refine W_block ?_) | (refine W_ret ?_) | (refine W_skip ?_) | (refine W_exit ?_) | (refine bNorm ?_) | (refine bRet ?_) | (refine bExit ?_) | (refine bExitN rfl ?_)
          | (refine cMask' (by simp only [keep, List.contains_cons, List.contains_nil, Nat.reduceBEq, Bool.or_true, Bool.true_or, Bool.or_false, Bool.false_or, if_true, if_false, Bool.false_eq_true, beq_self_eq_true, Nat.zero_add, Nat.reduceAdd, eq_self]; exact rfl) ?_)
          | (refine cT (by (first | (simp only [go_sem, aslice, azeros, bs_append, bs_size, bs_toList, bs_extract, bs_get, List.cons_append, List.nil_append, List.append_nil, AV.scalar, reduceIte, Int.le_refl, *]; (first | done | exact rfl)) | rfl)) ?_) | (refine cF (by (first | (simp only [go_sem, aslice, azeros, bs_append, bs_size, bs_toList, bs_extract, bs_get, List.cons_append, List.nil_append, List.append_nil, AV.scalar, reduceIte, Int.le_refl, *]; (first | done | exact rfl)) | rfl)) ?_)
          | (refine rRet (by (first | (simp only [go_sem, aslice, azeros, bs_append, bs_size, bs_toList, bs_extract, bs_get, List.cons_append, List.nil_append, List.append_nil, AV.scalar, reduceIte, Int.le_refl, *]; (first | done | exact rfl)) | rfl)) ?_) | (refine rNorm (by (first | (simp only [go_sem, aslice, azeros, bs_append, bs_size, bs_toList, bs_extract, bs_get, List.cons_append, List.nil_append, List.append_nil, AV.scalar, reduceIte, Int.le_refl, *]; (first | done | exact rfl)) | rfl)) ?_)
          | (refine wSplit _ rfl (by (first | (simp only [go_sem, aslice, azeros, bs_append, bs_size, bs_toList, bs_extract, bs_get, List.cons_append, List.nil_append, List.append_nil, AV.scalar, reduceIte, Int.le_refl, *]; (first | done | exact rfl)) | rfl)) ?_ ?_ <;> intro hb <;> (try simp only [beq_false, beq_true, Bool.not_true, Bool.not_false, Bool.not_eq_true', Bool.not_eq_false', decide_eq_false_iff_not, decide_eq_true_eq, bne_iff_ne, beq_iff_eq, Bool.true_eq, Bool.false_eq, Bool.not_not, Bool.and_eq_true, Bool.or_eq_true, Bool.bne_true, Bool.bne_false, bne_eq_false_iff_eq, beq_eq_false_iff_ne, ne_eq] at hb))
          | (refine W_cond _ (by (first | (simp only [go_sem, aslice, azeros, bs_append, bs_size, bs_toList, bs_extract, bs_get, List.cons_append, List.nil_append, List.append_nil, AV.scalar, reduceIte, Int.le_refl, *]; (first | done | exact rfl)) | rfl)) ?_ ?_ <;> intro hb <;> (try simp only [beq_false, beq_true, Bool.not_true, Bool.not_false, Bool.not_eq_true', Bool.not_eq_false', decide_eq_false_iff_not, decide_eq_true_eq, bne_iff_ne, beq_iff_eq, Bool.true_eq, Bool.false_eq, Bool.not_not, Bool.and_eq_true, Bool.or_eq_true, Bool.bne_true, Bool.bne_false, bne_eq_false_iff_eq, beq_eq_false_iff_ne, ne_eq] at hb)))
        all_goals exact ⟨R'.length + 1, by rw [List.length_cons]; omega, D ++ encU v, R', 0, hp3, hw4, .inl ⟨rfl, rfl, by have hR : b :: R1 = encU v ++ R' := hR'; rw [List.append_assoc, ← hR]; exact hDR⟩, by simp only [keep, List.contains_cons, List.contains_nil, Nat.reduceBEq, Bool.or_true, Bool.true_or, Bool.or_false, Bool.false_or, if_true, if_false, Bool.false_eq_true, beq_self_eq_true, Nat.zero_add, Nat.reduceAdd, eq_self]⟩
      · obtain ⟨e', he', hq⟩ : ∃ e', (e' = 3 ∨ e' = 4) ∧ tU (b :: R1) 0 = (R', e', 0) := by
          rcases hc with hc | hc
          · exact ⟨3, .inl rfl, hc⟩
          · exact ⟨4, .inr rfl, hc⟩
        simp only [hq] at k
        have d3 : (e' == 0) = false := by rcases he' with rfl | rfl <;> rfl
        repeat' (first
          | (refine wNil ?_)
          | (refine wPure rfl (by (first | (simp only [go_sem, aslice, azeros, bs_append, bs_size, bs_toList, bs_extract, bs_get, List.cons_append, List.nil_append, List.append_nil, AV.scalar, reduceIte, Int.le_refl, *]; (first | done | exact rfl)) | rfl)) rfl (by (first | (simp only [go_sem, aslice, azeros, bs_append, bs_size, bs_toList, bs_extract, bs_get, List.cons_append, List.nil_append, List.append_nil, AV.scalar, reduceIte, Int.le_refl, *]; (first | done | exact rfl)) | rfl)) ?_; dsimp only [putT, ev, Int.toNat_zero, Nat.sub_zero, Int.toNat_natCast,  gd_zero, gd_succ, Nat.zero_add, Nat.add_zero, Nat.reduceAdd, Nat.reduceMul, List.set_cons_zero, List.set_cons_succ, keep, List.contains_cons, List.contains_nil])
          | (refine wMk rfl (by (first | (simp only [go_sem, aslice, azeros, bs_append, bs_size, bs_toList, bs_extract, bs_get, List.cons_append, List.nil_append, List.append_nil, AV.scalar, reduceIte, Int.le_refl, *]; (first | done | exact rfl)) | rfl)) rfl ?_; intro id hid; (try simp only [set_none_iff] at hid); refine ⟨_, (by (first | (simp only [go_sem, aslice, azeros, bs_append, bs_size, bs_toList, bs_extract, bs_get, List.cons_append, List.nil_append, List.append_nil, AV.scalar, reduceIte, Int.le_refl, *]; (first | done | exact rfl)) | rfl)), ?_⟩; dsimp only [putT, ev, Int.toNat_zero, Nat.sub_zero, Int.toNat_natCast,  gd_zero, gd_succ, Nat.zero_add, Nat.add_zero, Nat.reduceAdd, Nat.reduceMul, List.set_cons_zero, List.set_cons_succ, keep, List.contains_cons, List.contains_nil])
          | (refine wChk rfl (by (first | (simp only [go_sem, aslice, azeros, bs_append, bs_size, bs_toList, bs_extract, bs_get, List.cons_append, List.nil_append, List.append_nil, AV.scalar, reduceIte, Int.le_refl, *]; (first | done | exact rfl)) | rfl)) rfl (by (first | (simp only [go_sem, aslice, azeros, bs_append, bs_size, bs_toList, bs_extract, bs_get, List.cons_append, List.nil_append, List.append_nil, AV.scalar, reduceIte, Int.le_refl, *]; (first | done | exact rfl)) | rfl)) rfl ?_) | (refine wChkF rfl (by (first | (simp only [go_sem, aslice, azeros, bs_append, bs_size, bs_toList, bs_extract, bs_get, List.cons_append, List.nil_append, List.append_nil, AV.scalar, reduceIte, Int.le_refl, *]; (first | done | exact rfl)) | rfl)) rfl ?_)
          | (refine wSkip rfl (by (first | (simp only [go_sem, aslice, azeros, bs_append, bs_size, bs_toList, bs_extract, bs_get, List.cons_append, List.nil_append, List.append_nil, AV.scalar, reduceIte, Int.le_refl, *]; (first | done | exact rfl)) | rfl)) ?_; dsimp only [putT, ev, Int.toNat_zero, Nat.sub_zero, Int.toNat_natCast,  gd_zero, gd_succ, Nat.zero_add, Nat.add_zero, Nat.reduceAdd, Nat.reduceMul, List.set_cons_zero, List.set_cons_succ, keep, List.contains_cons, List.contains_nil])
          | (refine wCall rfl (by (first | (simp only [awanted, gd_zero, gd_succ, beq_self_eq_true, beq_true, beq_false, Bool.not_true, Bool.not_false, *]; done) | rfl)) rfl (Sp.mono (sp27 N0' p (b :: R1) 0 _ (rd_no hp)) ?_); rintro r h' ⟨rfl, hx⟩; cases hx; dsimp only [putT, ev, Int.toNat_zero, Nat.sub_zero, Int.toNat_natCast,  gd_zero, gd_succ, Nat.zero_add, Nat.add_zero, Nat.reduceAdd, Nat.reduceMul, List.set_cons_zero, List.set_cons_succ, keep, List.contains_cons, List.contains_nil])
          | (refine wCall rfl (by (first | (simp only [awanted, gd_zero, gd_succ, beq_self_eq_true, beq_true, beq_false, Bool.not_true, Bool.not_false, *]; done) | rfl)) rfl (Sp.mono (sp26 N0' p (b :: R1) 0 _ (rd_no hp)) ?_); rintro r h' ⟨rfl, hx⟩; cases hx; dsimp only [putT, ev, Int.toNat_zero, Nat.sub_zero, Int.toNat_natCast,  gd_zero, gd_succ, Nat.zero_add, Nat.add_zero, Nat.reduceAdd, Nat.reduceMul, List.set_cons_zero, List.set_cons_succ, keep, List.contains_cons, List.contains_nil])
          | (refine wCall rfl (by (first | (simp only [awanted, gd_zero, gd_succ, beq_self_eq_true, beq_true, beq_false, Bool.not_true, Bool.not_false, *]; done) | rfl)) rfl (Sp.mono (k) ?_); rintro r h2 ⟨rfl, hr2⟩; have hp2 := hr2.2.2; have hw2 := wr_after hw hp hr2; dsimp only [putT, ev, Int.toNat_zero, Nat.sub_zero, Int.toNat_natCast,  gd_zero, gd_succ, Nat.zero_add, Nat.add_zero, Nat.reduceAdd, Nat.reduceMul, List.set_cons_zero, List.set_cons_succ, keep, List.contains_cons, List.contains_nil])
          | (refine wCall rfl (by (first | (simp only [awanted, gd_zero, gd_succ, beq_self_eq_true, beq_true, beq_false, Bool.not_true, Bool.not_false, *]; done) | rfl)) rfl (Sp.mono (sp26 N0' p R' e' _ (rd_no hp2)) ?_); rintro r h' ⟨rfl, hx⟩; cases hx; dsimp only [putT, ev, Int.toNat_zero, Nat.sub_zero, Int.toNat_natCast,  gd_zero, gd_succ, Nat.zero_add, Nat.add_zero, Nat.reduceAdd, Nat.reduceMul, List.set_cons_zero, List.set_cons_succ, keep, List.contains_cons, List.contains_nil])
          | (refine cSeq ?_) | (refine cNorm ?_) | (refine cRet ?_) | (refine cExit ?_) | (refine W_reg rfl ?_) | (refine W_block ?_) | (refine W_ret ?_) | (refine W_skip ?_) | (refine W_exit ?_) | (refine bNorm ?_) | (refine bRet ?_) | (refine bExit ?_) | (refine bExitN rfl ?_)
          | (refine cMask' (by simp only [keep, List.contains_cons, List.contains_nil, Nat.reduceBEq, Bool.or_true, Bool.true_or, Bool.or_false, Bool.false_or, if_true, if_false, Bool.false_eq_true, beq_self_eq_true, Nat.zero_add, Nat.reduceAdd, eq_self]; exact rfl) ?_)
          | (refine cT (by (first | (simp only [go_sem, aslice, azeros, bs_append, bs_size, bs_toList, bs_extract, bs_get, List.cons_append, List.nil_append, List.append_nil, AV.scalar, reduceIte, Int.le_refl, *]; (first | done | exact rfl)) | rfl)) ?_) | (refine cF (by (first | (simp only [go_sem, aslice, azeros, bs_append, bs_size, bs_toList, bs_extract, bs_get, List.cons_append, List.nil_append, List.append_nil, AV.scalar, reduceIte, Int.le_refl, *]; (first | done | exact rfl)) | rfl)) ?_)
          | (refine rRet (by (first | (simp only [go_sem, aslice, azeros, bs_append, bs_size, bs_toList, bs_extract, bs_get, List.cons_append, List.nil_append, List.append_nil, AV.scalar, reduceIte, Int.le_refl, *]; (first | done | exact rfl)) | rfl)) ?_) | (refine rNorm (by (first | (simp only [go_sem, aslice, azeros, bs_append, bs_size, bs_toList, bs_extract, bs_get, List.cons_append, List.nil_append, List.append_nil, AV.scalar, reduceIte, Int.le_refl, *]; (first | done | exact rfl)) | rfl)) ?_)
          | (refine wSplit _ rfl (by (first | (simp only [go_sem, aslice, azeros, bs_append, bs_size, bs_toList, bs_extract, bs_get, List.cons_append, List.nil_append, List.append_nil, AV.scalar, reduceIte, Int.le_refl, *]; (first | done | exact rfl)) | rfl)) ?_ ?_ <;> intro hb <;> (try simp only [beq_false, beq_true, Bool.not_true, Bool.not_false, Bool.not_eq_true', Bool.not_eq_false', decide_eq_false_iff_not, decide_eq_true_eq, bne_iff_ne, beq_iff_eq, Bool.true_eq, Bool.false_eq, Bool.not_not, Bool.and_eq_true, Bool.or_eq_true, Bool.bne_true, Bool.bne_false, bne_eq_false_iff_eq, beq_eq_false_iff_ne, ne_eq] at hb))
          | (refine W_cond _ (by (first | (simp only [go_sem, aslice, azeros, bs_append, bs_size, bs_toList, bs_extract, bs_get, List.cons_append, List.nil_append, List.append_nil, AV.scalar, reduceIte, Int.le_refl, *]; (first | done | exact rfl)) | rfl)) ?_ ?_ <;> intro hb <;> (try simp only [beq_false, beq_true, Bool.not_true, Bool.not_false, Bool.not_eq_true', Bool.not_eq_false', decide_eq_false_iff_not, decide_eq_true_eq, bne_iff_ne, beq_iff_eq, Bool.true_eq, Bool.false_eq, Bool.not_not, Bool.and_eq_true, Bool.or_eq_true, Bool.bne_true, Bool.bne_false, bne_eq_false_iff_eq, beq_eq_false_iff_ne, ne_eq] at hb)))
        all_goals exact ⟨0, by simp, D, R', e', hp2, hw2, .inr ⟨he', rfl, b :: R1, by simp, hDR⟩, by simp only [keep, List.contains_cons, List.contains_nil, Nat.reduceBEq, Bool.or_true, Bool.true_or, Bool.or_false, Bool.false_or, if_true, if_false, Bool.false_eq_true, beq_self_eq_true, Nat.zero_add, Nat.reduceAdd, eq_self]⟩
  · have d3 : (e == 0) = false := by rcases he with rfl | rfl <;> rfl
    have he0 : ¬ e = 0 := by rcases he with rfl | rfl <;> decide
    have d4 : (D.length : Int) < (s0.length : Int) := by
      have := congrArg List.length hDR
      rw [List.length_append] at this
      have h0 : R0.length ≠ 0 := fun h => hR0 (List.length_eq_zero_iff.1 h)
      omega
    have d5 : List.take D.length s0 = D := by rw [← hDR, List.take_left]
    have d6 : (D.length : Int) ≤ (s0.length : Int) := by omega
    have d7 : D.length ≤ s0.length := by omega
    have kU : ∀ h, h p = some ⟨true, [.str (bs R), .int .i64 e]⟩ → Sp T 19 [.ptr p 0] h (fun r h' => r = .int .u64 0 ∧ h' p = some ⟨true, [.str (bs R), .int .i64 e]⟩) := fun h hp => by
      have := sp19 N0' p R e h (rd_no hp)
      have e1 : tU R e = (R, e, 0) := by unfold tU; rw [if_neg he0]
      rw [e1] at this
      exact this.mono fun r h' hq => ⟨hq.1, hq.2.2.2⟩
    have eN : tN R e n = (R, e, 0) := by
      have e1 : tU R e = (R, e, 0) := by unfold tU; rw [if_neg he0]
      unfold tN; rw [e1]; simp only [if_neg (by omega : ¬ n.toNat < 0)]
    have kN : ∀ h, h p = some ⟨true, [.str (bs R), .int .i64 e]⟩ → Sp T 21 [.ptr p 0, .int .i64 n] h (fun r h' => r = .int .i64 0 ∧ h' p = some ⟨true, [.str (bs R), .int .i64 e]⟩) := fun h hp => by
      have := sp21 N0' p R e n h (rd_no hp) hn
      rw [eN] at this
      exact this.mono fun r h' hq => ⟨hq.1, hq.2.2.2⟩
    have kB : ∀ h, h p = some ⟨true, [.str (bs R), .int .i64 e]⟩ → Sp T 23 [.ptr p 0] h (fun r h' => r = .bool false ∧ h' p = some ⟨true, [.str (bs R), .int .i64 e]⟩) := fun h hp => by
      have := sp23 N0' p R e h (rd_no hp)
      have e1 : tB R e = (R, e, false) := by unfold tB; rw [if_neg he0]
      rw [e1] at this
      exact this.mono fun r h' hq => ⟨hq.1, hq.2.2.2⟩
    have kS : ∀ h, h p = some ⟨true, [.str (bs R), .int .i64 e]⟩ → Sp T 25 [.ptr p 0, .int .i64 n] h (fun r h' => r = .str (bs []) ∧ h' p = some ⟨true, [.str (bs R), .int .i64 e]⟩) := fun h hp => by
      have := sp25 N0' p R e n h (rd_no hp) hn
      have e1 : tS R e n = (R, e, []) := by unfold tS; rw [eN]; exact tk_err he0
      rw [e1] at this
      exact this.mono fun r h' hq => ⟨hq.1, hq.2.2.2⟩
    have kD : ∀ h, h p = some ⟨true, [.str (bs R), .int .i64 e]⟩ → Sp T 29 [.ptr p 0] h (fun r h' => r = .int .i64 e ∧ h' p = some ⟨true, [.str (bs R), .int .i64 e]⟩) := fun h hp => by
      have := sp29 N0' p R e h (rd_no hp)
      have e1 : dn R e = e := by unfold dn fl; split <;> simp [he0]
      rw [e1] at this
      exact this.mono fun r h' hq => ⟨hq.1, hq.2.2.2⟩
    have kF : ∀ h, h p = some ⟨true, [.str (bs R), .int .i64 e]⟩ → Sp T 32 [.ptr p 0, .int .i64 7] h (fun r h' => h' p = some ⟨true, [.str (bs R), .int .i64 e]⟩) := fun h hp => by
      have := sp32 N0' p R e 7 h (rd_no hp)
      have e1 : fl e 7 = e := if_neg he0
      rw [e1] at this
      exact this.mono fun r h' hq => hq.2.2
    have nb : (([] : List UInt8) == []) = true := rfl
    have dR : ¬ (0 : Int) < (R.length : Int) ∨ (0 : Int) < (R.length : Int) := by omega
    clear eN hDR he0
    rcases he with rfl | rfl <;> rcases dR with dR | dR
    all_goals
      repeat' (first
        | (refine wNil ?_)
        | (refine wPure rfl (by (first | (simp only [go_sem, aslice, azeros, bs_append, bs_size, bs_toList, bs_extract, bs_get, List.cons_append, List.nil_append, List.append_nil, AV.scalar, reduceIte, Int.le_refl, *]; (first | done | exact rfl)) | rfl)) rfl (by (first | (simp only [go_sem, aslice, azeros, bs_append, bs_size, bs_toList, bs_extract, bs_get, List.cons_append, List.nil_append, List.append_nil, AV.scalar, reduceIte, Int.le_refl, *]; (first | done | exact rfl)) | rfl)) ?_; dsimp only [putT, ev, Int.toNat_zero, Nat.sub_zero, Int.toNat_natCast,  gd_zero, gd_succ, Nat.zero_add, Nat.add_zero, Nat.reduceAdd, Nat.reduceMul, List.set_cons_zero, List.set_cons_succ, keep, List.contains_cons, List.contains_nil])
        | (refine wMk rfl (by (first | (simp only [go_sem, aslice, azeros, bs_append, bs_size, bs_toList, bs_extract, bs_get, List.cons_append, List.nil_append, List.append_nil, AV.scalar, reduceIte, Int.le_refl, *]; (first | done | exact rfl)) | rfl)) rfl ?_; intro id hid; (try simp only [set_none_iff] at hid); refine ⟨_, (by (first | (simp only [go_sem, aslice, azeros, bs_append, bs_size, bs_toList, bs_extract, bs_get, List.cons_append, List.nil_append, List.append_nil, AV.scalar, reduceIte, Int.le_refl, *]; (first | done | exact rfl)) | rfl)), ?_⟩; dsimp only [putT, ev, Int.toNat_zero, Nat.sub_zero, Int.toNat_natCast,  gd_zero, gd_succ, Nat.zero_add, Nat.add_zero, Nat.reduceAdd, Nat.reduceMul, List.set_cons_zero, List.set_cons_succ, keep, List.contains_cons, List.contains_nil])
        | (refine wChk rfl (by (first | (simp only [go_sem, aslice, azeros, bs_append, bs_size, bs_toList, bs_extract, bs_get, List.cons_append, List.nil_append, List.append_nil, AV.scalar, reduceIte, Int.le_refl, *]; (first | done | exact rfl)) | rfl)) rfl (by (first | (simp only [go_sem, aslice, azeros, bs_append, bs_size, bs_toList, bs_extract, bs_get, List.cons_append, List.nil_append, List.append_nil, AV.scalar, reduceIte, Int.le_refl, *]; (first | done | exact rfl)) | rfl)) rfl ?_) | (refine wChkF rfl (by (first | (simp only [go_sem, aslice, azeros, bs_append, bs_size, bs_toList, bs_extract, bs_get, List.cons_append, List.nil_append, List.append_nil, AV.scalar, reduceIte, Int.le_refl, *]; (first | done | exact rfl)) | rfl)) rfl ?_)
        | (refine wSkip rfl (by (first | (simp only [go_sem, aslice, azeros, bs_append, bs_size, bs_toList, bs_extract, bs_get, List.cons_append, List.nil_append, List.append_nil, AV.scalar, reduceIte, Int.le_refl, *]; (first | done | exact rfl)) | rfl)) ?_; dsimp only [putT, ev, Int.toNat_zero, Nat.sub_zero, Int.toNat_natCast,  gd_zero, gd_succ, Nat.zero_add, Nat.add_zero, Nat.reduceAdd, Nat.reduceMul, List.set_cons_zero, List.set_cons_succ, keep, List.contains_cons, List.contains_nil])
        | (refine wCall rfl (by (first | (simp only [awanted, gd_zero, gd_succ, beq_self_eq_true, beq_true, beq_false, Bool.not_true, Bool.not_false, *]; done) | rfl)) rfl (Sp.mono (sp27 N0' p R _ _ (rd_no hp)) ?_); rintro r h' ⟨rfl, hx⟩; cases hx; dsimp only [putT, ev, Int.toNat_zero, Nat.sub_zero, Int.toNat_natCast,  gd_zero, gd_succ, Nat.zero_add, Nat.add_zero, Nat.reduceAdd, Nat.reduceMul, List.set_cons_zero, List.set_cons_succ, keep, List.contains_cons, List.contains_nil])
        | (refine wCall rfl (by (first | (simp only [awanted, gd_zero, gd_succ, beq_self_eq_true, beq_true, beq_false, Bool.not_true, Bool.not_false, *]; done) | rfl)) rfl (Sp.mono (sp26 N0' p R _ _ (rd_no (by assumption))) ?_); rintro r h' ⟨rfl, hx⟩; cases hx; dsimp only [putT, ev, Int.toNat_zero, Nat.sub_zero, Int.toNat_natCast,  gd_zero, gd_succ, Nat.zero_add, Nat.add_zero, Nat.reduceAdd, Nat.reduceMul, List.set_cons_zero, List.set_cons_succ, keep, List.contains_cons, List.contains_nil])
        | (refine wCall rfl (by (first | (simp only [awanted, gd_zero, gd_succ, beq_self_eq_true, beq_true, beq_false, Bool.not_true, Bool.not_false, *]; done) | rfl)) rfl (Sp.mono (sp31 N0' w D _ hw) ?_); rintro r h' ⟨rfl, hx⟩; cases hx; dsimp only [putT, ev, Int.toNat_zero, Nat.sub_zero, Int.toNat_natCast,  gd_zero, gd_succ, Nat.zero_add, Nat.add_zero, Nat.reduceAdd, Nat.reduceMul, List.set_cons_zero, List.set_cons_succ, keep, List.contains_cons, List.contains_nil])
        | (refine wCall rfl (by (first | (simp only [awanted, gd_zero, gd_succ, beq_self_eq_true, beq_true, beq_false, Bool.not_true, Bool.not_false, *]; done) | rfl)) rfl (Sp.mono (kF _ (by assumption)) ?_); rintro r h5 hp5; dsimp only [putT, ev, Int.toNat_zero, Nat.sub_zero, Int.toNat_natCast,  gd_zero, gd_succ, Nat.zero_add, Nat.add_zero, Nat.reduceAdd, Nat.reduceMul, List.set_cons_zero, List.set_cons_succ, keep, List.contains_cons, List.contains_nil])
        | (refine wCall rfl (by (first | (simp only [awanted, gd_zero, gd_succ, beq_self_eq_true, beq_true, beq_false, Bool.not_true, Bool.not_false, *]; done) | rfl)) rfl (Sp.mono (kU _ (by assumption)) ?_); rintro r h6 ⟨rfl, hp6⟩; dsimp only [putT, ev, Int.toNat_zero, Nat.sub_zero, Int.toNat_natCast,  gd_zero, gd_succ, Nat.zero_add, Nat.add_zero, Nat.reduceAdd, Nat.reduceMul, List.set_cons_zero, List.set_cons_succ, keep, List.contains_cons, List.contains_nil])
        | (refine wCall rfl (by (first | (simp only [awanted, gd_zero, gd_succ, beq_self_eq_true, beq_true, beq_false, Bool.not_true, Bool.not_false, *]; done) | rfl)) rfl (Sp.mono (kN _ (by assumption)) ?_); rintro r h7 ⟨rfl, hp7⟩; dsimp only [putT, ev, Int.toNat_zero, Nat.sub_zero, Int.toNat_natCast,  gd_zero, gd_succ, Nat.zero_add, Nat.add_zero, Nat.reduceAdd, Nat.reduceMul, List.set_cons_zero, List.set_cons_succ, keep, List.contains_cons, List.contains_nil])
        | (refine wCall rfl (by (first | (simp only [awanted, gd_zero, gd_succ, beq_self_eq_true, beq_true, beq_false, Bool.not_true, Bool.not_false, *]; done) | rfl)) rfl (Sp.mono (kB _ (by assumption)) ?_); rintro r h8 ⟨rfl, hp8⟩; dsimp only [putT, ev, Int.toNat_zero, Nat.sub_zero, Int.toNat_natCast,  gd_zero, gd_succ, Nat.zero_add, Nat.add_zero, Nat.reduceAdd, Nat.reduceMul, List.set_cons_zero, List.set_cons_succ, keep, List.contains_cons, List.contains_nil])
        | (refine wCall rfl (by (first | (simp only [awanted, gd_zero, gd_succ, beq_self_eq_true, beq_true, beq_false, Bool.not_true, Bool.not_false, *]; done) | rfl)) rfl (Sp.mono (kS _ (by assumption)) ?_); rintro r h9 ⟨rfl, hp9⟩; dsimp only [putT, ev, Int.toNat_zero, Nat.sub_zero, Int.toNat_natCast,  gd_zero, gd_succ, Nat.zero_add, Nat.add_zero, Nat.reduceAdd, Nat.reduceMul, List.set_cons_zero, List.set_cons_succ, keep, List.contains_cons, List.contains_nil])
        | (refine wCall rfl (by (first | (simp only [awanted, gd_zero, gd_succ, beq_self_eq_true, beq_true, beq_false, Bool.not_true, Bool.not_false, *]; done) | rfl)) rfl (Sp.mono (kD _ (by assumption)) ?_); rintro r h10 ⟨rfl, hp10⟩; dsimp only [putT, ev, Int.toNat_zero, Nat.sub_zero, Int.toNat_natCast,  gd_zero, gd_succ, Nat.zero_add, Nat.add_zero, Nat.reduceAdd, Nat.reduceMul, List.set_cons_zero, List.set_cons_succ, keep, List.contains_cons, List.contains_nil])
        | (refine cSeq ?_) | (refine cNorm ?_) | (refine cRet ?_) | (refine cExit ?_) | (refine W_reg rfl ?_) | (refine W_block ?_) | (refine W_ret ?_) | (refine W_skip ?_) | (refine W_exit ?_) | (refine bNorm ?_) | (refine bRet ?_) | (refine bExit ?_) | (refine bExitN rfl ?_)
        | (refine cMask' (by simp only [keep, List.contains_cons, List.contains_nil, Nat.reduceBEq, Bool.or_true, Bool.true_or, Bool.or_false, Bool.false_or, if_true, if_false, Bool.false_eq_true, beq_self_eq_true, Nat.zero_add, Nat.reduceAdd, eq_self]; exact rfl) ?_)
        | (refine cT (by (first | (simp only [go_sem, aslice, azeros, bs_append, bs_size, bs_toList, bs_extract, bs_get, List.cons_append, List.nil_append, List.append_nil, AV.scalar, reduceIte, Int.le_refl, *]; (first | done | exact rfl)) | rfl)) ?_) | (refine cF (by (first | (simp only [go_sem, aslice, azeros, bs_append, bs_size, bs_toList, bs_extract, bs_get, List.cons_append, List.nil_append, List.append_nil, AV.scalar, reduceIte, Int.le_refl, *]; (first | done | exact rfl)) | rfl)) ?_)
        | (refine rRet (by (first | (simp only [go_sem, aslice, azeros, bs_append, bs_size, bs_toList, bs_extract, bs_get, List.cons_append, List.nil_append, List.append_nil, AV.scalar, reduceIte, Int.le_refl, *]; (first | done | exact rfl)) | rfl)) ?_) | (refine rNorm (by (first | (simp only [go_sem, aslice, azeros, bs_append, bs_size, bs_toList, bs_extract, bs_get, List.cons_append, List.nil_append, List.append_nil, AV.scalar, reduceIte, Int.le_refl, *]; (first | done | exact rfl)) | rfl)) ?_)
        | (refine wSplit _ rfl (by (first | (simp only [go_sem, aslice, azeros, bs_append, bs_size, bs_toList, bs_extract, bs_get, List.cons_append, List.nil_append, List.append_nil, AV.scalar, reduceIte, Int.le_refl, *]; (first | done | exact rfl)) | rfl)) ?_ ?_ <;> intro hb <;> (try simp only [beq_false, beq_true, Bool.not_true, Bool.not_false, Bool.not_eq_true', Bool.not_eq_false', decide_eq_false_iff_not, decide_eq_true_eq, bne_iff_ne, beq_iff_eq, Bool.true_eq, Bool.false_eq, Bool.not_not, Bool.and_eq_true, Bool.or_eq_true, Bool.bne_true, Bool.bne_false, bne_eq_false_iff_eq, beq_eq_false_iff_ne, ne_eq] at hb))
        | (refine W_cond _ (by (first | (simp only [go_sem, aslice, azeros, bs_append, bs_size, bs_toList, bs_extract, bs_get, List.cons_append, List.nil_append, List.append_nil, AV.scalar, reduceIte, Int.le_refl, *]; (first | done | exact rfl)) | rfl)) ?_ ?_ <;> intro hb <;> (try simp only [beq_false, beq_true, Bool.not_true, Bool.not_false, Bool.not_eq_true', Bool.not_eq_false', decide_eq_false_iff_not, decide_eq_true_eq, bne_iff_ne, beq_iff_eq, Bool.true_eq, Bool.false_eq, Bool.not_not, Bool.and_eq_true, Bool.or_eq_true, Bool.bne_true, Bool.bne_false, bne_eq_false_iff_eq, beq_eq_false_iff_ne, ne_eq] at hb)))
    all_goals rfl
end Go.Proofs.YtgekngfnhhdamaaI
