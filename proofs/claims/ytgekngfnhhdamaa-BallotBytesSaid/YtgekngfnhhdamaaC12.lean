import Derived.Test.YtgekngfnhhdamaaC11
set_option linter.unusedVariables false
set_option linter.unusedSimpArgs false
set_option maxRecDepth 100000
set_option maxHeartbeats 4000000
namespace Go.Proofs.YtgekngfnhhdamaaI
open Go Go.Proofs.YtgekngfnhhdamaaM
attribute [local go_sem] aop ev awanted abin aun aint aeqn aeqc aeqs apart abounds abnd amaxi amaxiGo AV.cells AV.scalar gd_zero gd_succ List.all_cons List.all_nil Bool.and_self Bool.and_true Bool.true_and List.length_cons List.length_nil Option.map_some Option.some.injEq cell_same cell_ne cell_ne' cellsAt_same cellsAt_ne cellsAt_ne' put_same put_of set_same set_ne set_ne' List.getElem?_cons_zero List.getElem?_cons_succ if_true if_false and_self and_true true_and ne_eq not_true_eq_false not_false_eq_true decide_true decide_false Bool.false_eq_true Bool.true_eq_false beq_self_eq_true bne_self_eq_false beq_true beq_false Bool.not_true Bool.not_false List.map_cons List.map_nil putL List.set_cons_zero List.set_cons_succ afill Nat.zero_le Nat.le_refl Nat.zero_add Nat.add_zero List.drop_zero List.drop_succ_cons List.take_zero List.take_succ_cons Bool.not_eq_true Bool.not_eq_false decide_eq_true_eq decide_eq_false_iff_not Int.toNat_zero Nat.sub_zero Int.toNat_natCast Bool.bne_true Bool.bne_false AH.cell AH.cellsAt AH.put Nat.mul_one Nat.one_mul Int.natCast_nonneg List.length_set

theorem be_add (a : Nat) : ∀ (n v : Nat), be (a * 256 ^ n + v) n = be v n
  | 0, v => rfl
  | n + 1, v => by
    have e1 : a * 256 ^ (n + 1) + v = (a * 256) * 256 ^ n + v := by rw [Nat.pow_succ, Nat.mul_assoc, Nat.mul_comm 256]
    rw [e1, be, be, be_add' a n v]
    congr 1
    have hpos : 0 < 256 ^ n := Nat.pow_pos (by decide)
    have e2 : ((a * 256) * 256 ^ n + v) / 256 ^ n = a * 256 + v / 256 ^ n := by rw [Nat.add_comm, Nat.add_mul_div_right _ _ hpos, Nat.add_comm]
    rw [e2]
    apply UInt8.toNat_inj.1
    simp
where be_add' (a n v : Nat) : be ((a * 256) * 256 ^ n + v) n = be v n := be_add (a * 256) n v
theorem be_val : ∀ t : List UInt8, be (val t) t.length = t
  | [] => rfl
  | b :: t => by
    have h1 := val_lt t.length t rfl
    have hpos : 0 < 256 ^ t.length := Nat.pow_pos (by decide)
    rw [val_cons, List.length_cons, be, be_add, be_val t]
    have e2 : (b.toNat * 256 ^ t.length + val t) / 256 ^ t.length = b.toNat := by rw [Nat.add_comm, Nat.add_mul_div_right _ _ hpos, Nat.div_eq_of_lt h1, Nat.zero_add]
    rw [e2]; simp
theorem hd_two {v b n : Nat} (h : (hd v).1 = b) (hb : (b = 252 ∧ n = 2) ∨ (b = 253 ∧ n = 4) ∨ (b = 254 ∧ n = 8)) : (hd v).2 = n := by
  unfold hd at h ⊢
  by_cases c : v < 252
  · rw [if_pos c] at h; simp only at h; omega
  · rw [if_neg c] at h ⊢
    by_cases c2 : v < 65536
    · rw [if_pos c2] at h ⊢; simp only at h ⊢; omega
    · rw [if_neg c2] at h ⊢
      by_cases c3 : v < 4294967296
      · rw [if_pos c3] at h ⊢; simp only at h ⊢; omega
      · rw [if_neg c3] at h ⊢; simp only at h ⊢; omega
theorem ut_cases {b : UInt8} {s : List UInt8} {n : Nat} (hb : (b.toNat = 252 ∧ n = 2) ∨ (b.toNat = 253 ∧ n = 4) ∨ (b.toNat = 254 ∧ n = 8)) :
    ∃ R v, (ut b.toNat s 0 n = (R, 0, v) ∧ b :: s = encU v ++ R ∧ R.length ≤ s.length ∧ v ≤ 18446744073709551615) ∨ (ut b.toNat s 0 n = (R, 3, 0)) ∨ (ut b.toNat s 0 n = (R, 4, 0)) := by
  have h0 : (hd 0).1 = 0 := rfl
  by_cases c : s.length < n
  · refine ⟨s, 0, .inr (.inl ?_)⟩
    unfold ut
    rw [tk_end c]
    have e : val [] = 0 := rfl
    simp only [e, h0, if_neg (by omega : ¬ 0 = b.toNat)]
    rfl
  · by_cases c1 : (hd (val (s.take n))).1 = b.toNat
    · refine ⟨s.drop n, val (s.take n), .inl ⟨?_, ?_, by simp, ?_⟩⟩
      · unfold ut
        rw [tk_ok c]
        simp only [if_pos c1, if_true]
      · have e2 := hd_two c1 hb
        have e3 : (s.take n).length = n := by rw [List.length_take]; omega
        have e4 := be_val (s.take n)
        rw [e3] at e4
        unfold encU
        rw [c1, e2, e4, List.cons_append, List.take_append_drop]
        simp
      · have e3 : (s.take n).length = n := by rw [List.length_take]; omega
        have h1 := val_lt n (s.take n) e3
        have h2 : 256 ^ n ≤ 256 ^ 8 := Nat.pow_le_pow_right (by decide) (by omega)
        have h3 : (256 : Nat) ^ 8 = 18446744073709551616 := by decide
        omega
    · refine ⟨s.drop n, 0, .inr (.inr ?_)⟩
      unfold ut
      rw [tk_ok c]
      simp only [if_neg c1]
      rfl
theorem tU_cases (b : UInt8) (s : List UInt8) :
    ∃ R v, (tU (b :: s) 0 = (R, 0, v) ∧ b :: s = encU v ++ R ∧ R.length ≤ s.length ∧ v ≤ 18446744073709551615) ∨ (tU (b :: s) 0 = (R, 3, 0)) ∨ (tU (b :: s) 0 = (R, 4, 0)) := by
  have hbl := b.toNat_lt
  unfold tU
  rw [if_pos rfl]
  simp only
  by_cases c : b.toNat < 252
  · rw [if_pos c]
    refine ⟨s, b.toNat, .inl ⟨rfl, ?_, Nat.le_refl _, by omega⟩⟩
    unfold encU hd
    rw [if_pos c]; simp [be]
  · rw [if_neg c]
    by_cases c5 : b.toNat = 255
    · refine ⟨s, 0, .inr (.inr ?_)⟩
      rw [if_pos c5]
      unfold ut
      rw [tk_err (by decide)]
      have e : val [] = 0 := rfl
      have h0 : (hd 0).1 = 0 := rfl
      simp only [e, h0, if_neg (by omega : ¬ 0 = b.toNat)]
      rfl
    · rw [if_neg c5]
      refine ut_cases ?_
      by_cases c2 : b.toNat = 252
      · rw [if_pos c2]; exact .inl ⟨c2, rfl⟩
      · rw [if_neg c2]
        by_cases c3 : b.toNat = 253
        · rw [if_pos c3]; exact .inr (.inl ⟨c3, rfl⟩)
        · rw [if_neg c3]; exact .inr (.inr ⟨by omega, rfl⟩)
def N0' : AH := fun _ => none
theorem rd_of {h : AH} {p : List Nat} {R : List UInt8} {e : Int} (hp : h p = some ⟨true, [.str (bs R), .int .i64 e]⟩) : Rd (h.set p none) p h R e := by
  refine ⟨fun x b hx => ?_, set_same, hp⟩
  by_cases c : x = p
  · rw [c, set_same] at hx; cases hx
  · rw [set_ne c] at hx; exact hx
theorem rd_no {h : AH} {p : List Nat} {R : List UInt8} {e : Int} (hp : h p = some ⟨true, [.str (bs R), .int .i64 e]⟩) : Rd N0' p h R e := ⟨fun x b hx => by simp [N0'] at hx, rfl, hp⟩
theorem wr_list_ne {h : AH} {p : List Nat} {l : List UInt8} {s : ByteArray} {e : Int} {i : List Nat} (hp : h p = some ⟨true, [.str s, .int .i64 e]⟩) (hi : h i = some ⟨true, bc l⟩) : p ≠ i := by
  rintro rfl
  rw [hp] at hi
  cases l with
  | nil => cases hi
  | cons b l => simp [bc] at hi
theorem wr_after {h h' : AH} {p w : List Nat} {D R R' : List UInt8} {e e' : Int} (hw : Wr N0' w h D) (hp : h p = some ⟨true, [.str (bs R), .int .i64 e]⟩) (hr : Rd (h.set p none) p h' R' e') : Wr N0' w h' D := by
  obtain ⟨hs, hw0, S, hwS, hS⟩ := hw
  have f : ∀ x b, x ≠ p → h x = some b → h' x = some b := fun x b hx hh => hr.1 x b (by rw [set_ne hx]; exact hh)
  have hwp : w ≠ p := by
    rintro rfl; rw [hwS] at hp; cases hp
  refine ⟨fun x b hx => by simp [N0'] at hx, rfl, S, f _ _ hwp hwS, ?_⟩
  rcases hS with h | ⟨i, i1, i2, i3, i4⟩
  · exact .inl h
  · exact .inr ⟨i, i1, i2, i3, f _ _ (wr_list_ne hp i4).symm i4⟩
theorem wr_two {h : AH} {p w : List Nat} {D R : List UInt8} {e : Int} (hw : Wr N0' w h D) (hp : h p = some ⟨true, [.str (bs R), .int .i64 e]⟩) : Wr (N0'.set p (some ⟨true, [.str (bs R), .int .i64 e]⟩)) w h D := by
  obtain ⟨hs, hw0, S, hwS, hS⟩ := hw
  have hwp : w ≠ p := by
    rintro rfl; rw [hwS] at hp; cases hp
  refine ⟨fun x b hx => ?_, by rw [set_ne hwp]; rfl, S, hwS, ?_⟩
  · by_cases c : x = p
    · rw [c, set_same] at hx; rw [c, hp]; exact hx
    · rw [set_ne c] at hx; simp [N0'] at hx
  · rcases hS with h | ⟨i, i1, i2, i3, i4⟩
    · exact .inl h
    · exact .inr ⟨i, by rw [set_ne (wr_list_ne hp i4).symm]; rfl, i2, i3, i4⟩
theorem wr_no {h0 h : AH} {w : List Nat} {D : List UInt8} (hw : Wr h0 w h D) : Wr N0' w h D := hw.weak fun x b hx => by simp [N0'] at hx
end Go.Proofs.YtgekngfnhhdamaaI
