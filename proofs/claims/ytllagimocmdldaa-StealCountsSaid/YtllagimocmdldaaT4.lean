import Derived.Test.YtllagimocmdldaaT3
set_option linter.unusedVariables false
set_option linter.unusedSimpArgs false
set_option maxRecDepth 100000
set_option maxHeartbeats 4000000
namespace Go.Proofs.YtllagimocmdldaaI
open Go Go.Proofs.YtllagimocmdldaaM
attribute [local go_sem] aop ev awanted abin aun aint aeqn aeqc aeqs apart abounds abnd amaxi amaxiGo AV.cells AV.scalar gd_zero gd_succ List.all_cons List.all_nil Bool.and_self Bool.and_true Bool.true_and List.length_cons List.length_nil Option.map_some Option.some.injEq cell_same cell_ne cell_ne' cellsAt_same cellsAt_ne cellsAt_ne' put_same put_of set_same set_ne set_ne' List.getElem?_cons_zero List.getElem?_cons_succ if_true if_false and_self and_true true_and ne_eq not_true_eq_false not_false_eq_true decide_true decide_false Bool.false_eq_true Bool.true_eq_false beq_self_eq_true bne_self_eq_false beq_true beq_false Bool.not_true Bool.not_false List.map_cons List.map_nil putL List.set_cons_zero List.set_cons_succ afill Nat.zero_le Nat.le_refl Nat.zero_add Nat.add_zero List.drop_zero List.drop_succ_cons List.take_zero List.take_succ_cons Bool.not_eq_true Bool.not_eq_false decide_eq_true_eq decide_eq_false_iff_not Int.toNat_zero Nat.sub_zero Int.toNat_natCast Bool.bne_true Bool.bne_false AH.cell AH.cellsAt AH.put Nat.mul_one Nat.one_mul Int.natCast_nonneg List.length_set bne_self_eq_false AV.scalar

/-- What holds between the rounds, but for the board. -/
structure Inv (h0 h : AH) (p q pol : List Nat) (L S0 : Int) (n : Nat) (S : AV) (D E : List Tc) (k : Nat) : Prop where
  len : D.length ≤ k
  brd : Brd h p q L S0 n (mt E)
  pl : h pol = some ⟨true, [.int .i64 L, .int .i64 S0]⟩
  ok : ∀ y ∈ E, y.2.1 < n ∧ 0 ≤ y.2.2 ∧ y.2.2 ≤ 1073741824
  past : Past h p q pol S D
  up : ∀ i l, h0 i = some ⟨false, l⟩ → h i = some ⟨false, l⟩
variable {h0 h : AH} {p q pol : List Nat} {L S0 : Int} {n : Nat} {S : AV} {D E : List Tc} {k : Nat}
theorem brdq {t : Nat → Nat → Int} (hB : Brd h p q L S0 n t) : ∃ cs, h q = some ⟨true, cs⟩ := by
  obtain ⟨_, cs, hq, _⟩ := hB
  exact ⟨cs, hq⟩
theorem Inv.set (hI : Inv h0 h p q pol L S0 n S D E k) {x : List Nat} {b : Option Blk} (hx : h x = none) : Inv h0 (h.set x b) p q pol L S0 n S D E k := by
  obtain ⟨cs, hq⟩ := brdq hI.brd
  refine ⟨hI.len, Brd.wr hI.brd (nei hI.brd.1 hx) (nei hq hx), by rw [set_ne (nei hI.pl hx)]; exact hI.pl, hI.ok, ?_, fun i l e => by rw [set_ne (nei (hI.up i l e) hx)]; exact hI.up i l e⟩
  rcases hI.past with h | ⟨id, a, b, c, d, e⟩
  · exact .inl h
  · exact .inr ⟨id, a, b, c, d, by rw [set_ne (nei e hx)]; exact e⟩
theorem Inv.set3 (hI : Inv h0 h p q pol L S0 n S D E k) {x : List Nat} {a b c : Option Blk} (hx : h x = none) : Inv h0 (((h.set x a).set x b).set x c) p q pol L S0 n S D E k := by
  rw [set_set, set_set]; exact hI.set hx
/-- The board's meters are written. -/
theorem Inv.board (hI : Inv h0 h p q pol L S0 n S D E k) {b : Blk} {E' : List Tc} (hpq : pol ≠ q) (hB : Brd (h.set q (some b)) p q L S0 n (mt E')) (hE : ∀ y ∈ E', y.2.1 < n ∧ 0 ≤ y.2.2 ∧ y.2.2 ≤ 1073741824) : Inv h0 (h.set q (some b)) p q pol L S0 n S D E' k := by
  obtain ⟨cs, hq⟩ := brdq hI.brd
  refine ⟨hI.len, hB, by rw [set_ne hpq]; exact hI.pl, hE, ?_, fun i l e => ?_⟩
  · rcases hI.past with h | ⟨id, a, b, c, d, e⟩
    · exact .inl h
    · exact .inr ⟨id, a, b, c, d, by rw [set_ne b]; exact e⟩
  · have e1 := hI.up i l e
    rw [set_ne (fun c => by rw [c, hq] at e1; cases e1)]; exact e1
theorem Inv.nil (hI : Inv h0 h p q pol L S0 n S D E k) : Inv h0 h p q pol L S0 n .nils [] E k := ⟨Nat.zero_le _, hI.brd, hI.pl, hI.ok, .inl ⟨rfl, rfl⟩, hI.up⟩
/-- One more touch is put to the past, which was nil. -/
theorem Inv.appN {x : Tc} (hI : Inv h0 h p q pol L S0 n .nils [] [x] k) {i1 i2 : List Nat} {b : Option Blk} (h1 : h i1 = none) (h2 : h i2 = none) (h21 : i2 ≠ i1) (hk : 1 ≤ k + 1) : Inv h0 ((h.set i1 b).set i2 (some ⟨true, eT x⟩)) p q pol L S0 n (.slc i2 0 1 3) [x] [x] (k + 1) := by
  have hJ := (hI.set (b := b) h1).set (b := some ⟨true, eT x⟩) (show (h.set i1 b) i2 = none by rw [set_ne h21]; exact h2)
  refine ⟨hk, hJ.brd, hJ.pl, hJ.ok, .inr ⟨i2, (nei hI.brd.1 h2).symm, ?_, (nei hI.pl h2).symm, rfl, by rw [set_same]; simp⟩, hJ.up⟩
  obtain ⟨cs, hq⟩ := brdq hI.brd
  exact (nei hq h2).symm
/-- One more touch is put to the past, which was a list. -/
theorem Inv.appS {x : Tc} {id : List Nat} (hI : Inv h0 h p q pol L S0 n (.slc id 0 D.length 3) D (x :: D) k) (hip : id ≠ p) (hiq : id ≠ q) (hil : id ≠ pol) (hid : h id = some ⟨true, D.reverse.flatMap eT⟩) {i1 i2 : List Nat} {b : Option Blk} {cs : List AV} (h1 : h i1 = none) (h2 : h i2 = none) (h21 : i2 ≠ i1) (hcs : cs = D.reverse.flatMap eT ++ eT x) :
    Inv h0 (((h.set i1 b).set id none).set i2 (some ⟨true, cs⟩)) p q pol L S0 n (.slc i2 0 (D.length + 1) 3) (x :: D) (x :: D) (k + 1) := by
  obtain ⟨cq, hq⟩ := brdq hI.brd
  have n1 := nei hI.brd.1 h1
  have n2 := nei hI.brd.1 h2
  have m1 := nei hq h1
  have m2 := nei hq h2
  have l1 := nei hI.pl h1
  have l2 := nei hI.pl h2
  refine ⟨by have := hI.len; simp only [List.length_cons]; omega, Brd.wr (Brd.wr (Brd.wr hI.brd n1 m1) hip.symm hiq.symm) n2 m2, by rw [set_ne l2, set_ne hil.symm, set_ne l1]; exact hI.pl, hI.ok, .inr ⟨i2, n2.symm, m2.symm, l2.symm, by simp, by rw [set_same, hcs]; simp⟩, fun i l e => ?_⟩
  have e1 := hI.up i l e
  rw [set_ne (nei e1 h2), set_ne (fun c => by rw [c, hid] at e1; cases e1), set_ne (nei e1 h1)]; exact e1
theorem tail_inv (x : List Nat) (kk : Nat) (LV : AV) (now kind reg : Int) (hn4 : n ≤ 4) (hL : 1 ≤ L) (hS0 : 1 ≤ S0 ∧ S0 ≤ 1024) (hnow : 0 ≤ now ∧ now ≤ 1073741824) (hI : Inv h0 h p q pol L S0 n S D D k) (hk : k ≤ 150) (hx : h x = some ⟨true, [.int .i64 kind, .int .i64 reg, .int .i64 now]⟩) :
    W T b9t [.und, .int .i64 (n : Nat), LV, .und, .und, .und, .und, .ptr pol 0, .ptr p 0, S, .int .i64 (kk : Nat), .ptr x 0, .und, .und, .und, .und, .und, .und, .und, .und, .und, .und, .und, .und, .und, .und, .und, .und, .und, .und, .und, .und, .und, .und, .und, .und, .und, .und, .und, .und, .und, .und, .und, .und, .und, .und, .und, .und, .und, .und, .und, .und, .und, .und, .und, .und, .und, .und, .und, .und, .und, .und, .und, .und, .und, .und, .und, .und, .und, .und, .und, .und, .und, .und, .und, .und, .und, .und, .und, .und, .und, .und, .und, .und, .und, .und, .und, .und, .und, .und, .und, .und, .und, .und, .und, .und, .und, .und, .und, .und, .und, .und, .und, .und, .und, .und, .und, .und, .und, .und, .und, .und, .und, .und, .und, .und, .und, .und, .und, .und, .und, .und, .und, .und, .und, .und, .und, .und, .und, .und, .und, .und, .und, .und, .und, .und, .und, .und, .und, .und, .und, .und, .und, .und, .und, .und, .und, .und, .und, .und, .und, .und, .und, .und] h (Then (fun tm' h' => h' = h ∧ keep [1, 2, 7, 8, 9, 10] 0 tm' = [.und, .int .i64 (n : Nat), LV, .und, .und, .und, .und, .ptr pol 0, .ptr p 0, S, .int .i64 (kk : Nat), .und, .und, .und, .und, .und, .und, .und, .und, .und, .und, .und, .und, .und, .und, .und, .und, .und, .und, .und, .und, .und, .und, .und, .und, .und, .und, .und, .und, .und, .und, .und, .und, .und, .und, .und, .und, .und, .und, .und, .und, .und, .und, .und, .und, .und, .und, .und, .und, .und, .und, .und, .und, .und, .und, .und, .und, .und, .und, .und, .und, .und, .und, .und, .und, .und, .und, .und, .und, .und, .und, .und, .und, .und, .und, .und, .und, .und, .und, .und, .und, .und, .und, .und, .und, .und, .und, .und, .und, .und, .und, .und, .und, .und, .und, .und, .und, .und, .und, .und, .und, .und, .und, .und, .und, .und, .und, .und, .und, .und, .und, .und, .und, .und, .und, .und, .und, .und, .und, .und, .und, .und, .und, .und, .und, .und, .und, .und, .und, .und, .und, .und, .und, .und, .und, .und, .und, .und, .und, .und, .und, .und, .und, .und]) (fun e tm' h' => False)) :=
  tail_of p q pol x n kk LV S L S0 now kind reg D h hn4 hL hS0 hI.pl hx hnow hI.brd hI.ok (Nat.le_trans hI.len hk) hI.past
end Go.Proofs.YtllagimocmdldaaI
