import Derived.Test.YtllagimocmdldaaT2
set_option linter.unusedVariables false
set_option linter.unusedSimpArgs false
set_option maxRecDepth 100000
set_option maxHeartbeats 4000000
namespace Go.Proofs.YtllagimocmdldaaI
open Go Go.Proofs.YtllagimocmdldaaM
attribute [local go_sem] aop ev awanted abin aun aint aeqn aeqc aeqs apart abounds abnd amaxi amaxiGo AV.cells AV.scalar gd_zero gd_succ List.all_cons List.all_nil Bool.and_self Bool.and_true Bool.true_and List.length_cons List.length_nil Option.map_some Option.some.injEq cell_same cell_ne cell_ne' cellsAt_same cellsAt_ne cellsAt_ne' put_same put_of set_same set_ne set_ne' List.getElem?_cons_zero List.getElem?_cons_succ if_true if_false and_self and_true true_and ne_eq not_true_eq_false not_false_eq_true decide_true decide_false Bool.false_eq_true Bool.true_eq_false beq_self_eq_true bne_self_eq_false beq_true beq_false Bool.not_true Bool.not_false List.map_cons List.map_nil putL List.set_cons_zero List.set_cons_succ afill Nat.zero_le Nat.le_refl Nat.zero_add Nat.add_zero List.drop_zero List.drop_succ_cons List.take_zero List.take_succ_cons Bool.not_eq_true Bool.not_eq_false decide_eq_true_eq decide_eq_false_iff_not Int.toNat_zero Nat.sub_zero Int.toNat_natCast Bool.bne_true Bool.bne_false AH.cell AH.cellsAt AH.put Nat.mul_one Nat.one_mul Int.natCast_nonneg List.length_set bne_self_eq_false AV.scalar

theorem mt_bd : ∀ (D : List Tc), (∀ x ∈ D, 0 ≤ x.2.2 ∧ x.2.2 ≤ 1073741824) → ∀ r j, j < 65 → 0 ≤ mt D r j ∧ (j < 64 → mt D r j ≤ 1073741824) ∧ (j = 64 → mt D r j ≤ D.length)
  | [], _, r, j, hj => ⟨by simp [mt], fun _ => by simp [mt], fun _ => by simp [mt]⟩
  | x :: D, h, r, j, hj => by
    have hx := h x (by simp)
    have ih := mt_bd D (fun y hy => h y (by simp [hy]))
    have i1 := ih r j hj
    have i2 := ih x.2.1 j hj
    have i3 := ih x.2.1 64 (by omega)
    have l : ((x :: D).length : Int) = D.length + 1 := by simp
    unfold mt tch
    by_cases c : r = x.2.1
    · rw [if_pos c]
      by_cases c2 : j = 64
      · rw [if_pos c2]
        have := i3.2.2 rfl
        exact ⟨by omega, fun _ => by omega, fun _ => by omega⟩
      · rw [if_neg c2]
        by_cases c3 : j = ((mt D x.2.1 64).tmod 64).toNat
        · rw [if_pos c3]; exact ⟨by omega, fun _ => by omega, fun h => absurd h c2⟩
        · rw [if_neg c3]; exact ⟨i2.1, i2.2.1, fun h => absurd h c2⟩
    · rw [if_neg c]; exact ⟨i1.1, i1.2.1, fun h => by have := i1.2.2 h; omega⟩
theorem zs_nil {n : Nat} : ∀ {D : List Tc}, (∀ x ∈ D, x.2.1 < n) → ∀ r, n ≤ r → zs r D = []
  | [], _, r, hr => rfl
  | x :: D, h, r, hr => by
    have hx := h x (by simp)
    unfold zs
    rw [if_neg (by omega)]
    exact zs_nil (fun y hy => h y (by simp [hy])) r hr
def Past (h : AH) (p q pol : List Nat) (S : AV) (D : List Tc) : Prop := S = .nils ∧ D = [] ∨ ∃ id, id ≠ p ∧ id ≠ q ∧ id ≠ pol ∧ S = .slc id 0 D.length 3 ∧ h id = some ⟨true, D.reverse.flatMap eT⟩
theorem Brd.up {h h' : AH} {p q : List Nat} {l s : Int} {n : Nat} {t : Nat → Nat → Int} (hB : Brd h p q l s n t) (hu : Up h h') : Brd h' p q l s n t := by
  obtain ⟨hp, cs, hq, hl, hT⟩ := hB
  exact ⟨hu _ _ hp, cs, hu _ _ hq, hl, hT⟩
theorem Brd.wr {h : AH} {p q x : List Nat} {l s : Int} {n : Nat} {t : Nat → Nat → Int} {b : Option Blk} (hB : Brd h p q l s n t) (hp' : p ≠ x) (hq' : q ≠ x) : Brd (h.set x b) p q l s n t := by
  obtain ⟨hp, cs, hq, hl, hT⟩ := hB
  exact ⟨by rw [set_ne hp']; exact hp, cs, by rw [set_ne hq']; exact hq, hl, hT⟩
theorem tail_of (p q pol x : List Nat) (n kk : Nat) (LV S : AV) (L S0 now kind reg : Int) (D : List Tc) (h : AH) (hn4 : n ≤ 4) (hL : 1 ≤ L) (hS0 : 1 ≤ S0 ∧ S0 ≤ 1024)
    (hpol : h pol = some ⟨true, [.int .i64 L, .int .i64 S0]⟩) (hx : h x = some ⟨true, [.int .i64 kind, .int .i64 reg, .int .i64 now]⟩) (hnow : 0 ≤ now ∧ now ≤ 1073741824)
    (hB : Brd h p q L S0 n (mt D)) (hD : ∀ y ∈ D, y.2.1 < n ∧ 0 ≤ y.2.2 ∧ y.2.2 ≤ 1073741824) (hDl : D.length ≤ 150) (hP : Past h p q pol S D) :
    W T b9t [.und, .int .i64 (n : Nat), LV, .und, .und, .und, .und, .ptr pol 0, .ptr p 0, S, .int .i64 (kk : Nat), .ptr x 0, .und, .und, .und, .und, .und, .und, .und, .und, .und, .und, .und, .und, .und, .und, .und, .und, .und, .und, .und, .und, .und, .und, .und, .und, .und, .und, .und, .und, .und, .und, .und, .und, .und, .und, .und, .und, .und, .und, .und, .und, .und, .und, .und, .und, .und, .und, .und, .und, .und, .und, .und, .und, .und, .und, .und, .und, .und, .und, .und, .und, .und, .und, .und, .und, .und, .und, .und, .und, .und, .und, .und, .und, .und, .und, .und, .und, .und, .und, .und, .und, .und, .und, .und, .und, .und, .und, .und, .und, .und, .und, .und, .und, .und, .und, .und, .und, .und, .und, .und, .und, .und, .und, .und, .und, .und, .und, .und, .und, .und, .und, .und, .und, .und, .und, .und, .und, .und, .und, .und, .und, .und, .und, .und, .und, .und, .und, .und, .und, .und, .und, .und, .und, .und, .und, .und, .und, .und, .und, .und, .und, .und, .und] h (Then (fun tm' h' => h' = h ∧ keep [1, 2, 7, 8, 9, 10] 0 tm' = [.und, .int .i64 (n : Nat), LV, .und, .und, .und, .und, .ptr pol 0, .ptr p 0, S, .int .i64 (kk : Nat), .und, .und, .und, .und, .und, .und, .und, .und, .und, .und, .und, .und, .und, .und, .und, .und, .und, .und, .und, .und, .und, .und, .und, .und, .und, .und, .und, .und, .und, .und, .und, .und, .und, .und, .und, .und, .und, .und, .und, .und, .und, .und, .und, .und, .und, .und, .und, .und, .und, .und, .und, .und, .und, .und, .und, .und, .und, .und, .und, .und, .und, .und, .und, .und, .und, .und, .und, .und, .und, .und, .und, .und, .und, .und, .und, .und, .und, .und, .und, .und, .und, .und, .und, .und, .und, .und, .und, .und, .und, .und, .und, .und, .und, .und, .und, .und, .und, .und, .und, .und, .und, .und, .und, .und, .und, .und, .und, .und, .und, .und, .und, .und, .und, .und, .und, .und, .und, .und, .und, .und, .und, .und, .und, .und, .und, .und, .und, .und, .und, .und, .und, .und, .und, .und, .und, .und, .und, .und, .und, .und, .und, .und, .und]) (fun e tm' h' => False)) := by
  have hbd := mt_bd D (fun y hy => (hD y hy).2)
  have ht : ∀ r j, r < n → j < 65 → -4611686018427387904 ≤ mt D r j ∧ mt D r j ≤ 4611686018427387903 := fun r j _ hj => by
    obtain ⟨b1, b2, b3⟩ := hbd r j hj
    by_cases c : j < 64
    · have := b2 c; omega
    · have := b3 (by omega); omega
  have h0 : ∀ r, r < n → 0 ≤ mt D r 64 := fun r _ => (hbd r 64 (by omega)).1
  have hnw : -4611686018427387904 ≤ now ∧ now ≤ 4611686018427387903 := by omega
  have hc0 : ∀ r, n ≤ r → cof (mt D) r now S0 = 0 := fun r hr => by
    rw [← rc_cof, rc_cl, zs_nil (fun y hy => (hD y hy).1) r hr]; rfl
  refine counts_tail p pol x n kk LV S L S0 now kind reg (fun r => cof (mt D) r now S0) h hn4 hL hpol hx hc0 ?_ ?_ ?_ ?_ ?_
  · intro r
    rcases hP with ⟨rfl, rfl⟩ | ⟨id, _, _, _, rfl, hi⟩
    · have := sp31n r now S0 h
      have e : cof (mt []) r now S0 = 0 := by rw [← rc_cof]; rfl
      rw [e]; exact this
    · have := sp31 id true D.reverse r now S0 h hi (by rw [List.length_reverse]; omega) hnow hS0 (fun y hy => (hD y (List.mem_reverse.1 hy)).2)
      rw [List.length_reverse, List.reverse_reverse, rc_cof] at this
      exact this
  · intro r
    have := sp32 p q L S0 r now n (mt D) h hB ht h0 hnw
    by_cases c : r < n
    · rw [if_pos ⟨by omega, by omega⟩, Int.toNat_natCast] at this; exact this
    · rw [if_neg (by omega)] at this; rw [hc0 r (by omega)]; exact this
  · have := sp32 p q L S0 (-1) now n (mt D) h hB ht h0 hnw
    rw [if_neg (by omega)] at this; exact this
  · intro r
    have := sp33 p q L S0 r now n (mt D) h hB ht h0 hnw
    rw [Int.toNat_natCast] at this
    have e : decide ((0 ≤ (r : Int) ∧ (r : Int) < (n : Int)) ∧ L ≤ (cof (mt D) r now S0 : Int)) = decide (r < n ∧ L ≤ (cof (mt D) r now S0 : Int)) := decide_eq_decide.2 ⟨fun h => ⟨by omega, h.2⟩, fun h => ⟨⟨by omega, by omega⟩, h.2⟩⟩
    rw [e] at this; exact this
  · exact sp34 p q L S0 now n (mt D) h hB ht h0 hnw hn4
end Go.Proofs.YtllagimocmdldaaI
