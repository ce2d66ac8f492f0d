import Derived.Test.YtllagimocmdldaaU3
set_option linter.unusedVariables false
set_option linter.unusedSimpArgs false
set_option maxRecDepth 100000
set_option maxHeartbeats 4000000
namespace Go.Proofs.YtllagimocmdldaaI
open Go Go.Proofs.YtllagimocmdldaaM
attribute [local go_sem] aop ev fg_slc fg_slk fg_ptr fg_bool fg_int fg_str fg_iface fg_func fg_agg fg_tup fg_nils fg_nilp fg_nilI fg_nilF fg_und aboundsK alen_nils alen_slc alen_slk aslice_nils aslice_slc aslice_slk awanted abin aun aint aeqn aeqc aeqs apart abounds abnd amaxi amaxiGo cells_agg cells_slc cells_slk cells_ptr cells_bool cells_int cells_str cells_iface cells_func cells_tup cells_nils cells_nilp cells_nilI cells_nilF cells_und sc_slc sc_slk sc_ptr sc_bool sc_int sc_str sc_iface sc_func sc_nils sc_nilp sc_nilI sc_nilF gd_zero gd_succ List.all_cons List.all_nil Bool.and_self Bool.and_true Bool.true_and List.length_cons List.length_nil Option.map_some Option.some.injEq cell_same cell_ne cell_ne' cellsAt_same cellsAt_ne cellsAt_ne' put_same put_of set_same set_ne set_ne' List.getElem?_cons_zero List.getElem?_cons_succ if_true if_false and_self and_true true_and ne_eq not_true_eq_false not_false_eq_true decide_true decide_false Bool.false_eq_true Bool.true_eq_false beq_self_eq_true bne_self_eq_false beq_true beq_false Bool.not_true Bool.not_false List.map_cons List.map_nil putL List.set_cons_zero List.set_cons_succ afill Nat.zero_le Nat.le_refl Nat.zero_add Nat.add_zero List.drop_zero List.drop_succ_cons List.take_zero List.take_succ_cons Bool.not_eq_true Bool.not_eq_false decide_eq_true_eq decide_eq_false_iff_not Int.toNat_zero Nat.sub_zero Int.toNat_natCast Bool.bne_true Bool.bne_false AH.cell AH.cellsAt AH.put Nat.mul_one Nat.one_mul Int.natCast_nonneg List.length_set

theorem cB_gt (a b c d : Int) : cB a b c d > 0 ↔ (c < a ∨ (c = a ∧ d < b)) := by unfold cB cmpI; repeat' split; all_goals omega
theorem cB_zero (a b c d : Int) : cB a b c d = 0 ↔ (a = c ∧ b = d) := by unfold cB cmpI; repeat' split; all_goals omega
theorem cB_neg (a b c d : Int) : cB a b c d = - cB c d a b := by unfold cB cmpI; repeat' split; all_goals omega
theorem cB_bd (a b c d : Int) : -1 ≤ cB a b c d ∧ cB a b c d ≤ 1 := by unfold cB cmpI; repeat' split; all_goals omega
theorem mB_zero {x : Int × Int} (h1 : 0 ≤ x.1) (h2 : 0 ≤ x.2) : mB (0, 0) x = x := by
  unfold mB
  split
  · rfl
  · rename_i h
    rw [gt_iff_lt, ← gt_iff_lt, cB_gt] at h
    obtain ⟨a, b⟩ := x
    simp only at *
    congr 1 <;> omega
/-- The next ballot's counter. -/
def nB (C M n : Int) : Int := if 0 < C ∧ M < n then C else C + 1
theorem sp38' (C M n : Int) (h : AH) (hn : 0 ≤ n ∧ n ≤ 11) (hC : 0 ≤ C ∧ C ≤ 1000000) : Sp T 38 [.agg [.int .u64 C, .int .i64 M], .int .i64 n] h (fun v h' => v = .tup [.agg [.int .u64 (nB C M n), .int .i64 n], .int .i64 0] ∧ Up h h') := sp38 C M n h hn hC
theorem nB_gt (C M n : Int) : C < nB C M n ∨ (C = nB C M n ∧ M < n) := by unfold nB; split <;> omega
theorem nB_bd (C M n : Int) : C ≤ nB C M n ∧ nB C M n ≤ C + 1 := by unfold nB; split <;> omega
def e2 (x : Int × Int) : List AV := [.int .u64 x.1, .int .i64 x.2]
theorem e2z (x : Int × Int) : (e2 x).length = 2 := rfl
theorem e2s (x : Int × Int) : (e2 x).all AV.scalar = true := rfl
theorem flat_set {α : Type} {enc : α → List AV} (hz : ∀ x, (enc x).length = 2) : ∀ (L : List α) (k : Nat) (v : α) (a b : AV), enc v = [a, b] → k < L.length → ((L.flatMap enc).set (k * 2) a).set (k * 2 + 1) b = (L.set k v).flatMap enc
  | [], k, v, a, b, _, h => by simp at h
  | x :: L, 0, v, a, b, he, _ => by
    have hx := hz x
    match hx' : enc x, hx with
    | [c, d], _ => simp [hx', he]
  | x :: L, k + 1, v, a, b, he, h => by
    have hx := hz x
    rw [List.set_cons_succ, List.flatMap_cons, List.flatMap_cons, List.set_append_right _ _ (by omega), List.set_append_right _ _ (by omega), ← flat_set hz L k v a b he (by simpa using h), hx]
    congr 2
    all_goals (first | (congr 1; omega) | omega)
/-- The state of those that ask. -/
structure HB (i : Int) (L H : List (Int × Int)) : Prop where
  len : H.length = 12
  bd : ∀ (j : Nat) x, H[j]? = some x → 0 ≤ x.1 ∧ x.1 ≤ i ∧ 0 ≤ x.2 ∧ x.2 ≤ 11
  all : ∀ y ∈ L, 0 ≤ y.2 ∧ y.2 ≤ 11 ∧ ∀ x, H[y.2.toNat]? = some x → y.1 < x.1 ∨ (y.1 = x.1 ∧ y.2 ≤ x.2)
theorem HB.start : HB 0 [] (List.replicate 12 ((0, 0) : Int × Int)) := by
  refine ⟨rfl, fun j x h => ?_, by simp⟩
  have := List.eq_of_mem_replicate (List.mem_of_getElem? h)
  subst this; decide
/-- What is new is none of those that were. -/
theorem HB.new {i : Int} {L H : List (Int × Int)} {n : Nat} {C M : Int} (hb : HB i L H) (hx : H[n]? = some (C, M)) {y : Int × Int} (hy : y ∈ L) : ¬ (y.1 = nB C M n ∧ y.2 = n) := by
  rintro ⟨h1, h2⟩
  obtain ⟨_, _, h3⟩ := hb.all y hy
  have e : y.2.toNat = n := by omega
  have := h3 (C, M) (by rw [e]; exact hx)
  have := nB_gt C M n
  simp only at *
  omega
/-- Somebody has heard of it. -/
theorem HB.up {i : Int} {L H : List (Int × Int)} {k : Nat} {x b : Int × Int} (hb : HB i L H) (hx : H[k]? = some x) (b1 : 0 ≤ b.1 ∧ b.1 ≤ i) (b2 : 0 ≤ b.2 ∧ b.2 ≤ 11) : HB i L (H.set k (mB x b)) := by
  have hk := (List.getElem?_eq_some_iff.1 hx).1
  have hm : (mB x b = x ∨ mB x b = b ∧ (x.1 < b.1 ∨ (x.1 = b.1 ∧ x.2 < b.2))) := by
    unfold mB
    split
    · rename_i h; exact .inr ⟨rfl, (cB_gt _ _ _ _).1 h⟩
    · exact .inl rfl
  refine ⟨by rw [List.length_set]; exact hb.len, fun j z hz => ?_, fun y hy => ⟨(hb.all y hy).1, (hb.all y hy).2.1, fun z hz => ?_⟩⟩
  · by_cases hj : k = j
    · subst hj
      rw [List.getElem?_set_self hk] at hz
      cases hz
      have := hb.bd _ _ hx
      rcases hm with e | ⟨e, _⟩ <;> rw [e] <;> omega
    · rw [List.getElem?_set_ne hj] at hz
      exact hb.bd _ _ hz
  · by_cases hj : k = y.2.toNat
    · subst hj
      rw [List.getElem?_set_self hk] at hz
      cases hz
      have := (hb.all y hy).2.2 x hx
      rcases hm with e | ⟨e, h⟩ <;> rw [e] <;> omega
    · rw [List.getElem?_set_ne hj] at hz
      exact (hb.all y hy).2.2 z hz
theorem HB.more {i : Int} {L H : List (Int × Int)} {n : Nat} {b : Int × Int} (hb : HB i L H) (hn : n ≤ 11) (hx : H[n]? = some b) (h2 : b.2 = n) : HB i (L ++ [b]) H := by
  refine ⟨hb.len, hb.bd, fun y hy => ?_⟩
  rcases List.mem_append.1 hy with hy | hy
  · exact hb.all y hy
  · obtain rfl : y = b := by simpa using hy
    refine ⟨by omega, by omega, fun x h => ?_⟩
    have e : y.2.toNat = n := by omega
    rw [e, hx] at h; cases h
    omega
theorem HB.wide {i j : Int} {L H : List (Int × Int)} (hb : HB i L H) (h : i ≤ j) : HB j L H := ⟨hb.len, fun k x hx => by have := hb.bd k x hx; omega, hb.all⟩
theorem Lc.new {α : Type} {enc : α → List AV} {sz : Nat} {h0 h : AH} {p q : List Nat} {S : AV} {L : List α} {b : Blk} {c : Option Blk} (hL : Lc enc sz h0 p h S L) (hq : h q = none) : Lc enc sz (h0.set q (some b)) p (h.set q c) S L := by
  rcases hL with hL | ⟨i, rest, g1, g2, g3, g⟩
  · exact .inl hL
  · have hiq : i ≠ q := nei g3 hq
    exact .inr ⟨i, rest, by rw [set_ne hiq]; exact g1, g2, by rw [set_ne hiq]; exact g3, g⟩
end Go.Proofs.YtllagimocmdldaaI
