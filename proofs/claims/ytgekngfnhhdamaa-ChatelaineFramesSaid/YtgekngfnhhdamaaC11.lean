import Derived.Test.YtgekngfnhhdamaaC10
set_option linter.unusedVariables false
set_option linter.unusedSimpArgs false
set_option maxRecDepth 100000
set_option maxHeartbeats 4000000
namespace Go.Proofs.YtgekngfnhhdamaaI
open Go Go.Proofs.YtgekngfnhhdamaaM
attribute [local go_sem] aop ev fg_slc fg_slk fg_ptr fg_bool fg_int fg_str fg_iface fg_func fg_agg fg_tup fg_nils fg_nilp fg_nilI fg_nilF fg_und aboundsK alen_nils alen_slc alen_slk aslice_nils aslice_slc aslice_slk awanted abin aun aint aeqn aeqc aeqs apart abounds abnd amaxi amaxiGo cells_agg cells_slc cells_slk cells_ptr cells_bool cells_int cells_str cells_iface cells_func cells_tup cells_nils cells_nilp cells_nilI cells_nilF cells_und sc_slc sc_slk sc_ptr sc_bool sc_int sc_str sc_iface sc_func sc_nils sc_nilp sc_nilI sc_nilF gd_zero gd_succ List.all_cons List.all_nil Bool.and_self Bool.and_true Bool.true_and List.length_cons List.length_nil Option.map_some Option.some.injEq cell_same cell_ne cell_ne' cellsAt_same cellsAt_ne cellsAt_ne' put_same put_of set_same set_ne set_ne' List.getElem?_cons_zero List.getElem?_cons_succ if_true if_false and_self and_true true_and ne_eq not_true_eq_false not_false_eq_true decide_true decide_false Bool.false_eq_true Bool.true_eq_false beq_self_eq_true bne_self_eq_false beq_true beq_false Bool.not_true Bool.not_false List.map_cons List.map_nil putL List.set_cons_zero List.set_cons_succ afill Nat.zero_le Nat.le_refl Nat.zero_add Nat.add_zero List.drop_zero List.drop_succ_cons List.take_zero List.take_succ_cons Bool.not_eq_true Bool.not_eq_false decide_eq_true_eq decide_eq_false_iff_not Int.toNat_zero Nat.sub_zero Int.toNat_natCast Bool.bne_true Bool.bne_false AH.cell AH.cellsAt AH.put Nat.mul_one Nat.one_mul Int.natCast_nonneg List.length_set

theorem val_go : ∀ (l : List UInt8) (a : Nat), l.foldl (fun v b => v * 256 + b.toNat) a = a * 256 ^ l.length + val l
  | [], a => by simp [val]
  | b :: l, a => by
    unfold val
    rw [List.foldl_cons, List.foldl_cons, val_go l, val_go l (0 * 256 + b.toNat), List.length_cons, Nat.pow_succ]
    simp [Nat.add_mul, Nat.mul_assoc, Nat.mul_comm 256, Nat.add_assoc]
theorem val_cons (b : UInt8) (l : List UInt8) : val (b :: l) = b.toNat * 256 ^ l.length + val l := by
  have := val_go l (0 * 256 + b.toNat)
  simpa [val] using this
theorem val_be (v : Nat) : ∀ n, val (be v n) = v % 256 ^ n
  | 0 => by simp [be, val, Nat.mod_one]
  | n + 1 => by
    rw [be, val_cons, be_length, val_be v n, UInt8.toNat_ofNat']
    have h1 : v % 256 ^ (n + 1) = v % (256 ^ n * 256) := by rw [Nat.pow_succ]
    rw [h1, Nat.mod_mul, Nat.mul_comm, Nat.add_comm]
theorem val_be' {v n : Nat} (h : v < 256 ^ n) : val (be v n) = v := by rw [val_be, Nat.mod_eq_of_lt h]
theorem hd_toNat (v : Nat) : (UInt8.ofNat (hd v).1).toNat = (hd v).1 := by have := hd_lt v; simp; omega
theorem ut_enc {v b n : Nat} {rest : List UInt8} (h1 : v < 256 ^ n) (h2 : (hd v).1 = b) : ut b (be v n ++ rest) 0 n = (rest, 0, v) := by
  have e1 : tk (be v n ++ rest) 0 n = (rest, 0, be v n) := by
    rw [tk_ok (by rw [List.length_append, be_length]; omega)]
    have e := be_length v n
    rw [List.drop_left' e, List.take_left' e]
  unfold ut
  rw [e1]
  simp only [val_be' h1, if_pos h2, if_true]
theorem tU_enc (v : Nat) (rest : List UInt8) (hv : v ≤ 18446744073709551615) : tU (encU v ++ rest) 0 = (rest, 0, v) := by
  have hb := hd_toNat v
  unfold encU tU
  rw [if_pos rfl, List.cons_append]
  simp only [hb]
  rcases (show v < 252 ∨ (¬ v < 252 ∧ v < 65536) ∨ (¬ v < 252 ∧ ¬ v < 65536 ∧ v < 4294967296) ∨ (¬ v < 252 ∧ ¬ v < 65536 ∧ ¬ v < 4294967296) from by omega) with c | ⟨c, c2⟩ | ⟨c, c2, c3⟩ | ⟨c, c2, c3⟩
  · have e : hd v = (v, 0) := by unfold hd; rw [if_pos c]
    rw [e]; simp only [if_pos c]; rfl
  · have e : hd v = (252, 2) := by unfold hd; rw [if_neg c, if_pos c2]
    rw [e]; simp only [Nat.reduceLT, Nat.reduceEqDiff, if_true, if_false]
    exact ut_enc (by omega) (by rw [e])
  · have e : hd v = (253, 4) := by unfold hd; rw [if_neg c, if_neg c2, if_pos c3]
    rw [e]; simp only [Nat.reduceLT, Nat.reduceEqDiff, if_true, if_false]
    exact ut_enc (by omega) (by rw [e])
  · have e : hd v = (254, 8) := by unfold hd; rw [if_neg c, if_neg c2, if_neg c3]
    rw [e]; simp only [Nat.reduceLT, Nat.reduceEqDiff, if_true, if_false]
    exact ut_enc (by omega) (by rw [e])
theorem tN_enc (n most : Int) (rest : List UInt8) (h : n ≤ 9223372036854775807) (hm : n.toNat ≤ most.toNat) : tN (encN n ++ rest) 0 most = (rest, 0, n.toNat) := by
  unfold tN encN
  rw [tU_enc n.toNat rest (by omega)]
  simp only [if_neg (by omega : ¬ most.toNat < n.toNat)]
theorem tB_enc (b : Bool) (rest : List UInt8) : tB (encB b ++ rest) 0 = (rest, 0, b) := by
  cases b <;> rfl
theorem tS_enc (s rest : List UInt8) (hs : s.length ≤ 300) : tS (encS s ++ rest) 0 300 = (rest, 0, s) := by
  unfold tS encS
  rw [List.append_assoc, tN_enc _ _ _ (by omega) (by show (s.length : Int).toNat ≤ 300; omega)]
  simp only [Int.toNat_natCast]
  rw [tk_ok (by rw [List.length_append]; omega), List.drop_left, List.take_left]
theorem rdU (h0 : AH) (p : List Nat) (u : Nat) (rest : List UInt8) (h : AH) (hr : Rd h0 p h (encU u ++ rest) 0) (hu : u ≤ 18446744073709551615) : Sp T 19 [.ptr p 0] h (fun r h' => r = .int .u64 u ∧ Rd h0 p h' rest 0) := by
  have := sp19 h0 p _ _ h hr
  rw [tU_enc u rest hu] at this; exact this
theorem rdN (h0 : AH) (p : List Nat) (n : Int) (rest : List UInt8) (h : AH) (hr : Rd h0 p h (encN n ++ rest) 0) (hu : n ≤ 9223372036854775807) : Sp T 21 [.ptr p 0, .int .i64 9223372036854775807] h (fun r h' => r = .int .i64 n.toNat ∧ Rd h0 p h' rest 0) := by
  have := sp21 h0 p _ _ 9223372036854775807 h hr (by omega)
  rw [tN_enc n 9223372036854775807 rest hu (by omega)] at this; exact this
theorem rdB (h0 : AH) (p : List Nat) (b : Bool) (rest : List UInt8) (h : AH) (hr : Rd h0 p h (encB b ++ rest) 0) : Sp T 23 [.ptr p 0] h (fun r h' => r = .bool b ∧ Rd h0 p h' rest 0) := by
  have := sp23 h0 p _ _ h hr
  rw [tB_enc b rest] at this; exact this
theorem rdS (h0 : AH) (p : List Nat) (s rest : List UInt8) (h : AH) (hr : Rd h0 p h (encT (bs s) ++ rest) 0) (hs : s.length ≤ 300) : Sp T 25 [.ptr p 0, .int .i64 300] h (fun r h' => r = .str (bs s) ∧ Rd h0 p h' rest 0) := by
  have := sp25 h0 p _ _ 300 h hr (by omega)
  have e : tS (encT (bs s) ++ rest) 0 300 = (rest, 0, s) := tS_enc s rest hs
  rw [e] at this; exact this
theorem Rd.new2 {h0 h : AH} {p q : List Nat} {s : List UInt8} {e : Int} {a b : Option Blk} (hr : Rd h0 p h s e) (hq : h q = none) : Rd (h0.set q b) p ((h.set q a).set q b) s e := by
  rw [set_set]
  exact ⟨hr.1.both, by rw [set_ne (nei hr.2.2 hq)]; exact hr.2.1, by rw [set_ne (nei hr.2.2 hq)]; exact hr.2.2⟩
theorem Rd.drop {h0 h : AH} {p q : List Nat} {s : List UInt8} {e : Int} {b : Option Blk} (hr : Rd (h0.set q b) p h s e) (hq : h0 q = none) : Rd h0 p h s e := by
  refine ⟨fun x c hx => hr.1 x c (by rw [set_ne (nei hx hq)]; exact hx), ?_, hr.2.2⟩
  have := hr.2.1
  by_cases e : p = q
  · rw [e]; exact hq
  · rw [set_ne e] at this; exact this
end Go.Proofs.YtgekngfnhhdamaaI
