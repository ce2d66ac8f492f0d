import Derived.Test.YtdehmopdlbdmfaaN10
set_option linter.unusedVariables false
set_option linter.unusedSimpArgs false
set_option maxRecDepth 100000
set_option maxHeartbeats 4000000
namespace Go.Proofs.YtdehmopdlbdmfaaI
open Go Go.Proofs.YtdehmopdlbdmfaaM
attribute [local go_sem] aop ev fg_slc fg_slk fg_ptr fg_bool fg_int fg_str fg_iface fg_func fg_agg fg_tup fg_nils fg_nilp fg_nilI fg_nilF fg_und aboundsK alen_nils alen_slc alen_slk aslice_nils aslice_slc aslice_slk awanted abin aun aint aeqn aeqc aeqs apart abounds abnd amaxi amaxiGo cells_agg cells_slc cells_slk cells_ptr cells_bool cells_int cells_str cells_iface cells_func cells_tup cells_nils cells_nilp cells_nilI cells_nilF cells_und sc_slc sc_slk sc_ptr sc_bool sc_int sc_str sc_iface sc_func sc_nils sc_nilp sc_nilI sc_nilF gd_zero gd_succ List.all_cons List.all_nil Bool.and_self Bool.and_true Bool.true_and List.length_cons List.length_nil Option.map_some Option.some.injEq cell_same cell_ne cell_ne' cellsAt_same cellsAt_ne cellsAt_ne' put_same put_of set_same set_ne set_ne' List.getElem?_cons_zero List.getElem?_cons_succ if_true if_false and_self and_true true_and ne_eq not_true_eq_false not_false_eq_true decide_true decide_false Bool.false_eq_true Bool.true_eq_false beq_self_eq_true bne_self_eq_false beq_true beq_false Bool.not_true Bool.not_false List.map_cons List.map_nil putL List.set_cons_zero List.set_cons_succ afill Nat.zero_le Nat.le_refl Nat.zero_add Nat.add_zero List.drop_zero List.drop_succ_cons List.take_zero List.take_succ_cons Bool.not_eq_true Bool.not_eq_false decide_eq_true_eq decide_eq_false_iff_not Int.toNat_zero Nat.sub_zero Int.toNat_natCast Bool.bne_true Bool.bne_false AH.cell AH.cellsAt AH.put Nat.mul_one Nat.one_mul Int.natCast_nonneg List.length_set bne_self_eq_false List.cons_append List.nil_append List.append_nil

theorem erase_sub {L : List Pk} {k : Nat} {q : Pk} (h : q ∈ L.eraseIdx k) : q ∈ L := List.mem_of_mem_eraseIdx h
/-- Take, of any. -/
theorem sp22a (h0 : AH) (p : List Nat) (k : Int) (N : Int) (L : List Pk) (C : List Int) (h : AH) (hn : Nt h0 p h N L C) (hb : L.length ≤ 4000) (hN : N ≤ 12) (hC : okC C) :
    Sp T 22 [.ptr p 0, .int .i64 k] h (fun v h' => ∃ (a b : Int) (tx : ByteArray) (is : Bool) (L' : List Pk) (d : Nat), v = .tup [.agg [.int .i64 a, .int .i64 b, .str tx], .bool is] ∧ (is = true → ∃ q ∈ L, q.2.2 = tx) ∧ (∀ q ∈ L', q ∈ L) ∧ L'.length + d = L.length ∧ d ≤ 1 ∧ Nt h0 p h' N L' C) := by
  by_cases hk : 0 ≤ k ∧ k < L.length
  · obtain ⟨K, rfl⟩ : ∃ K : Nat, k = K := ⟨k.toNat, by omega⟩
    obtain ⟨q, hq⟩ : ∃ q, L[K]? = some q := ⟨_, List.getElem?_eq_getElem (by omega)⟩
    refine Sp.mono (sp22 h0 p K q N L C h hn hq hb hN hC) ?_
    rintro v h' ⟨rfl, hn'⟩
    have hl := erase_len hq
    cases (isW N q.1 q.2.1 && cutBit C q.1.toNat q.2.1.toNat) with
    | true => exact ⟨0, 0, ⟨#[]⟩, false, _, 1, rfl, by simp, fun q => erase_sub, hl, Nat.le_refl _, hn'⟩
    | false => exact ⟨q.1, q.2.1, q.2.2, true, _, 1, rfl, fun _ => ⟨q, List.mem_of_getElem? hq, rfl⟩, fun q => erase_sub, hl, Nat.le_refl _, hn'⟩
  · refine Sp.mono (sp22f h0 p k N L C h hn hk) ?_
    rintro v h' ⟨rfl, hn'⟩
    exact ⟨0, 0, ⟨#[]⟩, false, L, 0, rfl, by simp, fun q h => h, rfl, by omega, hn'⟩
/-- Drop, of any. -/
theorem sp19a (h0 : AH) (p : List Nat) (k : Int) (N : Int) (L : List Pk) (C : List Int) (h : AH) (hn : Nt h0 p h N L C) (hb : L.length ≤ 4000) :
    Sp T 19 [.ptr p 0, .int .i64 k] h (fun v h' => ∃ (r : Bool) (L' : List Pk) (d : Nat), v = .bool r ∧ (∀ q ∈ L', q ∈ L) ∧ L'.length + d = L.length ∧ d ≤ 1 ∧ Nt h0 p h' N L' C) := by
  by_cases hk : 0 ≤ k ∧ k < L.length
  · obtain ⟨K, rfl⟩ : ∃ K : Nat, k = K := ⟨k.toNat, by omega⟩
    obtain ⟨q, hq⟩ : ∃ q, L[K]? = some q := ⟨_, List.getElem?_eq_getElem (by omega)⟩
    refine Sp.mono (sp19 h0 p K q N L C h hn hq hb) ?_
    rintro v h' ⟨rfl, hn'⟩
    exact ⟨true, _, 1, rfl, fun q => erase_sub, erase_len hq, Nat.le_refl _, hn'⟩
  · refine Sp.mono (sp19f h0 p k N L C h hn hk) ?_
    rintro v h' ⟨rfl, hn'⟩
    exact ⟨false, L, 0, rfl, fun q h => h, rfl, by omega, hn'⟩
/-- Again, of any. -/
theorem sp17a (h0 : AH) (p : List Nat) (k : Int) (N : Int) (L : List Pk) (C : List Int) (h : AH) (hn : Nt h0 p h N L C) (hb : L.length < 4000) (hw : ∀ q ∈ L, isW N q.1 q.2.1 = true) :
    Sp T 17 [.ptr p 0, .int .i64 k] h (fun v h' => ∃ (r : Bool) (L' : List Pk), v = .bool r ∧ (∀ q ∈ L', q ∈ L) ∧ L.length + r.toNat = L'.length ∧ Nt h0 p h' N L' C) := by
  by_cases hk : 0 ≤ k ∧ k < L.length
  · obtain ⟨K, rfl⟩ : ∃ K : Nat, k = K := ⟨k.toNat, by omega⟩
    obtain ⟨q, hq⟩ : ∃ q, L[K]? = some q := ⟨_, List.getElem?_eq_getElem (by omega)⟩
    have hm := List.mem_of_getElem? hq
    refine Sp.mono (sp17 h0 p K q N L C h hn hq (hw q hm) hb) ?_
    rintro v h' ⟨rfl, hn'⟩
    refine ⟨true, _, rfl, fun z hz => ?_, by rw [List.length_append, List.length_singleton]; rfl, hn'⟩
    rcases List.mem_append.1 hz with h | h
    · exact h
    · rw [List.mem_singleton.1 h]; exact hm
  · refine Sp.mono (sp17f h0 p k N L C h hn hk) ?_
    rintro v h' ⟨rfl, hn'⟩
    exact ⟨false, L, rfl, fun q h => h, rfl, hn'⟩
/-- Last, of any. -/
theorem sp18a (h0 : AH) (p : List Nat) (k : Int) (N : Int) (L : List Pk) (C : List Int) (h : AH) (hn : Nt h0 p h N L C) (hb : L.length ≤ 4000) (hw : ∀ q ∈ L, isW N q.1 q.2.1 = true) :
    Sp T 18 [.ptr p 0, .int .i64 k] h (fun v h' => ∃ (r : Bool) (L' : List Pk), v = .bool r ∧ (∀ q ∈ L', q ∈ L) ∧ L'.length = L.length ∧ Nt h0 p h' N L' C) := by
  by_cases hk : 0 ≤ k ∧ k < L.length
  · obtain ⟨K, rfl⟩ : ∃ K : Nat, k = K := ⟨k.toNat, by omega⟩
    obtain ⟨q, hq⟩ : ∃ q, L[K]? = some q := ⟨_, List.getElem?_eq_getElem (by omega)⟩
    have hm := List.mem_of_getElem? hq
    refine Sp.mono (sp18 h0 p K q N L C h hn hq (hw q hm) hb) ?_
    rintro v h' ⟨rfl, hn'⟩
    refine ⟨true, _, rfl, fun z hz => ?_, by rw [List.length_append, List.length_singleton]; exact erase_len hq, hn'⟩
    rcases List.mem_append.1 hz with h | h
    · exact erase_sub h
    · rw [List.mem_singleton.1 h]; exact hm
  · refine Sp.mono (sp18f h0 p k N L C h hn hk) ?_
    rintro v h' ⟨rfl, hn'⟩
    exact ⟨false, L, rfl, fun q h => h, rfl, hn'⟩
theorem sp23a (h0 : AH) (p : List Nat) (a b : Int) (is : Bool) (N : Int) (L : List Pk) (C : List Int) (h : AH) (hn : Nt h0 p h N L C) (hN : N ≤ 12) (hC : okC C) :
    Sp T 23 [.ptr p 0, .int .i64 a, .int .i64 b, .bool is] h (fun v h' => ∃ C', okC C' ∧ Nt h0 p h' N L C') := by
  refine Sp.mono (sp23 h0 p a b is N L C h hn hN hC) ?_
  intro v h' hh
  split at hh
  · obtain ⟨C', h1, h2⟩ := hh; exact ⟨C', h1.1, h2⟩
  · exact ⟨C, hC, hh⟩
/-- Send, of any. -/
theorem sp16a (h0 : AH) (p : List Nat) (q : Pk) (N : Int) (L : List Pk) (C : List Int) (h : AH) (hn : Nt h0 p h N L C) (hb : L.length < 4000) :
    Sp T 16 [.ptr p 0, .agg [.int .i64 q.1, .int .i64 q.2.1, .str q.2.2]] h (fun v h' => (v = .bool true ∧ isW N q.1 q.2.1 = true ∧ Nt h0 p h' N (L ++ [q]) C) ∨ (v = .bool false ∧ Nt h0 p h' N L C)) := by
  cases hw : isW N q.1 q.2.1 with
  | true =>
    refine Sp.mono (sp16 h0 p q N L C h hn hw hb) ?_
    rintro v h' ⟨rfl, hn'⟩
    exact .inl ⟨rfl, rfl, hn'⟩
  | false =>
    refine Sp.mono (sp16f h0 p q N L C h hn (.inl hw)) ?_
    rintro v h' ⟨rfl, hn'⟩
    exact .inr ⟨rfl, hn'⟩
/-- Texts of their own that are in the base of a net. -/
def Tx (B B1 : AH) (S : AV) (T : List ByteArray) : Prop := S = .nils ∧ T = [] ∨ ∃ j, B j = none ∧ S = .slc j 0 T.length 1 ∧ B1 j = some ⟨true, T.map AV.str⟩
theorem Tx.len {B B1 : AH} {S : AV} {T : List ByteArray} (h : Tx B B1 S T) : alen S = some (T.length : Int) := by
  rcases h with ⟨rfl, rfl⟩ | ⟨j, _, rfl, _⟩ <;> rfl
def Iv (B : AH) (p : List Nat) (N : Int) (i : Nat) (h' : AH) (S8 : AV) (s g : Nat) : Prop := ∃ B1 L C Ts, Sub B B1 ∧ Nt B1 p h' N L C ∧ okC C ∧ Tx B B1 S8 Ts ∧ s = g + L.length ∧ s ≤ i ∧ Ts.length ≤ i ∧ ∀ q ∈ L, isW N q.1 q.2.1 = true ∧ q.2.2 ∈ Ts
def body5 : ICode := (.block 1 (.seq (.reg [(0, false), (1, false), (2, false), (3, false), (4, false), (5, false)] r5_10)
 (.seq (.reg [(0, false), (1, false), (2, false)] r5_11)
 (.seq (.seq (.reg [(0, false), (1, false)] r5_12)
 (.seq (.block 2 (.seq (.reg [(0, false), (1, false)] r5_13)
 (.seq (.cond (.t 50) (.seq (.reg [(0, false), (1, false), (2, false), (3, false), (4, false), (5, false), (6, false), (7, false), (2, true), (4, true), (8, false), (9, false)] r5_14)
 (.seq (.cond (.t 61) (.seq (.reg [(0, false), (1, false), (2, false)] r5_15)
 (.reg [(0, false), (1, false), (2, false), (3, false), (4, false), (5, false), (6, false)] r5_16))
 .skip) (.mask [1, 5, 6, 7, 8, 9])))
 (.seq (.reg [(0, false), (1, false)] r5_17)
 (.seq (.cond (.t 70) (.seq (.reg [(0, false), (1, false), (2, false), (3, false), (4, false), (5, false), (6, false), (7, false), (8, false), (9, false)] r5_18)
 (.seq (.reg [(0, false), (1, false), (2, false)] r5_19)
 (.seq (.seq (.reg [(0, false), (1, false), (2, false)] r5_20)
 (.seq (.block 3 (.loop (.seq (.mask [1, 5, 6, 7, 8, 9, 11, 12, 14, 81, 82, 83]) (.seq (.reg [(0, false)] r5_21)
 (.seq (.cond (.t 84) .skip
 (.exit 3))
 (.seq (.seq (.block 4 (.seq (.reg [(0, false), (1, false), (2, false)] r5_22)
 (.reg [(0, false), (1, false), (2, false), (3, false), (4, false), (5, false), (6, false), (7, false)] r5_23))) (.mask [1, 5, 6, 7, 8, 9, 11, 12, 14, 81, 82, 83]))
 (.reg [(0, false), (1, false)] r5_24))))))) (.mask [1, 5, 6, 7, 8, 9, 11, 14])))
 (.seq (.seq (.reg [(0, false), (1, false)] r5_25)
 (.cond (.t 96) (.seq (.reg [(0, false)] r5_26)
 .ret)
 .skip))
 (.reg [(0, false), (1, false), (2, false), (3, false), (4, false), (5, false), (6, false)] r5_27)))))
 (.seq (.reg [(0, false), (1, false)] r5_28)
 (.seq (.cond (.t 103) (.seq (.reg [(0, false), (1, false), (2, false), (3, false)] r5_29)
 (.reg [(0, false), (1, false), (2, false), (3, false), (4, false), (5, false), (6, false)] r5_30))
 (.seq (.reg [(0, false), (1, false)] r5_31)
 (.seq (.cond (.t 115) (.seq (.reg [(0, false), (1, false), (2, false), (3, false)] r5_32)
 (.seq (.cond (.t 120) (.reg [(0, false), (1, false), (2, false)] r5_33)
 .skip) (.mask [1, 5, 6, 7, 8, 9])))
 (.seq (.reg [(0, false), (1, false)] r5_34)
 (.seq (.cond (.t 123) (.reg [(0, false), (1, false), (2, false), (3, false)] r5_35)
 (.reg [(0, false), (1, false), (2, false), (3, false), (4, false), (5, false), (6, false), (7, false), (8, false)] r5_36)) (.mask [1, 5, 6, 7, 8, 9])))) (.mask [1, 5, 6, 7, 8, 9])))) (.mask [1, 5, 6, 7, 8, 9])))) (.mask [1, 5, 6, 7, 8, 9])))) (.mask [1, 5, 6, 7, 8, 9])))) (.mask [1, 5, 6, 7, 8, 9])))
 (.seq (.reg [(0, false), (1, false), (2, false), (3, false), (4, false), (5, false), (6, false), (7, false), (8, false), (9, false)] r5_37)
 (.cond (.t 138) (.seq (.reg [(0, false)] r5_38)
 .ret)
 .skip))))))
end Go.Proofs.YtdehmopdlbdmfaaI
