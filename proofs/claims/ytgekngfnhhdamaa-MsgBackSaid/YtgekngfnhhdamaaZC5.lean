/- What the statement's proof needs (joined out of several texts); no conditions. -/
import Derived.Test.YtgekngfnhhdamaaZC4
set_option linter.unusedVariables false
set_option linter.unusedSimpArgs false
set_option maxRecDepth 100000
set_option maxHeartbeats 4000000
namespace Go.Proofs.YtgekngfnhhdamaaI
open Go Go.Proofs.YtgekngfnhhdamaaM
attribute [local go_sem] aop ev fg_slc fg_slk fg_ptr fg_bool fg_int fg_str fg_iface fg_func fg_agg fg_tup fg_nils fg_nilp fg_nilI fg_nilF fg_und aboundsK alen_nils alen_slc alen_slk aslice_nils aslice_slc aslice_slk awanted abin aun aint aeqn aeqc aeqs apart abounds abnd amaxi amaxiGo cells_agg cells_slc cells_slk cells_ptr cells_bool cells_int cells_str cells_iface cells_func cells_tup cells_nils cells_nilp cells_nilI cells_nilF cells_und sc_slc sc_slk sc_ptr sc_bool sc_int sc_str sc_iface sc_func sc_nils sc_nilp sc_nilI sc_nilF gd_zero gd_succ List.all_cons List.all_nil Bool.and_self Bool.and_true Bool.true_and List.length_cons List.length_nil Option.map_some Option.some.injEq cell_same cell_ne cell_ne' cellsAt_same cellsAt_ne cellsAt_ne' put_same put_of set_same set_ne set_ne' List.getElem?_cons_zero List.getElem?_cons_succ if_true if_false and_self and_true true_and ne_eq not_true_eq_false not_false_eq_true decide_true decide_false Bool.false_eq_true Bool.true_eq_false beq_self_eq_true bne_self_eq_false beq_true beq_false Bool.not_true Bool.not_false List.map_cons List.map_nil putL List.set_cons_zero List.set_cons_succ afill Nat.zero_le Nat.le_refl Nat.zero_add Nat.add_zero List.drop_zero List.drop_succ_cons List.take_zero List.take_succ_cons Bool.not_eq_true Bool.not_eq_false decide_eq_true_eq decide_eq_false_iff_not Int.toNat_zero Nat.sub_zero Int.toNat_natCast Bool.bne_true Bool.bne_false AH.cell AH.cellsAt AH.put Nat.mul_one Nat.one_mul Int.natCast_nonneg List.length_set bs_append bs_size bs_toList bs_extract bs_get List.append_nil Nat.sub_zero bne_self_eq_false beq_self_eq_true azeros Int.le_refl
theorem sameB_refl (k1 k2 k3 k4 : Int) (C : Nat) (n1 s1 s2 : Int) (ok : Bool) (x : List UInt8) (L : List En) : sameB k1 k2 k3 k4 C n1 s1 s2 ok x L k1 k2 k3 k4 C n1 s1 s2 ok x L = true := by
  unfold sameB; simp
theorem chk_zero (k1 k2 k3 k4 : Int) (C : Nat) (n1 s1 s2 : Int) (ok : Bool) (x : List UInt8) (L : List En) (h : chk k1 k2 k3 k4 C n1 s1 s2 x L = 0) : (1 ≤ k1 ∧ k1 ≤ 13) ∧ (0 ≤ k2 ∧ k2 ≤ 11) ∧ (0 ≤ k3 ∧ k3 ≤ 11) ∧ (0 ≤ k4 ∧ k4 ≤ 3) ∧ snd C n1 = true ∧ (0 ≤ s1 ∧ s1 ≤ 1099511627776) ∧ (0 ≤ s2 ∧ s2 ≤ 1099511627776) ∧ x.length ≤ 131072 ∧ L.length ≤ 64 ∧ ris (-1) L = true ∧ (∀ y ∈ L, p2 y = true) ∧ ∀ y ∈ L, y.2.2.2.length ≤ 400 := by
  unfold chk r1 r2 r3 r4 at h
  repeat' (split at h)
  all_goals first | (exfalso; revert h; decide) | skip
  simp_all [p4]
  assumption
theorem snd_rg {C : Nat} {n : Int} (h : snd C n = true) : rgN n := by
  have := of_decide_eq_true h
  unfold rgN; omega
end Go.Proofs.YtgekngfnhhdamaaI
set_option linter.unusedVariables false
set_option linter.unusedSimpArgs false
set_option maxRecDepth 100000
set_option maxHeartbeats 4000000
namespace Go.Proofs.YtgekngfnhhdamaaI
open Go Go.Proofs.YtgekngfnhhdamaaM
attribute [local go_sem] aop ev fg_slc fg_slk fg_ptr fg_bool fg_int fg_str fg_iface fg_func fg_agg fg_tup fg_nils fg_nilp fg_nilI fg_nilF fg_und aboundsK alen_nils alen_slc alen_slk aslice_nils aslice_slc aslice_slk awanted abin aun aint aeqn aeqc aeqs apart abounds abnd amaxi amaxiGo cells_agg cells_slc cells_slk cells_ptr cells_bool cells_int cells_str cells_iface cells_func cells_tup cells_nils cells_nilp cells_nilI cells_nilF cells_und sc_slc sc_slk sc_ptr sc_bool sc_int sc_str sc_iface sc_func sc_nils sc_nilp sc_nilI sc_nilF gd_zero gd_succ List.all_cons List.all_nil Bool.and_self Bool.and_true Bool.true_and List.length_cons List.length_nil Option.map_some Option.some.injEq cell_same cell_ne cell_ne' cellsAt_same cellsAt_ne cellsAt_ne' put_same put_of set_same set_ne set_ne' List.getElem?_cons_zero List.getElem?_cons_succ if_true if_false and_self and_true true_and ne_eq not_true_eq_false not_false_eq_true decide_true decide_false Bool.false_eq_true Bool.true_eq_false beq_self_eq_true bne_self_eq_false beq_true beq_false Bool.not_true Bool.not_false List.map_cons List.map_nil putL List.set_cons_zero List.set_cons_succ afill Nat.zero_le Nat.le_refl Nat.zero_add Nat.add_zero List.drop_zero List.drop_succ_cons List.take_zero List.take_succ_cons Bool.not_eq_true Bool.not_eq_false decide_eq_true_eq decide_eq_false_iff_not Int.toNat_zero Nat.sub_zero Int.toNat_natCast Bool.bne_true Bool.bne_false AH.cell AH.cellsAt AH.put Nat.mul_one Nat.one_mul Int.natCast_nonneg List.length_set bs_append bs_size bs_toList bs_extract bs_get
theorem whole_facts {k : Nat} {l rest : List UInt8} : (fr k l ++ rest)[0]? = some (UInt8.ofNat k) ∧ ((fr k l ++ rest).drop 1).take 3 = be l.length 3 ∧ (fr k l ++ rest).take (4 + l.length) = fb k l ∧
    ((fr k l ++ rest).drop (4 + l.length)).take (l.length + 8 - (4 + l.length)) = be (smF (fb k l)).toNat 4 ∧ ((fr k l ++ rest).drop 4).take (4 + l.length - 4) = l := by
  have b3 := be_length l.length 3
  have b4 := be_length (smF (fb k l)).toNat 4
  have e : fr k l ++ rest = fb k l ++ (be (smF (fb k l)).toNat 4 ++ rest) := by simp [fr]
  have e2 : fb k l = [UInt8.ofNat k] ++ (be l.length 3 ++ l) := rfl
  have hl := fb_len k l
  refine ⟨rfl, ?_, ?_, ?_, ?_⟩
  · rw [e]; generalize be (smF (fb k l)).toNat 4 ++ rest = Z; rw [e2, List.append_assoc, List.drop_left' (show [UInt8.ofNat k].length = 1 from rfl), List.append_assoc, List.take_left' b3]
  · rw [e, List.take_left' (by omega)]
  · rw [e, List.drop_left' (by omega), List.take_left' (by omega)]
  · rw [e]; generalize be (smF (fb k l)).toNat 4 ++ rest = Z; rw [e2, show [UInt8.ofNat k] ++ (be l.length 3 ++ l) = ([UInt8.ofNat k] ++ be l.length 3) ++ l by simp, List.append_assoc, List.drop_left' (by rw [List.length_append, b3]; rfl), List.take_left' (by omega)]
/-- Open of a frame, whatever follows -/
theorem sp68fr (k : Nat) (l rest : List UInt8) (hk : 1 ≤ k ∧ k ≤ 255) (hl : l.length ≤ 1048576) (g : AH) : Sp T 68 [.str (bs (fr k l ++ rest))] g (fun v g' => v = .tup [.int .u8 (k : Int), .str (bs l), .int .i64 0] ∧ Up g g') := by
  obtain ⟨f0, f1, f2, f3, f4⟩ := @whole_facts k l rest
  exact sp68c (fr k l ++ rest) l k g (by rw [List.length_append, fr_len]; omega) hk hl f0 f1 (by rw [List.length_append, fr_len]; omega) f2 f3 f4
theorem tS_enc' (s rest : List UInt8) (most : Nat) (hs : s.length ≤ most) (hm : most ≤ 1000000) : tS (encS s ++ rest) 0 (most : Int) = (rest, 0, s) := by
  unfold tS encS
  rw [List.append_assoc, tN_enc _ _ _ (by omega) (by omega)]
  simp only [Int.toNat_natCast]
  rw [tk_ok (by rw [List.length_append]; omega), List.drop_left, List.take_left]
theorem gB_enc' (C : Nat) (n : Int) (rest : List UInt8) (hC : C ≤ 18446744073709551615) (hs : snd C n = true) : gB (encU C ++ (encN n ++ rest)) 0 = (rest, 0, C, n.toNat) := by
  have a := of_decide_eq_true hs
  unfold gB
  rw [tU_enc C _ hC]
  simp only [tN_enc n 11 rest (by omega) (by show n.toNat ≤ 11; omega)]
  have : ¬ (C = 0 ∧ 0 < n.toNat) := fun h => by omega
  simp only [if_neg this, if_true]
theorem eG_enc (y : En) (rest : List UInt8) (last : Int) (hp : p2 y = true) (h4 : y.2.2.2.length ≤ 400) (hC : y.2.1 ≤ 18446744073709551615) (hl : last < y.1) : eG (enE y ++ rest) 0 last = (rest, 0, y) := by
  obtain ⟨y1, y2, y3, y4⟩ := y
  unfold p2 at hp
  rw [Bool.and_eq_true] at hp
  obtain ⟨h1, h2⟩ := hp
  have b := of_decide_eq_true h2
  have b3 := of_decide_eq_true h1
  simp only at h1 b b3 h4 hC hl
  unfold eG enE
  simp only [List.append_assoc]
  have e1 := tN_enc y1 1099511627776 (encU y2 ++ (encN y3 ++ (encS y4 ++ rest))) (by omega) (by show y1.toNat ≤ 1099511627776; omega)
  have e0 : ((y1.toNat : Nat) : Int) = y1 := by omega
  simp only [e1, e0, if_neg (show ¬ y1 ≤ last by omega)]
  have e2 := gB_enc' y2 y3 (encS y4 ++ rest) hC h1
  simp only [e2]
  have e3 := tS_enc' y4 rest 400 h4 (by omega)
  rw [show ((400 : Nat) : Int) = 400 from rfl] at e3
  simp only [e3]
  have e4 : ((y3.toNat : Nat) : Int) = y3 := by omega
  rw [e4]
theorem lpG_enc : ∀ (L : List En) (last : Int) (rest : List UInt8), ris last L = true → (∀ y ∈ L, p2 y = true) → (∀ y ∈ L, y.2.2.2.length ≤ 400) → (∀ y ∈ L, y.2.1 ≤ 18446744073709551615) → lpG L.length (L.flatMap enE ++ rest) 0 last = (rest, 0, L)
  | [], _, _, _, _, _, _ => rfl
  | y :: L, last, rest, hr, hp, h4, hC => by
    rw [ris, Bool.and_eq_true] at hr
    have e := eG_enc y (L.flatMap enE ++ rest) last (hp y (by simp)) (h4 y (by simp)) (hC y (by simp)) (of_decide_eq_true hr.1)
    have ih := lpG_enc L y.1 rest hr.2 (fun z hz => hp z (by simp [hz])) (fun z hz => h4 z (by simp [hz])) (fun z hz => hC z (by simp [hz]))
    show lpG (L.length + 1) _ _ _ = _
    rw [List.flatMap_cons, List.append_assoc, lpG, if_pos rfl, e]
    simp only [ih]
set_option linter.constructorNameAsVariable false
/-- What Parse makes of a message's inside. -/
theorem PM_enc (k1 k2 k3 k4 : Int) (C : Nat) (n1 s1 s2 : Int) (ok : Bool) (x : List UInt8) (L : List En) (h0 : AH) (s : List UInt8) (v : AV) (h' : AH) (hc : chk k1 k2 k3 k4 C n1 s1 s2 x L = 0) (hC : C ≤ 18446744073709551615) (hL : ∀ y ∈ L, okE y) (hP : PM h0 k1.toNat (inI k2 k3 k4 C n1 s1 s2 ok x L) s v h') :
    PQ h0 k1 k2 k3 k4 C n1 s1 s2 ok x L (dn [] (exE (inI k2 k3 k4 C n1 s1 s2 ok x L) s 0)) v h' := by
  obtain ⟨a1, a2, a3, a4, a5, a6, a7, a8, a9, a10, a11, a12⟩ := chk_zero _ _ _ _ _ _ _ _ ok _ _ hc
  have b3 := of_decide_eq_true a5
  have e : inI k2 k3 k4 C n1 s1 s2 ok x L = encN k2 ++ (encN k3 ++ (encN k4 ++ (encU C ++ (encN n1 ++ (encN s1 ++ (encN s2 ++ (encB ok ++ (encS x ++ (encN (L.length : Int) ++ (L.flatMap enE ++ [])))))))))) := by
    unfold inI hdI
    simp only [List.append_assoc, List.append_nil]
  obtain ⟨IN, hIN⟩ : ∃ z, inI k2 k3 k4 C n1 s1 s2 ok x L = z := ⟨_, rfl⟩
  rw [hIN] at hP e ⊢
  unfold PM at hP
  rw [show tN IN 0 11 = tN (encN k2 ++ (encN k3 ++ (encN k4 ++ (encU C ++ (encN n1 ++ (encN s1 ++ (encN s2 ++ (encB ok ++ (encS x ++ (encN (L.length : Int) ++ (L.flatMap enE ++ []))))))))))) 0 11 by rw [← e]] at hP
  have q8 := tS_enc' x (encN (L.length : Int) ++ (L.flatMap enE ++ [])) 131072 a8 (by omega)
  rw [show ((131072 : Nat) : Int) = 131072 from rfl] at q8
  simp only [tN_enc k2 11 (encN k3 ++ (encN k4 ++ (encU C ++ (encN n1 ++ (encN s1 ++ (encN s2 ++ (encB ok ++ (encS x ++ (encN (L.length : Int) ++ (L.flatMap enE ++ [])))))))))) (by omega) (by show k2.toNat ≤ 11; omega),
    tN_enc k3 11 (encN k4 ++ (encU C ++ (encN n1 ++ (encN s1 ++ (encN s2 ++ (encB ok ++ (encS x ++ (encN (L.length : Int) ++ (L.flatMap enE ++ []))))))))) (by omega) (by show k3.toNat ≤ 11; omega),
    tN_enc k4 3 (encU C ++ (encN n1 ++ (encN s1 ++ (encN s2 ++ (encB ok ++ (encS x ++ (encN (L.length : Int) ++ (L.flatMap enE ++ [])))))))) (by omega) (by show k4.toNat ≤ 3; omega),
    gB_enc' C n1 (encN s1 ++ (encN s2 ++ (encB ok ++ (encS x ++ (encN (L.length : Int) ++ (L.flatMap enE ++ [])))))) hC a5,
    tN_enc s1 1099511627776 (encN s2 ++ (encB ok ++ (encS x ++ (encN (L.length : Int) ++ (L.flatMap enE ++ []))))) (by omega) (by show s1.toNat ≤ 1099511627776; omega),
    tN_enc s2 1099511627776 (encB ok ++ (encS x ++ (encN (L.length : Int) ++ (L.flatMap enE ++ [])))) (by omega) (by show s2.toNat ≤ 1099511627776; omega),
    tB_enc ok (encS x ++ (encN (L.length : Int) ++ (L.flatMap enE ++ []))), q8,
    tN_enc (L.length : Int) 64 (L.flatMap enE ++ []) (by omega) (by show (L.length : Int).toNat ≤ 64; omega), Int.toNat_natCast,
    lpG_enc L (-1) [] a10 a11 a12 (fun y hy => (hL y hy).2.1),
    show ((k1.toNat : Nat) : Int) = k1 by omega, show ((k2.toNat : Nat) : Int) = k2 by omega, show ((k3.toNat : Nat) : Int) = k3 by omega, show ((k4.toNat : Nat) : Int) = k4 by omega, show ((n1.toNat : Nat) : Int) = n1 by omega, show ((s1.toNat : Nat) : Int) = s1 by omega, show ((s2.toNat : Nat) : Int) = s2 by omega] at hP
  exact hP
end Go.Proofs.YtgekngfnhhdamaaI
set_option linter.unusedVariables false
set_option linter.unusedSimpArgs false
set_option maxRecDepth 100000
set_option maxHeartbeats 4000000
namespace Go.Proofs.YtgekngfnhhdamaaI
open Go Go.Proofs.YtgekngfnhhdamaaM
attribute [local go_sem] aop ev fg_slc fg_slk fg_ptr fg_bool fg_int fg_str fg_iface fg_func fg_agg fg_tup fg_nils fg_nilp fg_nilI fg_nilF fg_und aboundsK alen_nils alen_slc alen_slk aslice_nils aslice_slc aslice_slk awanted abin aun aint aeqn aeqc aeqs apart abounds abnd amaxi amaxiGo cells_agg cells_slc cells_slk cells_ptr cells_bool cells_int cells_str cells_iface cells_func cells_tup cells_nils cells_nilp cells_nilI cells_nilF cells_und sc_slc sc_slk sc_ptr sc_bool sc_int sc_str sc_iface sc_func sc_nils sc_nilp sc_nilI sc_nilF gd_zero gd_succ List.all_cons List.all_nil Bool.and_self Bool.and_true Bool.true_and List.length_cons List.length_nil Option.map_some Option.some.injEq cell_same cell_ne cell_ne' cellsAt_same cellsAt_ne cellsAt_ne' put_same put_of set_same set_ne set_ne' List.getElem?_cons_zero List.getElem?_cons_succ if_true if_false and_self and_true true_and ne_eq not_true_eq_false not_false_eq_true decide_true decide_false Bool.false_eq_true Bool.true_eq_false beq_self_eq_true bne_self_eq_false beq_true beq_false Bool.not_true Bool.not_false List.map_cons List.map_nil putL List.set_cons_zero List.set_cons_succ afill Nat.zero_le Nat.le_refl Nat.zero_add Nat.add_zero List.drop_zero List.drop_succ_cons List.take_zero List.take_succ_cons Bool.not_eq_true Bool.not_eq_false decide_eq_true_eq decide_eq_false_iff_not Int.toNat_zero Nat.sub_zero Int.toNat_natCast Bool.bne_true Bool.bne_false AH.cell AH.cellsAt AH.put Nat.mul_one Nat.one_mul Int.natCast_nonneg List.length_set bs_append bs_size bs_toList bs_extract bs_get List.append_nil Nat.sub_zero bne_self_eq_false beq_self_eq_true azeros Int.le_refl
def Fa (h : AH) (S : AV) (L : List En) : Prop := S = .nils ∧ L = [] ∨ ∃ i, S = .slc i 0 L.length 4 ∧ h i = some ⟨false, L.flatMap eM⟩
theorem Fa.up {h h' : AH} {S : AV} {L : List En} (hP : Fa h S L) (hu : Up h h') : Fa h' S L := by
  rcases hP with h | ⟨i, h1, h2⟩
  · exact .inl h
  · exact .inr ⟨i, h1, hu _ _ h2⟩
end Go.Proofs.YtgekngfnhhdamaaI
set_option linter.unusedVariables false
set_option linter.unusedSimpArgs false
set_option maxRecDepth 100000
set_option maxHeartbeats 4000000
namespace Go.Proofs.YtgekngfnhhdamaaI
open Go Go.Proofs.YtgekngfnhhdamaaM
attribute [local go_sem] aop ev fg_slc fg_slk fg_ptr fg_bool fg_int fg_str fg_iface fg_func fg_agg fg_tup fg_nils fg_nilp fg_nilI fg_nilF fg_und aboundsK alen_nils alen_slc alen_slk aslice_nils aslice_slc aslice_slk awanted abin aun aint aeqn aeqc aeqs apart abounds abnd amaxi amaxiGo cells_agg cells_slc cells_slk cells_ptr cells_bool cells_int cells_str cells_iface cells_func cells_tup cells_nils cells_nilp cells_nilI cells_nilF cells_und sc_slc sc_slk sc_ptr sc_bool sc_int sc_str sc_iface sc_func sc_nils sc_nilp sc_nilI sc_nilF gd_zero gd_succ List.all_cons List.all_nil Bool.and_self Bool.and_true Bool.true_and List.length_cons List.length_nil Option.map_some Option.some.injEq cell_same cell_ne cell_ne' cellsAt_same cellsAt_ne cellsAt_ne' put_same put_of set_same set_ne set_ne' List.getElem?_cons_zero List.getElem?_cons_succ if_true if_false and_self and_true true_and ne_eq not_true_eq_false not_false_eq_true decide_true decide_false Bool.false_eq_true Bool.true_eq_false beq_self_eq_true bne_self_eq_false beq_true beq_false Bool.not_true Bool.not_false List.map_cons List.map_nil putL List.set_cons_zero List.set_cons_succ afill Nat.zero_le Nat.le_refl Nat.zero_add Nat.add_zero List.drop_zero List.drop_succ_cons List.take_zero List.take_succ_cons Bool.not_eq_true Bool.not_eq_false decide_eq_true_eq decide_eq_false_iff_not Int.toNat_zero Nat.sub_zero Int.toNat_natCast Bool.bne_true Bool.bne_false AH.cell AH.cellsAt AH.put Nat.mul_one Nat.one_mul Int.natCast_nonneg List.length_set aslice azeros bs_append bs_size bs_toList bs_extract bs_get List.cons_append List.nil_append List.append_nil AV.scalar Int.le_refl List.length_append
/-- Right -/
theorem sp34 (C : Nat) (n : Int) (h : AH) (hn : -9223372036854775808 ≤ n ∧ n ≤ 9223372036854775807) : Sp T 34 [.agg [.int .u64 C, .int .i64 n]] h (fun r h' => (∃ m : Int, r = .agg [.int .u64 C, .int .i64 m] ∧ 0 ≤ m ∧ m ≤ 11 ∧ (C = 0 → m = 0)) ∧ Up h h') := by
  have hu0 := Up.refl h
  have a1 : -12 < n.tmod 12 ∧ n.tmod 12 < 12 := ⟨by have := Int.lt_tmod_of_pos n (by decide : (0 : Int) < 12); omega, Int.tmod_lt_of_pos n (by decide)⟩
  obtain ⟨u, hu⟩ : ∃ u, n.tmod 12 = u := ⟨_, rfl⟩
  rw [hu] at a1
  have w1 : IntKind.i64.wrap (u + 12) = u + 12 := wrap64 (by omega) (by omega)
  have b1 : 0 ≤ (u + 12).tmod 12 := Int.tmod_nonneg _ (by omega)
  have b2 : (u + 12).tmod 12 < 12 := Int.tmod_lt_of_pos _ (by decide)
  obtain ⟨m, hm⟩ : ∃ m, (u + 12).tmod 12 = m := ⟨_, rfl⟩
  rw [hm] at b1 b2
  by_cases c : C = 0
  · have c' : ((C : Int) == 0) = true := by simp [c]
    refine Sp_of (fn := f34) rfl (show W T b34 [.agg [.int .u64 C, .int .i64 n], .tup [], .tup [], .tup [], .tup [], .tup [], .tup [], .tup [], .tup [], .tup [], .tup [], .tup [], .tup [], .tup []] _ _ from ?_)
    unfold b34
    repeat' (first
      | (refine wNil ?_) | (refine xPure ?_)
      | (refine xMk ?_; intro id hid; (try simp only [set_none_iff] at hid); have hz := hid; (repeat (replace hz := hz.2)); (try have := Up.none hu0 hz); refine mkDo ?_)
      | (refine xChk ?_) | (refine xChkF ?_) | (refine xSkip ?_)
      | (refine cSeq ?_) | (refine cNorm ?_) | (refine cRet ?_) | (refine cExit ?_) | (refine W_reg rfl ?_) | (refine W_block ?_) | (refine W_ret ?_) | (refine W_skip ?_) | (refine W_exit ?_) | (refine bNorm ?_) | (refine bRet ?_) | (refine bExit ?_) | (refine bExitN rfl ?_)
      | (refine xMask ?_) | (refine xT ?_) | (refine xF ?_) | (refine xRet ?_) | (refine xNorm ?_)
      | (refine wSplit _ rfl (by (first | (simp only [go_sem, *]; (first | done | exact rfl)) | rfl)) ?_ ?_ <;> intro hb <;> (try simp only [beq_false, beq_true, Bool.not_true, Bool.not_false, Bool.not_eq_true', Bool.not_eq_false', decide_eq_false_iff_not, decide_eq_true_eq, bne_iff_ne, beq_iff_eq, Bool.true_eq, Bool.false_eq, Bool.not_not, Bool.and_eq_true, Bool.or_eq_true, Bool.bne_true, Bool.bne_false, bne_eq_false_iff_eq, beq_eq_false_iff_ne, ne_eq] at hb))
      | (refine W_cond _ (by (first | (simp only [go_sem, *]; (first | done | exact rfl)) | rfl)) ?_ ?_ <;> intro hb <;> (try simp only [beq_false, beq_true, Bool.not_true, Bool.not_false, Bool.not_eq_true', Bool.not_eq_false', decide_eq_false_iff_not, decide_eq_true_eq, bne_iff_ne, beq_iff_eq, Bool.true_eq, Bool.false_eq, Bool.not_not, Bool.and_eq_true, Bool.or_eq_true, Bool.bne_true, Bool.bne_false, bne_eq_false_iff_eq, beq_eq_false_iff_ne, ne_eq] at hb)))
    all_goals (refine ⟨[.agg [.int .u64 C, .int .i64 0]], (by simp [ares, ares1, f34, ev, AH.cellsAt, AH.cell, set_same, set_ne', *]), ⟨0, rfl, by decide, by decide, fun _ => rfl⟩, (by repeat' (first | assumption | exact Up.refl _ | refine Up.new ?_ ?_))⟩)
  · have c' : ((C : Int) == 0) = false := by simp; omega
    refine Sp_of (fn := f34) rfl (show W T b34 [.agg [.int .u64 C, .int .i64 n], .tup [], .tup [], .tup [], .tup [], .tup [], .tup [], .tup [], .tup [], .tup [], .tup [], .tup [], .tup [], .tup []] _ _ from ?_)
    unfold b34
    repeat' (first
      | (refine wNil ?_) | (refine xPure ?_)
      | (refine xMk ?_; intro id hid; (try simp only [set_none_iff] at hid); have hz := hid; (repeat (replace hz := hz.2)); (try have := Up.none hu0 hz); refine mkDo ?_)
      | (refine xChk ?_) | (refine xChkF ?_) | (refine xSkip ?_)
      | (refine cSeq ?_) | (refine cNorm ?_) | (refine cRet ?_) | (refine cExit ?_) | (refine W_reg rfl ?_) | (refine W_block ?_) | (refine W_ret ?_) | (refine W_skip ?_) | (refine W_exit ?_) | (refine bNorm ?_) | (refine bRet ?_) | (refine bExit ?_) | (refine bExitN rfl ?_)
      | (refine xMask ?_) | (refine xT ?_) | (refine xF ?_) | (refine xRet ?_) | (refine xNorm ?_)
      | (refine wSplit _ rfl (by (first | (simp only [go_sem, *]; (first | done | exact rfl)) | rfl)) ?_ ?_ <;> intro hb <;> (try simp only [beq_false, beq_true, Bool.not_true, Bool.not_false, Bool.not_eq_true', Bool.not_eq_false', decide_eq_false_iff_not, decide_eq_true_eq, bne_iff_ne, beq_iff_eq, Bool.true_eq, Bool.false_eq, Bool.not_not, Bool.and_eq_true, Bool.or_eq_true, Bool.bne_true, Bool.bne_false, bne_eq_false_iff_eq, beq_eq_false_iff_ne, ne_eq] at hb))
      | (refine W_cond _ (by (first | (simp only [go_sem, *]; (first | done | exact rfl)) | rfl)) ?_ ?_ <;> intro hb <;> (try simp only [beq_false, beq_true, Bool.not_true, Bool.not_false, Bool.not_eq_true', Bool.not_eq_false', decide_eq_false_iff_not, decide_eq_true_eq, bne_iff_ne, beq_iff_eq, Bool.true_eq, Bool.false_eq, Bool.not_not, Bool.and_eq_true, Bool.or_eq_true, Bool.bne_true, Bool.bne_false, bne_eq_false_iff_eq, beq_eq_false_iff_ne, ne_eq] at hb)))
    all_goals (refine ⟨[.agg [.int .u64 C, .int .i64 m]], (by simp [ares, ares1, f34, ev, AH.cellsAt, AH.cell, set_same, set_ne', *]), ⟨m, rfl, b1, by omega, fun h => absurd h c⟩, (by repeat' (first | assumption | exact Up.refl _ | refine Up.new ?_ ?_))⟩)
end Go.Proofs.YtgekngfnhhdamaaI
set_option linter.unusedVariables false
set_option linter.unusedSimpArgs false
set_option maxRecDepth 100000
set_option maxHeartbeats 4000000
namespace Go.Proofs.YtgekngfnhhdamaaI
open Go Go.Proofs.YtgekngfnhhdamaaM
attribute [local go_sem] aop ev fg_slc fg_slk fg_ptr fg_bool fg_int fg_str fg_iface fg_func fg_agg fg_tup fg_nils fg_nilp fg_nilI fg_nilF fg_und aboundsK alen_nils alen_slc alen_slk aslice_nils aslice_slc aslice_slk awanted abin aun aint aeqn aeqc aeqs apart abounds abnd amaxi amaxiGo cells_agg cells_slc cells_slk cells_ptr cells_bool cells_int cells_str cells_iface cells_func cells_tup cells_nils cells_nilp cells_nilI cells_nilF cells_und sc_slc sc_slk sc_ptr sc_bool sc_int sc_str sc_iface sc_func sc_nils sc_nilp sc_nilI sc_nilF gd_zero gd_succ List.all_cons List.all_nil Bool.and_self Bool.and_true Bool.true_and List.length_cons List.length_nil Option.map_some Option.some.injEq cell_same cell_ne cell_ne' cellsAt_same cellsAt_ne cellsAt_ne' put_same put_of set_same set_ne set_ne' List.getElem?_cons_zero List.getElem?_cons_succ if_true if_false and_self and_true true_and ne_eq not_true_eq_false not_false_eq_true decide_true decide_false Bool.false_eq_true Bool.true_eq_false beq_self_eq_true bne_self_eq_false beq_true beq_false Bool.not_true Bool.not_false List.map_cons List.map_nil putL List.set_cons_zero List.set_cons_succ afill Nat.zero_le Nat.le_refl Nat.zero_add Nat.add_zero List.drop_zero List.drop_succ_cons List.take_zero List.take_succ_cons Bool.not_eq_true Bool.not_eq_false decide_eq_true_eq decide_eq_false_iff_not Int.toNat_zero Nat.sub_zero Int.toNat_natCast Bool.bne_true Bool.bne_false AH.cell AH.cellsAt AH.put Nat.mul_one Nat.one_mul Int.natCast_nonneg List.length_set bs_append bs_size bs_toList bs_extract bs_get List.append_nil Nat.sub_zero bne_self_eq_false beq_self_eq_true azeros Int.le_refl
theorem and_mask (x : Int) (m : Nat) (hm : m < 9223372036854775808) : ∃ z : Int, absBits .and .i64 x (m : Int) = some z ∧ 0 ≤ z ∧ z ≤ m := by
  refine ⟨((BitVec.ofInt 64 x &&& BitVec.ofInt 64 (m : Int)).toNat : Int), ?_, by omega, ?_⟩
  · show some (IntKind.i64.wrap ((BitVec.ofInt 64 x &&& BitVec.ofInt 64 (m : Int)).toNat : Int)) = _
    have e2 : (BitVec.ofInt 64 (m : Int)).toNat = m := by rw [BitVec.ofInt_natCast, BitVec.toNat_ofNat]; omega
    have : (BitVec.ofInt 64 x &&& BitVec.ofInt 64 (m : Int)).toNat ≤ m := by rw [BitVec.toNat_and, e2]; exact Nat.and_le_right
    rw [wrap64 (by omega) (by omega)]
  · have e2 : (BitVec.ofInt 64 (m : Int)).toNat = m := by rw [BitVec.ofInt_natCast, BitVec.toNat_ofNat]; omega
    have : (BitVec.ofInt 64 x &&& BitVec.ofInt 64 (m : Int)).toNat ≤ m := by rw [BitVec.toNat_and, e2]; exact Nat.and_le_right
    omega
theorem set_at {P R : List AV} {n : Nat} (hn : P.length = n) (c0 c1 c2 c3 a : AV) : (P ++ (c0 :: c1 :: c2 :: c3 :: R)).set n a = (P ++ (a :: c1 :: c2 :: c3 :: R)) ∧ (P ++ (c0 :: c1 :: c2 :: c3 :: R)).set (n + 1) a = (P ++ (c0 :: a :: c2 :: c3 :: R)) ∧ (P ++ (c0 :: c1 :: c2 :: c3 :: R)).set (n + 1 + 1) a = (P ++ (c0 :: c1 :: a :: c3 :: R)) ∧ (P ++ (c0 :: c1 :: c2 :: c3 :: R)).set (n + 3) a = (P ++ (c0 :: c1 :: c2 :: a :: R)) := by
  subst hn
  refine ⟨?_, ?_, ?_, ?_⟩
  all_goals (rw [List.set_append_right _ _ (by omega)])
  · rw [Nat.sub_self]; rfl
  · rw [Nat.add_sub_cancel_left]; rfl
  · rw [Nat.add_assoc, Nat.add_sub_cancel_left]; rfl
  · rw [Nat.add_sub_cancel_left]; rfl
theorem get_at {P R : List AV} {n : Nat} (hn : P.length = n) (c0 c1 c2 c3 : AV) : (P ++ (c0 :: c1 :: c2 :: c3 :: R))[n]? = some c0 ∧ (P ++ (c0 :: c1 :: c2 :: c3 :: R))[n + 3]? = some c3 ∧ ((P ++ (c0 :: c1 :: c2 :: c3 :: R)).drop (n + 1)).take 2 = [c1, c2] := by
  subst hn
  refine ⟨?_, ?_, ?_⟩
  · rw [List.getElem?_append_right (by omega), Nat.sub_self]; rfl
  · rw [List.getElem?_append_right (by omega), Nat.add_sub_cancel_left]; rfl
  · rw [List.drop_append, Nat.add_sub_cancel_left, List.drop_of_length_le (by omega)]; rfl
theorem len_at {P R : List AV} {n : Nat} (hn : P.length = n) (c0 c1 c2 c3 : AV) : n + 1 ≤ (P ++ (c0 :: c1 :: c2 :: c3 :: R)).length ∧ n + 1 + 2 ≤ (P ++ (c0 :: c1 :: c2 :: c3 :: R)).length ∧ n + 3 + 1 ≤ (P ++ (c0 :: c1 :: c2 :: c3 :: R)).length := by
  subst hn
  simp only [List.length_append, List.length_cons]
  omega
/-- As Right leaves them. -/
def Rt (A : List En) : Prop := ∀ (i : Nat) (y : En), A[i]? = some y → (1000 * ((i : Nat) : Int) ≤ y.1 ∧ y.1 ≤ 1000 * (i : Int) + 999) ∧ snd y.2.1 y.2.2.1 = true ∧ y.2.2.2.length ≤ 400 ∧ y.2.1 ≤ 18446744073709551615
theorem Rt.snoc {A : List En} {y : En} (hA : Rt A) (hy : (1000 * (A.length : Int) ≤ y.1 ∧ y.1 ≤ 1000 * (A.length : Int) + 999) ∧ snd y.2.1 y.2.2.1 = true ∧ y.2.2.2.length ≤ 400 ∧ y.2.1 ≤ 18446744073709551615) : Rt (A ++ [y]) := by
  intro i z hz
  by_cases hi : i < A.length
  · rw [List.getElem?_append_left hi] at hz; exact hA i z hz
  · rw [List.getElem?_append_right (by omega)] at hz
    have hi0 : i - A.length = 0 := by
      cases e : i - A.length with
      | zero => rfl
      | succ n => rw [e] at hz; simp at hz
    obtain rfl : i = A.length := by omega
    rw [hi0] at hz
    obtain rfl : y = z := by simpa using hz
    exact hy
theorem ris_of : ∀ (A : List En) (o : Nat) (last : Int), last < 1000 * (o : Int) → (∀ (i : Nat) (y : En), A[i]? = some y → 1000 * ((i + o : Nat) : Int) ≤ y.1 ∧ y.1 ≤ 1000 * ((i + o : Nat) : Int) + 999) → ris last A = true
  | [], _, _, _, _ => rfl
  | y :: A, o, last, hl, h => by
    obtain ⟨h0, h1⟩ := h 0 y rfl
    rw [Nat.zero_add] at h0 h1
    rw [ris, decide_eq_true (by omega), Bool.true_and]
    refine ris_of A (o + 1) y.1 (by omega) (fun i z hz => ?_)
    have := h (i + 1) z hz
    rw [show i + (o + 1) = i + 1 + o by omega]; exact this
theorem Rt.mem {A : List En} (hA : Rt A) (hl : A.length ≤ 64) : ∀ y ∈ A, (0 ≤ y.1 ∧ y.1 ≤ 1000000) ∧ snd y.2.1 y.2.2.1 = true ∧ y.2.2.2.length ≤ 400 ∧ y.2.1 ≤ 18446744073709551615 := by
  intro y hy
  obtain ⟨i, hi⟩ := List.getElem?_of_mem hy
  have hil : i < A.length := (List.getElem?_eq_some_iff.1 hi).1
  obtain ⟨⟨a, b⟩, c⟩ := hA i y hi
  exact ⟨⟨by omega, by omega⟩, c⟩
theorem chk_right (k1 k2 k3 k4 : Int) (C : Nat) (n1 s1 s2 : Int) (ok : Bool) (x : List UInt8) (A : List En) (a1 : 1 ≤ k1 ∧ k1 ≤ 13) (a2 : 0 ≤ k2 ∧ k2 ≤ 11) (a3 : 0 ≤ k3 ∧ k3 ≤ 11) (a4 : 0 ≤ k4 ∧ k4 ≤ 3) (a5 : snd C n1 = true) (a6 : 0 ≤ s1 ∧ s1 ≤ 1099511627776) (a7 : 0 ≤ s2 ∧ s2 ≤ 1099511627776) (hx : x.length ≤ 131072) (hA : Rt A) (hl : A.length ≤ 64) : chk k1 k2 k3 k4 C n1 s1 s2 x A = 0 := by
  have hm := hA.mem hl
  unfold chk r1 r2 r3 r4
  rw [decide_eq_true a1, decide_eq_true a2, decide_eq_true a3, decide_eq_true a4, a5, decide_eq_true a6, decide_eq_true a7]
  have e1 : A.all p2 = true := List.all_eq_true.2 fun y hy => by
    obtain ⟨⟨b1, b2⟩, b3, _⟩ := hm y hy
    unfold p2
    rw [b3, decide_eq_true (by omega)]; rfl
  have e2 : A.all p4 = true := List.all_eq_true.2 fun y hy => decide_eq_true (hm y hy).2.2.1
  have e3 : ris (-1) A = true := ris_of A 0 (-1) (by decide) (fun i y hy => (hA i y hy).1)
  rw [e1, e2, e3]
  simp only [if_true, hx, hl, and_self]
theorem Rt.ok {A : List En} (hA : Rt A) (hl : A.length ≤ 64) : ∀ y ∈ A, okE y := by
  intro y hy
  obtain ⟨⟨b1, b2⟩, b3, b4, b5⟩ := hA.mem hl y hy
  have := snd_rg b3
  unfold rgN at this
  exact ⟨by omega, b5, by omega, by omega⟩
def L54c : ICode := (.seq (.block 0 (.loop (.seq (.mask [1, 2, 52, 53]) (.seq (.reg [(0, false)] r54_9)
 (.seq (.cond (.t 54) .skip
 (.exit 0))
 (.seq (.seq (.block 1 (.seq (.reg [(0, false), (1, false)] r54_10)
 (.seq (.reg [(0, false), (1, false), (2, false), (3, false), (4, false)] r54_11)
 (.seq (.reg [(0, false), (1, false), (2, false), (3, false), (4, false), (5, false), (6, false), (7, false), (8, false), (9, false), (10, false), (11, false), (12, false)] r54_12)
 (.seq (.reg [(0, false), (1, false), (2, false), (3, false), (4, false), (5, false), (6, false), (7, false), (8, false)] r54_13)
 (.reg [(0, false), (1, false), (2, false), (3, false), (4, false), (5, false), (6, false), (7, false), (8, false)] r54_14)))))) (.mask [1, 2, 52, 53]))
 (.reg [(0, false), (1, false)] r54_15))))))) (.mask [1, 2]))
def R54c : ICode := (.seq (.reg [(0, false), (1, false)] r54_16)
 .ret)
theorem loop54 (k1 k2 k3 k4 : Int) (C : Nat) (n1 s1 s2 : Int) (ok : Bool) (x : List UInt8) (Sx : AV) (L0 : List En) (rest : List AV) (h g : AH) (b1 b2 ia : List Nat) (hfg : Sx.fg = .slc ia 0 L0.length 4) (hsc : Sx.scalar = true) (hcl : Sx.cells = [Sx]) (hl : L0.length ≤ 60) (hL : ∀ y ∈ L0, y.2.1 ≤ 18446744073709551615 ∧ -9223372036854775808 ≤ y.2.2.1 ∧ y.2.2.1 ≤ 9223372036854775807)
    (hU : Up h g) (hia : h ia = none) (h1n : h b1 = none) (h2n : h b2 = none) (nb1 : b1 ≠ ia) (nb2 : b2 ≠ ia) (n12 : b1 ≠ b2) (hb1 : g b1 = some ⟨true, [.int .i64 k1, .int .i64 k2, .int .i64 k3, .int .i64 k4, .int .u64 (C : Int), .int .i64 n1, .int .i64 s1, .int .i64 s2, .bool ok, .str (bs x), Sx]⟩) (hb2 : g b2 = some ⟨true, [.int .i64 0, .int .i64 0, .int .i64 0, .int .i64 0, .int .u64 0, .int .i64 0, .int .i64 0, .int .i64 0, .bool false, .str ⟨#[]⟩, .nils]⟩) (ha : g ia = some ⟨true, L0.flatMap eM ++ rest⟩)
    (Q : AV → AH → Prop) (hQ : ∀ (g' : AH) (A : List En), A.length = L0.length → Rt A → Up h g' → g' ia = some ⟨true, A.flatMap eM ++ rest⟩ → Q (.agg [.int .i64 k1, .int .i64 k2, .int .i64 k3, .int .i64 k4, .int .u64 (C : Int), .int .i64 n1, .int .i64 s1, .int .i64 s2, .bool ok, .str (bs x), Sx]) g') (tm : List AV) (htm : keep [1, 2, 52, 53] 0 tm = [.und, .ptr b1 0, .ptr b2 0, .und, .und, .und, .und, .und, .und, .und, .und, .und, .und, .und, .und, .und, .und, .und, .und, .und, .und, .und, .und, .und, .und, .und, .und, .und, .und, .und, .und, .und, .und, .und, .und, .und, .und, .und, .und, .und, .und, .und, .und, .und, .und, .und, .und, .und, .und, .und, .und, .und, .int .i64 (L0.length : Int), .int .i64 0, .und, .und, .und, .und, .und, .und, .und, .und, .und, .und, .und, .und, .und, .und, .und, .und, .und, .und, .und, .und, .und, .und, .und, .und, .und, .und, .und, .und, .und, .und, .und, .und, .und, .und, .und, .und]) :
    W T L54c tm g (Then (fun tm' h' => W T R54c tm' h' (Rets f54 Q)) (Rets f54 Q)) := by
  unfold L54c
  refine cSeq ?_
  refine W_block ?_
  refine W_loop (fun m tm g => ∃ (k : Nat) (A : List En), k + m = L0.length ∧ A.length = k ∧ Rt A ∧ Up h g ∧ g b1 = some ⟨true, [.int .i64 k1, .int .i64 k2, .int .i64 k3, .int .i64 k4, .int .u64 (C : Int), .int .i64 n1, .int .i64 s1, .int .i64 s2, .bool ok, .str (bs x), Sx]⟩ ∧ g b2 = some ⟨true, [.int .i64 0, .int .i64 0, .int .i64 0, .int .i64 0, .int .u64 0, .int .i64 0, .int .i64 0, .int .i64 0, .bool false, .str ⟨#[]⟩, .nils]⟩ ∧ g ia = some ⟨true, A.flatMap eM ++ ((L0.drop k).flatMap eM ++ rest)⟩ ∧ keep [1, 2, 52, 53] 0 tm = [.und, .ptr b1 0, .ptr b2 0, .und, .und, .und, .und, .und, .und, .und, .und, .und, .und, .und, .und, .und, .und, .und, .und, .und, .und, .und, .und, .und, .und, .und, .und, .und, .und, .und, .und, .und, .und, .und, .und, .und, .und, .und, .und, .und, .und, .und, .und, .und, .und, .und, .und, .und, .und, .und, .und, .und, .int .i64 (L0.length : Int), .int .i64 (k : Int), .und, .und, .und, .und, .und, .und, .und, .und, .und, .und, .und, .und, .und, .und, .und, .und, .und, .und, .und, .und, .und, .und, .und, .und, .und, .und, .und, .und, .und, .und, .und, .und, .und, .und, .und, .und]) L0.length ⟨0, [], by omega, rfl, (fun i y hy => by simp at hy), hU, hb1, hb2, by simpa using ha, htm⟩ ?_
  clear htm ha hb1 hb2 hU
  rintro m tm g ⟨k, A, hk, hA, hR, hU, hb1, hb2, ha, htm⟩
  refine cSeq (cMask (cNorm ?_))
  rw [htm]; clear htm
  by_cases hkl : k < L0.length
  · have d1 : (k : Int) < (L0.length : Int) := by omega
    have d2 : (0 : Int) ≤ (k : Int) := by omega
    have w1 : IntKind.i64.wrap ((k : Int) + 1) = ((k + 1 : Nat) : Int) := by rw [wrap64 (by omega) (by omega)]; rfl
    have w2 : IntKind.i64.wrap (1000 * (k : Int)) = 1000 * (k : Int) := wrap64 (by omega) (by omega)
    obtain ⟨⟨y1, y2, y3, y4⟩, hy⟩ : ∃ y, L0[k]? = some y := ⟨_, List.getElem?_eq_getElem hkl⟩
    have hdr : L0.drop k = (y1, y2, y3, y4) :: L0.drop (k + 1) := by rw [List.drop_eq_getElem_cons hkl, (List.getElem?_eq_some_iff.1 hy).2]
    obtain ⟨c2, c3⟩ := hL _ (List.mem_of_getElem? hy)
    simp only at c2 c3
    obtain ⟨z, hz1, hz2, hz3⟩ := and_mask y1 65535 (by decide)
    rw [show ((65535 : Nat) : Int) = 65535 from rfl] at hz1
    have w3 : 0 ≤ z.tmod 1000 := Int.tmod_nonneg _ (by omega)
    have w4 : z.tmod 1000 < 1000 := Int.tmod_lt_of_pos _ (by decide)
    obtain ⟨u, hzu⟩ : ∃ u, z.tmod 1000 = u := ⟨_, rfl⟩
    rw [hzu] at w3 w4
    have w5 : IntKind.i64.wrap (1000 * (k : Int) + u) = 1000 * (k : Int) + u := wrap64 (by omega) (by omega)
    have hPl : (A.flatMap eM).length = k * 4 := by rw [flat_len eMz, hA]
    obtain ⟨P, hP⟩ : ∃ P, A.flatMap eM = P := ⟨_, rfl⟩
    obtain ⟨R, hRr⟩ : ∃ R, (L0.drop (k + 1)).flatMap eM ++ rest = R := ⟨_, rfl⟩
    have hc : (L0.drop k).flatMap eM ++ rest = .int .i64 y1 :: .int .u64 (y2 : Int) :: .int .i64 y3 :: .str (bs y4) :: R := by rw [hdr, ← hRr, List.flatMap_cons]; rfl
    rw [hc, hP] at ha
    rw [hP] at hPl
    have s1 : ∀ c0 c1 c2 c3 a, (P ++ (c0 :: c1 :: c2 :: c3 :: R)).set (k * 4) a = (P ++ (a :: c1 :: c2 :: c3 :: R)) := fun c0 c1 c2 c3 a => (set_at hPl c0 c1 c2 c3 a).1
    have s2 : ∀ c0 c1 c2 c3 a, (P ++ (c0 :: c1 :: c2 :: c3 :: R)).set (k * 4 + 1) a = (P ++ (c0 :: a :: c2 :: c3 :: R)) := fun c0 c1 c2 c3 a => (set_at hPl c0 c1 c2 c3 a).2.1
    have s3 : ∀ c0 c1 c2 c3 a, (P ++ (c0 :: c1 :: c2 :: c3 :: R)).set (k * 4 + 1 + 1) a = (P ++ (c0 :: c1 :: a :: c3 :: R)) := fun c0 c1 c2 c3 a => (set_at hPl c0 c1 c2 c3 a).2.2.1
    have s4 : ∀ c0 c1 c2 c3 a, (P ++ (c0 :: c1 :: c2 :: c3 :: R)).set (k * 4 + 3) a = (P ++ (c0 :: c1 :: c2 :: a :: R)) := fun c0 c1 c2 c3 a => (set_at hPl c0 c1 c2 c3 a).2.2.2
    have t1 : ∀ c0 c1 c2 c3, (P ++ (c0 :: c1 :: c2 :: c3 :: R))[k * 4]? = some c0 := fun c0 c1 c2 c3 => (get_at hPl c0 c1 c2 c3).1
    have t2 : ∀ c0 c1 c2 c3, (P ++ (c0 :: c1 :: c2 :: c3 :: R))[k * 4 + 3]? = some c3 := fun c0 c1 c2 c3 => (get_at hPl c0 c1 c2 c3).2.1
    have t3 : ∀ c0 c1 c2 c3, ((P ++ (c0 :: c1 :: c2 :: c3 :: R)).drop (k * 4 + 1)).take 2 = [c1, c2] := fun c0 c1 c2 c3 => (get_at hPl c0 c1 c2 c3).2.2
    have u1 : ∀ c0 c1 c2 c3, k * 4 + 1 ≤ (P ++ (c0 :: c1 :: c2 :: c3 :: R)).length := fun c0 c1 c2 c3 => (len_at hPl c0 c1 c2 c3).1
    have u2 : ∀ c0 c1 c2 c3, k * 4 + 1 + 2 ≤ (P ++ (c0 :: c1 :: c2 :: c3 :: R)).length := fun c0 c1 c2 c3 => (len_at hPl c0 c1 c2 c3).2.1
    have u3 : ∀ c0 c1 c2 c3, k * 4 + 3 + 1 ≤ (P ++ (c0 :: c1 :: c2 :: c3 :: R)).length := fun c0 c1 c2 c3 => (len_at hPl c0 c1 c2 c3).2.2
    have hRt : ∀ m3 : Int, 0 ≤ m3 → m3 ≤ 11 → (y2 = 0 → m3 = 0) → Rt (A ++ [(1000 * (k : Int) + u, y2, m3, y4.take 400)]) := fun m3 m1 m2 mz => hR.snoc ⟨by rw [hA]; exact ⟨by show _ ≤ 1000 * (k : Int) + u; omega, by show 1000 * (k : Int) + u ≤ _; omega⟩, decide_eq_true ⟨⟨m1, m2⟩, by by_cases e : y2 = 0; exact .inl (mz e); exact .inr (Nat.pos_of_ne_zero e)⟩, by show (y4.take 400).length ≤ 400; rw [List.length_take]; omega, c2⟩
    have hcell : ∀ m3 : Int, (A ++ [(1000 * (k : Int) + u, y2, m3, y4.take 400)]).flatMap eM ++ ((L0.drop (k + 1)).flatMap eM ++ rest) = P ++ (.int .i64 (1000 * (k : Int) + u) :: .int .u64 (y2 : Int) :: .int .i64 m3 :: .str (bs (y4.take 400)) :: R) := fun m3 => by rw [List.flatMap_append, hP, hRr, List.append_assoc]; rfl
    have hlen : (A ++ [(1000 * (k : Int) + u, y2, (0 : Int), y4.take 400)]).length = k + 1 := by rw [List.length_append, hA]; rfl
    have hAl : Hid (A.length = k) := hA
    clear hdr hy hc hP hRr hPl hA hR hL hQ hz2 hz3
    repeat' (first
      | (refine wNil ?_) | (refine xPure ?_)
      | (refine xMk ?_; intro id hid; (try simp only [set_none_iff] at hid); refine mkDo ?_)
      | (refine xChk ?_) | (refine xChkF ?_) | (refine xSkip ?_)
      | (refine xCall rfl rfl (sp34 y2 y3 _ c3) ?_; rintro r g2 ⟨⟨m3, rfl, m1, m2, mz⟩, hu⟩; have ha2 := hu _ _ set_same; have hb12 := hu _ _ ((set_ne nb1).trans hb1); have hb22 := hu _ _ ((set_ne nb2).trans hb2); have HU2 : Up h g2 := fun z b e => hu z b (by rw [set_ne (nei e hia)]; exact hU z b e); clear hu; refine nTm ?_)
      | (refine xCall rfl rfl (cut16 y4 400 _) ?_; rintro r q3 ⟨rfl, hx⟩; cases hx; refine nTm ?_)
      | (refine cSeq ?_) | (refine cNorm ?_) | (refine cRet ?_) | (refine cExit ?_) | (refine W_reg rfl ?_) | (refine W_block ?_) | (refine W_ret ?_) | (refine W_skip ?_) | (refine W_exit ?_) | (refine bNorm ?_) | (refine bRet ?_) | (refine bExit ?_) | (refine bExitN rfl ?_)
      | (refine xMask ?_) | (refine xT ?_) | (refine xF ?_) | (refine xRet ?_) | (refine xNorm ?_)
      | (refine wSplit _ rfl (by (first | (simp only [go_sem, *]; (first | done | exact rfl)) | rfl)) ?_ ?_ <;> intro hb <;> (try simp only [beq_false, beq_true, Bool.not_true, Bool.not_false, Bool.not_eq_true', Bool.not_eq_false', decide_eq_false_iff_not, decide_eq_true_eq, bne_iff_ne, beq_iff_eq, Bool.true_eq, Bool.false_eq, Bool.not_not, Bool.and_eq_true, Bool.or_eq_true, Bool.bne_true, Bool.bne_false, bne_eq_false_iff_eq, beq_eq_false_iff_ne, ne_eq] at hb))
      | (refine W_cond _ (by (first | (simp only [go_sem, *]; (first | done | exact rfl)) | rfl)) ?_ ?_ <;> intro hb <;> (try simp only [beq_false, beq_true, Bool.not_true, Bool.not_false, Bool.not_eq_true', Bool.not_eq_false', decide_eq_false_iff_not, decide_eq_true_eq, bne_iff_ne, beq_iff_eq, Bool.true_eq, Bool.false_eq, Bool.not_not, Bool.and_eq_true, Bool.or_eq_true, Bool.bne_true, Bool.bne_false, bne_eq_false_iff_eq, beq_eq_false_iff_ne, ne_eq] at hb)))
    all_goals exact ⟨m - 1, by omega, k + 1, A ++ [(1000 * (k : Int) + u, y2, m3, y4.take 400)], by omega, by rw [List.length_append, show A.length = k from hAl]; rfl, hRt m3 m1 m2 mz, (fun z b e => by simp only [set_ne (nei e hia)]; exact HU2 z b e), by simp only [set_ne nb1]; exact hb12, by simp only [set_ne nb2]; exact hb22, by rw [set_same, hcell m3], by simp only [keep, List.contains_cons, List.contains_nil, Nat.reduceBEq, Bool.or_true, Bool.true_or, Bool.or_false, Bool.false_or, if_true, if_false, Bool.false_eq_true, beq_self_eq_true, Nat.zero_add, Nat.reduceAdd, eq_self]⟩
  · have d1 : ¬ (k : Int) < (L0.length : Int) := by omega
    rw [List.drop_of_length_le (by omega), List.flatMap_nil, List.nil_append] at ha
    unfold R54c
    repeat' (first
      | (refine wNil ?_) | (refine xPure ?_)
      | (refine xMk ?_; intro id hid; (try simp only [set_none_iff] at hid); refine mkDo ?_)
      | (refine xChk ?_) | (refine xChkF ?_) | (refine xSkip ?_)
      | (refine cSeq ?_) | (refine cNorm ?_) | (refine cRet ?_) | (refine cExit ?_) | (refine W_reg rfl ?_) | (refine W_block ?_) | (refine W_ret ?_) | (refine W_skip ?_) | (refine W_exit ?_) | (refine bNorm ?_) | (refine bRet ?_) | (refine bExit ?_) | (refine bExitN rfl ?_)
      | (refine xMask ?_) | (refine xT ?_) | (refine xF ?_) | (refine xRet ?_) | (refine xNorm ?_)
      | (refine wSplit _ rfl (by (first | (simp only [go_sem, *]; (first | done | exact rfl)) | rfl)) ?_ ?_ <;> intro hb <;> (try simp only [beq_false, beq_true, Bool.not_true, Bool.not_false, Bool.not_eq_true', Bool.not_eq_false', decide_eq_false_iff_not, decide_eq_true_eq, bne_iff_ne, beq_iff_eq, Bool.true_eq, Bool.false_eq, Bool.not_not, Bool.and_eq_true, Bool.or_eq_true, Bool.bne_true, Bool.bne_false, bne_eq_false_iff_eq, beq_eq_false_iff_ne, ne_eq] at hb))
      | (refine W_cond _ (by (first | (simp only [go_sem, *]; (first | done | exact rfl)) | rfl)) ?_ ?_ <;> intro hb <;> (try simp only [beq_false, beq_true, Bool.not_true, Bool.not_false, Bool.not_eq_true', Bool.not_eq_false', decide_eq_false_iff_not, decide_eq_true_eq, bne_iff_ne, beq_iff_eq, Bool.true_eq, Bool.false_eq, Bool.not_not, Bool.and_eq_true, Bool.or_eq_true, Bool.bne_true, Bool.bne_false, bne_eq_false_iff_eq, beq_eq_false_iff_ne, ne_eq] at hb)))
    all_goals (refine ⟨[.agg [.int .i64 k1, .int .i64 k2, .int .i64 k3, .int .i64 k4, .int .u64 (C : Int), .int .i64 n1, .int .i64 s1, .int .i64 s2, .bool ok, .str (bs x), Sx]], (by simp [ares, ares1, f54, ev, AH.cellsAt, AH.cell, set_same, set_ne', *]), hQ _ A (by omega) hR (Up.new hU h2n) (by rw [set_ne (Ne.symm nb2)]; exact ha)⟩)
end Go.Proofs.YtgekngfnhhdamaaI
set_option linter.unusedVariables false
set_option linter.unusedSimpArgs false
set_option maxRecDepth 100000
set_option maxHeartbeats 4000000
namespace Go.Proofs.YtgekngfnhhdamaaI
open Go Go.Proofs.YtgekngfnhhdamaaM
attribute [local go_sem] aop ev fg_slc fg_slk fg_ptr fg_bool fg_int fg_str fg_iface fg_func fg_agg fg_tup fg_nils fg_nilp fg_nilI fg_nilF fg_und aboundsK alen_nils alen_slc alen_slk aslice_nils aslice_slc aslice_slk awanted abin aun aint aeqn aeqc aeqs apart abounds abnd amaxi amaxiGo cells_agg cells_slc cells_slk cells_ptr cells_bool cells_int cells_str cells_iface cells_func cells_tup cells_nils cells_nilp cells_nilI cells_nilF cells_und sc_slc sc_slk sc_ptr sc_bool sc_int sc_str sc_iface sc_func sc_nils sc_nilp sc_nilI sc_nilF gd_zero gd_succ List.all_cons List.all_nil Bool.and_self Bool.and_true Bool.true_and List.length_cons List.length_nil Option.map_some Option.some.injEq cell_same cell_ne cell_ne' cellsAt_same cellsAt_ne cellsAt_ne' put_same put_of set_same set_ne set_ne' List.getElem?_cons_zero List.getElem?_cons_succ if_true if_false and_self and_true true_and ne_eq not_true_eq_false not_false_eq_true decide_true decide_false Bool.false_eq_true Bool.true_eq_false beq_self_eq_true bne_self_eq_false beq_true beq_false Bool.not_true Bool.not_false List.map_cons List.map_nil putL List.set_cons_zero List.set_cons_succ afill Nat.zero_le Nat.le_refl Nat.zero_add Nat.add_zero List.drop_zero List.drop_succ_cons List.take_zero List.take_succ_cons Bool.not_eq_true Bool.not_eq_false decide_eq_true_eq decide_eq_false_iff_not Int.toNat_zero Nat.sub_zero Int.toNat_natCast Bool.bne_true Bool.bne_false AH.cell AH.cellsAt AH.put Nat.mul_one Nat.one_mul Int.natCast_nonneg List.length_set bs_append bs_size bs_toList bs_extract bs_get List.append_nil Nat.sub_zero bne_self_eq_false beq_self_eq_true azeros Int.le_refl
theorem two_none {h : AH} {a b c : List Nat} {x y : Blk} (e : ((h.set a (some x)).set b (some y)) c = none) : h c = none ∧ a ≠ c ∧ b ≠ c := by
  have n2 : c ≠ b := by rintro rfl; rw [set_same] at e; cases e
  rw [set_ne n2] at e
  have n1 : c ≠ a := by rintro rfl; rw [set_same] at e; cases e
  rw [set_ne n1] at e
  exact ⟨e, n1.symm, n2.symm⟩
theorem loop54n (k1 k2 k3 k4 : Int) (C : Nat) (n1 s1 s2 : Int) (ok : Bool) (x : List UInt8) (Sx : AV) (L0 : List En) (rest : List AV) (h g : AH) (b1 b2 ia : List Nat) (nL : Nat) (hnL : L0.length = nL) (hfg : Sx.fg = .slc ia 0 nL 4) (hsc : Sx.scalar = true) (hcl : Sx.cells = [Sx]) (hl : L0.length ≤ 60) (hL : ∀ y ∈ L0, y.2.1 ≤ 18446744073709551615 ∧ -9223372036854775808 ≤ y.2.2.1 ∧ y.2.2.1 ≤ 9223372036854775807)
    (hU : Up h g) (hia : h ia = none) (h1n : h b1 = none) (h2n : h b2 = none) (nb1 : b1 ≠ ia) (nb2 : b2 ≠ ia) (n12 : b1 ≠ b2) (hb1 : g b1 = some ⟨true, [.int .i64 k1, .int .i64 k2, .int .i64 k3, .int .i64 k4, .int .u64 (C : Int), .int .i64 n1, .int .i64 s1, .int .i64 s2, .bool ok, .str (bs x), Sx]⟩) (hb2 : g b2 = some ⟨true, [.int .i64 0, .int .i64 0, .int .i64 0, .int .i64 0, .int .u64 0, .int .i64 0, .int .i64 0, .int .i64 0, .bool false, .str ⟨#[]⟩, .nils]⟩) (ha : g ia = some ⟨true, L0.flatMap eM ++ rest⟩)
    (Q : AV → AH → Prop) (hQ : ∀ (g' : AH) (A : List En), A.length = L0.length → Rt A → Up h g' → g' ia = some ⟨true, A.flatMap eM ++ rest⟩ → Q (.agg [.int .i64 k1, .int .i64 k2, .int .i64 k3, .int .i64 k4, .int .u64 (C : Int), .int .i64 n1, .int .i64 s1, .int .i64 s2, .bool ok, .str (bs x), Sx]) g') (tm : List AV) (htm : keep [1, 2, 52, 53] 0 tm = [.und, .ptr b1 0, .ptr b2 0, .und, .und, .und, .und, .und, .und, .und, .und, .und, .und, .und, .und, .und, .und, .und, .und, .und, .und, .und, .und, .und, .und, .und, .und, .und, .und, .und, .und, .und, .und, .und, .und, .und, .und, .und, .und, .und, .und, .und, .und, .und, .und, .und, .und, .und, .und, .und, .und, .und, .int .i64 (nL : Int), .int .i64 0, .und, .und, .und, .und, .und, .und, .und, .und, .und, .und, .und, .und, .und, .und, .und, .und, .und, .und, .und, .und, .und, .und, .und, .und, .und, .und, .und, .und, .und, .und, .und, .und, .und, .und, .und, .und]) :
    W T L54c tm g (Then (fun tm' h' => W T R54c tm' h' (Rets f54 Q)) (Rets f54 Q)) := by
  subst hnL
  exact loop54 k1 k2 k3 k4 C n1 s1 s2 ok x Sx L0 rest h g b1 b2 ia hfg hsc hcl hl hL hU hia h1n h2n nb1 nb2 n12 hb1 hb2 ha Q hQ tm htm
/-- Right -/
theorem sp54 (k1 k2 k3 k4 : Int) (C : Nat) (n1 s1 s2 : Int) (ok : Bool) (x : List UInt8) (S : AV) (L : List En) (h : AH) (hS : Fa h S L) (hC : C ≤ 18446744073709551615) (hn1 : -9223372036854775808 ≤ n1 ∧ n1 ≤ 9223372036854775807) (hL : ∀ y ∈ L, y.2.1 ≤ 18446744073709551615 ∧ -9223372036854775808 ≤ y.2.2.1 ∧ y.2.2.1 ≤ 9223372036854775807) :
    Sp T 54 [.agg [.int .i64 k1, .int .i64 k2, .int .i64 k3, .int .i64 k4, .int .u64 (C : Int), .int .i64 n1, .int .i64 s1, .int .i64 s2, .bool ok, .str (bs x), S]] h (fun v h' => ∃ (k1' k2' k3' k4' : Int) (C' : Nat) (n1' s1' s2' : Int) (S' : AV) (L' : List En), v = .agg [.int .i64 k1', .int .i64 k2', .int .i64 k3', .int .i64 k4', .int .u64 (C' : Int), .int .i64 n1', .int .i64 s1', .int .i64 s2', .bool ok, .str (bs (x.take 300)), S'] ∧ chk k1' k2' k3' k4' C' n1' s1' s2' (x.take 300) L' = 0 ∧ C' ≤ 18446744073709551615 ∧ (∀ y ∈ L', okE y) ∧ Lg h' S' L' ∧ Up h h' ∧ ∀ b c y, h b = some c → Lg (h'.set b y) S' L') := by
  have hu0 := Up.refl h
  have sc : S.scalar = true := by rcases hS with ⟨rfl, _⟩ | ⟨i, rfl, _⟩ <;> rfl
  obtain ⟨u0, e0, f0, g0⟩ : ∃ u : Int, k1.tmod 13 = u ∧ -13 < u ∧ u < 13 := ⟨_, rfl, by have := Int.lt_tmod_of_pos k1 (by decide : (0 : Int) < 13); omega, Int.tmod_lt_of_pos k1 (by decide)⟩
  have w0 : IntKind.i64.wrap (u0 + 13) = u0 + 13 := wrap64 (by omega) (by omega)
  obtain ⟨v0, h0, l0, m0⟩ : ∃ v : Int, (u0 + 13).tmod 13 = v ∧ 0 ≤ v ∧ v < 13 := ⟨_, rfl, Int.tmod_nonneg _ (by omega), Int.tmod_lt_of_pos _ (by decide)⟩
  obtain ⟨u2, e2, f2, g2⟩ : ∃ u : Int, k2.tmod 12 = u ∧ -12 < u ∧ u < 12 := ⟨_, rfl, by have := Int.lt_tmod_of_pos k2 (by decide : (0 : Int) < 12); omega, Int.tmod_lt_of_pos k2 (by decide)⟩
  have w2 : IntKind.i64.wrap (u2 + 12) = u2 + 12 := wrap64 (by omega) (by omega)
  obtain ⟨v2, h2, l2, m2⟩ : ∃ v : Int, (u2 + 12).tmod 12 = v ∧ 0 ≤ v ∧ v < 12 := ⟨_, rfl, Int.tmod_nonneg _ (by omega), Int.tmod_lt_of_pos _ (by decide)⟩
  obtain ⟨u3, e3, f3, g3⟩ : ∃ u : Int, k3.tmod 12 = u ∧ -12 < u ∧ u < 12 := ⟨_, rfl, by have := Int.lt_tmod_of_pos k3 (by decide : (0 : Int) < 12); omega, Int.tmod_lt_of_pos k3 (by decide)⟩
  have w3 : IntKind.i64.wrap (u3 + 12) = u3 + 12 := wrap64 (by omega) (by omega)
  obtain ⟨v3, h3, l3, m3⟩ : ∃ v : Int, (u3 + 12).tmod 12 = v ∧ 0 ≤ v ∧ v < 12 := ⟨_, rfl, Int.tmod_nonneg _ (by omega), Int.tmod_lt_of_pos _ (by decide)⟩
  obtain ⟨z4, y4, o4, p4⟩ := and_mask k4 3 (by decide)
  rw [show ((3 : Nat) : Int) = 3 from rfl] at y4 p4
  obtain ⟨z6, y6, o6, p6⟩ := and_mask s1 16777215 (by decide)
  rw [show ((16777215 : Nat) : Int) = 16777215 from rfl] at y6 p6
  obtain ⟨z7, y7, o7, p7⟩ := and_mask s2 16777215 (by decide)
  rw [show ((16777215 : Nat) : Int) = 16777215 from rfl] at y7 p7
  have w1 : IntKind.i64.wrap (1 + v0) = 1 + v0 := wrap64 (by omega) (by omega)
  have hL5 : ∀ y ∈ cutL L, y.2.1 ≤ 18446744073709551615 ∧ -9223372036854775808 ≤ y.2.2.1 ∧ y.2.2.1 ≤ 9223372036854775807 := by
    intro y hy
    obtain ⟨z, hz, rfl⟩ := List.mem_map.1 hy
    exact hL z (List.mem_of_mem_take hz)
  have h70 : (cutL L).length ≤ 70 := by unfold cutL; rw [List.length_map, List.length_take]; omega
  obtain ⟨LC, eLC⟩ : ∃ LC, cutL L = LC := ⟨_, rfl⟩
  rw [eLC] at hL5 h70
  have n13 : ¬ (13 : Int) = 0 := by decide
  have n12' : ¬ (12 : Int) = 0 := by decide
  clear f0 g0 f2 g2 f3 g3 hL
  by_cases h60 : LC.length ≤ 60
  · have d1 : ¬ (LC.length : Int) > 60 := by omega
    have hL6 := hL5
    refine Sp_of (fn := f54) rfl (show W T b54 [.agg [.int .i64 k1, .int .i64 k2, .int .i64 k3, .int .i64 k4, .int .u64 (C : Int), .int .i64 n1, .int .i64 s1, .int .i64 s2, .bool ok, .str (bs x), S], .tup [], .tup [], .tup [], .tup [], .tup [], .tup [], .tup [], .tup [], .tup [], .tup [], .tup [], .tup [], .tup [], .tup [], .tup [], .tup [], .tup [], .tup [], .tup [], .tup [], .tup [], .tup [], .tup [], .tup [], .tup [], .tup [], .tup [], .tup [], .tup [], .tup [], .tup [], .tup [], .tup [], .tup [], .tup [], .tup [], .tup [], .tup [], .tup [], .tup [], .tup [], .tup [], .tup [], .tup [], .tup [], .tup [], .tup [], .tup [], .tup [], .tup [], .tup [], .tup [], .tup [], .tup [], .tup [], .tup [], .tup [], .tup [], .tup [], .tup [], .tup [], .tup [], .tup [], .tup [], .tup [], .tup [], .tup [], .tup [], .tup [], .tup [], .tup [], .tup [], .tup [], .tup [], .tup [], .tup [], .tup [], .tup [], .tup [], .tup [], .tup [], .tup [], .tup [], .tup [], .tup [], .tup [], .tup [], .tup [], .tup []] _ _ from ?_)
    unfold b54
    refine cSeq ?_; refine W_reg rfl ?_; refine xMk ?_; intro b1 h1n; refine mkDo ?_; refine xMk ?_; intro b2 h2x; refine mkDo ?_; refine wNil ?_; refine cNorm ?_
    simp only [set_none_iff] at h2x
    obtain ⟨n21, h2n⟩ := h2x
    have n12 := Ne.symm n21
    repeat' (first
      | (refine wNil ?_) | (refine xPure ?_)
      | (refine xMk ?_; intro id hid; (try simp only [set_none_iff] at hid); have hz := hid; (repeat (replace hz := hz.2)); (try have := Up.none hu0 hz); refine mkDo ?_)
      | (refine xChk ?_) | (refine xChkF ?_) | (refine xSkip ?_)
      | (refine xCall rfl rfl (sp46 k1 k2 k3 k4 C n1 s1 s2 ok x S L _ (hS.up (by repeat' (first | assumption | exact Up.refl _ | refine Up.new ?_ ?_)))) ?_; rintro v j1 ⟨ia, fa, rfl, ha, hu⟩; have hb2 := hu _ _ set_same; have hb1 := hu _ _ ((set_ne n12).trans set_same); obtain ⟨hia, nb1, nb2⟩ := two_none fa; have HU1 : Up h j1 := Up.trans (show Up h _ from (by repeat' (first | assumption | exact Up.refl _ | refine Up.new ?_ ?_))) hu; rw [eLC] at ha ⊢; clear hu; refine nTm ?_)
      | (refine xCall rfl rfl (sp34 C n1 _ hn1) ?_; rintro r j2 ⟨⟨m3, rfl, m1, m2, mz⟩, hu⟩; have hb12 := hu _ _ set_same; have hb22 := hu b2 _ (by simp only [set_ne (Ne.symm n12)]; exact hb2); have ha2 := hu ia _ (by simp only [set_ne (Ne.symm nb1)]; exact ha); have HU2 : Up h j2 := fun z b e => hu z b (by simp only [set_ne (nei e h1n)]; exact HU1 z b e); clear hu; refine nTm ?_)
      | (exact loop54n (1 + v0) v2 v3 z4 C m3 z6 z7 ok (x.take 300) (.slc ia 0 LC.length 4) LC ([]) h _ b1 b2 ia LC.length rfl rfl rfl rfl (by omega) hL6 (fun z b e => by simp only [set_ne (nei e h1n)]; exact HU2 z b e) hia h1n h2n nb1 nb2 n12 (by first | exact set_same | assumption) (by simp only [set_ne (Ne.symm n12)]; exact hb22) (by simp only [set_ne (Ne.symm nb1)]; rw [List.append_nil]; exact ha2) _ (fun g' A hA hR hU' ha' => ⟨1 + v0, v2, v3, z4, C, m3, z6, z7, _, A, rfl, chk_right (1 + v0) v2 v3 z4 C m3 z6 z7 ok (x.take 300) A (by omega) (by omega) (by omega) (by omega) (decide_eq_true ⟨⟨m1, m2⟩, by by_cases e : C = 0; exact .inl (mz e); exact .inr (Nat.pos_of_ne_zero e)⟩) (by omega) (by omega) (by rw [List.length_take]; omega) hR (by omega), hC, hR.ok (by omega), .inr ⟨ia, true, _, (by rw [hA]; rfl), ha'⟩, hU', fun b c y e => .inr ⟨ia, true, _, (by rw [hA]; rfl), (set_ne (Ne.symm (nei e hia))).trans ha'⟩⟩) _ rfl)
      | (refine cSeq ?_) | (refine cNorm ?_) | (refine cRet ?_) | (refine cExit ?_) | (refine W_reg rfl ?_) | (refine W_block ?_) | (refine W_ret ?_) | (refine W_skip ?_) | (refine W_exit ?_) | (refine bNorm ?_) | (refine bRet ?_) | (refine bExit ?_) | (refine bExitN rfl ?_)
      | (refine xMask ?_) | (refine xT ?_) | (refine xF ?_) | (refine xRet ?_) | (refine xNorm ?_)
      | (refine wSplit _ rfl (by (first | (simp only [go_sem, *]; (first | done | exact rfl)) | rfl)) ?_ ?_ <;> intro hb <;> (try simp only [beq_false, beq_true, Bool.not_true, Bool.not_false, Bool.not_eq_true', Bool.not_eq_false', decide_eq_false_iff_not, decide_eq_true_eq, bne_iff_ne, beq_iff_eq, Bool.true_eq, Bool.false_eq, Bool.not_not, Bool.and_eq_true, Bool.or_eq_true, Bool.bne_true, Bool.bne_false, bne_eq_false_iff_eq, beq_eq_false_iff_ne, ne_eq] at hb))
      | (refine W_cond _ (by (first | (simp only [go_sem, *]; (first | done | exact rfl)) | rfl)) ?_ ?_ <;> intro hb <;> (try simp only [beq_false, beq_true, Bool.not_true, Bool.not_false, Bool.not_eq_true', Bool.not_eq_false', decide_eq_false_iff_not, decide_eq_true_eq, bne_iff_ne, beq_iff_eq, Bool.true_eq, Bool.false_eq, Bool.not_not, Bool.and_eq_true, Bool.or_eq_true, Bool.bne_true, Bool.bne_false, bne_eq_false_iff_eq, beq_eq_false_iff_ne, ne_eq] at hb)))
  · have d1 : (LC.length : Int) > 60 := by omega
    have d2 : (60 : Int) ≤ (LC.length : Int) := by omega
    have d3 : (0 : Int) ≤ 60 := by decide
    have d4 : Int.toNat 60 = 60 := rfl
    have d5 : ¬ 60 = LC.length := by omega
    have hL6 : ∀ y ∈ LC.take 60, y.2.1 ≤ 18446744073709551615 ∧ -9223372036854775808 ≤ y.2.2.1 ∧ y.2.2.1 ≤ 9223372036854775807 := fun y hy => hL5 y (List.mem_of_mem_take hy)
    have l60 : (LC.take 60).length = 60 := by rw [List.length_take]; omega
    have e60 : LC.flatMap eM = (LC.take 60).flatMap eM ++ (LC.drop 60).flatMap eM := by rw [← List.flatMap_append, List.take_append_drop]
    refine Sp_of (fn := f54) rfl (show W T b54 [.agg [.int .i64 k1, .int .i64 k2, .int .i64 k3, .int .i64 k4, .int .u64 (C : Int), .int .i64 n1, .int .i64 s1, .int .i64 s2, .bool ok, .str (bs x), S], .tup [], .tup [], .tup [], .tup [], .tup [], .tup [], .tup [], .tup [], .tup [], .tup [], .tup [], .tup [], .tup [], .tup [], .tup [], .tup [], .tup [], .tup [], .tup [], .tup [], .tup [], .tup [], .tup [], .tup [], .tup [], .tup [], .tup [], .tup [], .tup [], .tup [], .tup [], .tup [], .tup [], .tup [], .tup [], .tup [], .tup [], .tup [], .tup [], .tup [], .tup [], .tup [], .tup [], .tup [], .tup [], .tup [], .tup [], .tup [], .tup [], .tup [], .tup [], .tup [], .tup [], .tup [], .tup [], .tup [], .tup [], .tup [], .tup [], .tup [], .tup [], .tup [], .tup [], .tup [], .tup [], .tup [], .tup [], .tup [], .tup [], .tup [], .tup [], .tup [], .tup [], .tup [], .tup [], .tup [], .tup [], .tup [], .tup [], .tup [], .tup [], .tup [], .tup [], .tup [], .tup [], .tup [], .tup [], .tup [], .tup []] _ _ from ?_)
    unfold b54
    refine cSeq ?_; refine W_reg rfl ?_; refine xMk ?_; intro b1 h1n; refine mkDo ?_; refine xMk ?_; intro b2 h2x; refine mkDo ?_; refine wNil ?_; refine cNorm ?_
    simp only [set_none_iff] at h2x
    obtain ⟨n21, h2n⟩ := h2x
    have n12 := Ne.symm n21
    repeat' (first
      | (refine wNil ?_) | (refine xPure ?_)
      | (refine xMk ?_; intro id hid; (try simp only [set_none_iff] at hid); have hz := hid; (repeat (replace hz := hz.2)); (try have := Up.none hu0 hz); refine mkDo ?_)
      | (refine xChk ?_) | (refine xChkF ?_) | (refine xSkip ?_)
      | (refine xCall rfl rfl (sp46 k1 k2 k3 k4 C n1 s1 s2 ok x S L _ (hS.up (by repeat' (first | assumption | exact Up.refl _ | refine Up.new ?_ ?_)))) ?_; rintro v j1 ⟨ia, fa, rfl, ha, hu⟩; have hb2 := hu _ _ set_same; have hb1 := hu _ _ ((set_ne n12).trans set_same); obtain ⟨hia, nb1, nb2⟩ := two_none fa; have HU1 : Up h j1 := Up.trans (show Up h _ from (by repeat' (first | assumption | exact Up.refl _ | refine Up.new ?_ ?_))) hu; rw [eLC] at ha ⊢; clear hu; refine nTm ?_)
      | (refine xCall rfl rfl (sp34 C n1 _ hn1) ?_; rintro r j2 ⟨⟨m3, rfl, m1, m2, mz⟩, hu⟩; have hb12 := hu _ _ set_same; have hb22 := hu b2 _ (by simp only [set_ne (Ne.symm n12)]; exact hb2); have ha2 := hu ia _ (by simp only [set_ne (Ne.symm nb1)]; exact ha); have HU2 : Up h j2 := fun z b e => hu z b (by simp only [set_ne (nei e h1n)]; exact HU1 z b e); clear hu; refine nTm ?_)
      | (exact loop54n (1 + v0) v2 v3 z4 C m3 z6 z7 ok (x.take 300) (.slk ia 0 60 4 LC.length false) (LC.take 60) ((LC.drop 60).flatMap eM) h _ b1 b2 ia 60 l60 rfl rfl rfl (by omega) hL6 (fun z b e => by simp only [set_ne (nei e h1n)]; exact HU2 z b e) hia h1n h2n nb1 nb2 n12 (by first | exact set_same | assumption) (by simp only [set_ne (Ne.symm n12)]; exact hb22) (by simp only [set_ne (Ne.symm nb1)]; rw [← e60]; exact ha2) _ (fun g' A hA hR hU' ha' => ⟨1 + v0, v2, v3, z4, C, m3, z6, z7, _, A, rfl, chk_right (1 + v0) v2 v3 z4 C m3 z6 z7 ok (x.take 300) A (by omega) (by omega) (by omega) (by omega) (decide_eq_true ⟨⟨m1, m2⟩, by by_cases e : C = 0; exact .inl (mz e); exact .inr (Nat.pos_of_ne_zero e)⟩) (by omega) (by omega) (by rw [List.length_take]; omega) hR (by omega), hC, hR.ok (by omega), .inr ⟨ia, true, _, (by rw [hA, l60]; rfl), ha'⟩, hU', fun b c y e => .inr ⟨ia, true, _, (by rw [hA, l60]; rfl), (set_ne (Ne.symm (nei e hia))).trans ha'⟩⟩) _ rfl)
      | (refine cSeq ?_) | (refine cNorm ?_) | (refine cRet ?_) | (refine cExit ?_) | (refine W_reg rfl ?_) | (refine W_block ?_) | (refine W_ret ?_) | (refine W_skip ?_) | (refine W_exit ?_) | (refine bNorm ?_) | (refine bRet ?_) | (refine bExit ?_) | (refine bExitN rfl ?_)
      | (refine xMask ?_) | (refine xT ?_) | (refine xF ?_) | (refine xRet ?_) | (refine xNorm ?_)
      | (refine wSplit _ rfl (by (first | (simp only [go_sem, *]; (first | done | exact rfl)) | rfl)) ?_ ?_ <;> intro hb <;> (try simp only [beq_false, beq_true, Bool.not_true, Bool.not_false, Bool.not_eq_true', Bool.not_eq_false', decide_eq_false_iff_not, decide_eq_true_eq, bne_iff_ne, beq_iff_eq, Bool.true_eq, Bool.false_eq, Bool.not_not, Bool.and_eq_true, Bool.or_eq_true, Bool.bne_true, Bool.bne_false, bne_eq_false_iff_eq, beq_eq_false_iff_ne, ne_eq] at hb))
      | (refine W_cond _ (by (first | (simp only [go_sem, *]; (first | done | exact rfl)) | rfl)) ?_ ?_ <;> intro hb <;> (try simp only [beq_false, beq_true, Bool.not_true, Bool.not_false, Bool.not_eq_true', Bool.not_eq_false', decide_eq_false_iff_not, decide_eq_true_eq, bne_iff_ne, beq_iff_eq, Bool.true_eq, Bool.false_eq, Bool.not_not, Bool.and_eq_true, Bool.or_eq_true, Bool.bne_true, Bool.bne_false, bne_eq_false_iff_eq, beq_eq_false_iff_ne, ne_eq] at hb)))
end Go.Proofs.YtgekngfnhhdamaaI
set_option linter.unusedVariables false
set_option linter.unusedSimpArgs false
set_option maxRecDepth 100000
set_option maxHeartbeats 4000000
namespace Go.Proofs.YtgekngfnhhdamaaI
open Go Go.Proofs.YtgekngfnhhdamaaM
attribute [local go_sem] aop ev fg_slc fg_slk fg_ptr fg_bool fg_int fg_str fg_iface fg_func fg_agg fg_tup fg_nils fg_nilp fg_nilI fg_nilF fg_und aboundsK alen_nils alen_slc alen_slk aslice_nils aslice_slc aslice_slk awanted abin aun aint aeqn aeqc aeqs apart abounds abnd amaxi amaxiGo cells_agg cells_slc cells_slk cells_ptr cells_bool cells_int cells_str cells_iface cells_func cells_tup cells_nils cells_nilp cells_nilI cells_nilF cells_und sc_slc sc_slk sc_ptr sc_bool sc_int sc_str sc_iface sc_func sc_nils sc_nilp sc_nilI sc_nilF gd_zero gd_succ List.all_cons List.all_nil Bool.and_self Bool.and_true Bool.true_and List.length_cons List.length_nil Option.map_some Option.some.injEq cell_same cell_ne cell_ne' cellsAt_same cellsAt_ne cellsAt_ne' put_same put_of set_same set_ne set_ne' List.getElem?_cons_zero List.getElem?_cons_succ if_true if_false and_self and_true true_and ne_eq not_true_eq_false not_false_eq_true decide_true decide_false Bool.false_eq_true Bool.true_eq_false beq_self_eq_true bne_self_eq_false beq_true beq_false Bool.not_true Bool.not_false List.map_cons List.map_nil putL List.set_cons_zero List.set_cons_succ afill Nat.zero_le Nat.le_refl Nat.zero_add Nat.add_zero List.drop_zero List.drop_succ_cons List.take_zero List.take_succ_cons Bool.not_eq_true Bool.not_eq_false decide_eq_true_eq decide_eq_false_iff_not Int.toNat_zero Nat.sub_zero Int.toNat_natCast Bool.bne_true Bool.bne_false AH.cell AH.cellsAt AH.put Nat.mul_one Nat.one_mul Int.natCast_nonneg List.length_set bs_append bs_size bs_toList bs_extract bs_get List.cons_append List.nil_append List.append_nil Nat.sub_zero bne_self_eq_false beq_self_eq_true azeros Int.le_refl
/-- within -/
theorem sp82 (n hi : Int) (h : AH) : Sp T 82 [.int .i64 n, .int .i64 hi] h (fun v h' => v = .bool (decide (0 ≤ n ∧ n ≤ hi)) ∧ h' = h) := by
  by_cases c1 : n ≥ 0
  · by_cases c2 : n ≤ hi
    · refine Sp_of (fn := f82) rfl (show W T b82 [.int .i64 n, .int .i64 hi, .tup [], .tup [], .tup [], .tup [], .tup [], .tup [], .tup [], .tup [], .tup [], .tup []] _ _ from ?_)
      unfold b82
      repeat' (first
        | (refine wNil ?_) | (refine xPure ?_)
        | (refine xMk ?_; intro id hid; (try simp only [set_none_iff] at hid); refine mkDo ?_)
        | (refine xChk ?_) | (refine xChkF ?_) | (refine xSkip ?_)
        | (refine cSeq ?_) | (refine cNorm ?_) | (refine cRet ?_) | (refine cExit ?_) | (refine W_reg rfl ?_) | (refine W_block ?_) | (refine W_ret ?_) | (refine W_skip ?_) | (refine W_exit ?_) | (refine bNorm ?_) | (refine bRet ?_) | (refine bExit ?_) | (refine bExitN rfl ?_)
        | (refine xMask ?_) | (refine xT ?_) | (refine xF ?_) | (refine xRet ?_) | (refine xNorm ?_)
        | (refine wSplit _ rfl (by (first | (simp only [go_sem, *]; (first | done | exact rfl)) | rfl)) ?_ ?_ <;> intro hb <;> (try simp only [beq_false, beq_true, Bool.not_true, Bool.not_false, Bool.not_eq_true', Bool.not_eq_false', decide_eq_false_iff_not, decide_eq_true_eq, bne_iff_ne, beq_iff_eq, Bool.true_eq, Bool.false_eq, Bool.not_not, Bool.and_eq_true, Bool.or_eq_true, Bool.bne_true, Bool.bne_false, bne_eq_false_iff_eq, beq_eq_false_iff_ne, ne_eq] at hb))
        | (refine W_cond _ (by (first | (simp only [go_sem, *]; (first | done | exact rfl)) | rfl)) ?_ ?_ <;> intro hb <;> (try simp only [beq_false, beq_true, Bool.not_true, Bool.not_false, Bool.not_eq_true', Bool.not_eq_false', decide_eq_false_iff_not, decide_eq_true_eq, bne_iff_ne, beq_iff_eq, Bool.true_eq, Bool.false_eq, Bool.not_not, Bool.and_eq_true, Bool.or_eq_true, Bool.bne_true, Bool.bne_false, bne_eq_false_iff_eq, beq_eq_false_iff_ne, ne_eq] at hb)))
      all_goals exact ⟨by rw [decide_eq_true (show 0 ≤ n ∧ n ≤ hi from ⟨c1, c2⟩)]; rfl, rfl⟩
    · refine Sp_of (fn := f82) rfl (show W T b82 [.int .i64 n, .int .i64 hi, .tup [], .tup [], .tup [], .tup [], .tup [], .tup [], .tup [], .tup [], .tup [], .tup []] _ _ from ?_)
      unfold b82
      repeat' (first
        | (refine wNil ?_) | (refine xPure ?_)
        | (refine xMk ?_; intro id hid; (try simp only [set_none_iff] at hid); refine mkDo ?_)
        | (refine xChk ?_) | (refine xChkF ?_) | (refine xSkip ?_)
        | (refine cSeq ?_) | (refine cNorm ?_) | (refine cRet ?_) | (refine cExit ?_) | (refine W_reg rfl ?_) | (refine W_block ?_) | (refine W_ret ?_) | (refine W_skip ?_) | (refine W_exit ?_) | (refine bNorm ?_) | (refine bRet ?_) | (refine bExit ?_) | (refine bExitN rfl ?_)
        | (refine xMask ?_) | (refine xT ?_) | (refine xF ?_) | (refine xRet ?_) | (refine xNorm ?_)
        | (refine wSplit _ rfl (by (first | (simp only [go_sem, *]; (first | done | exact rfl)) | rfl)) ?_ ?_ <;> intro hb <;> (try simp only [beq_false, beq_true, Bool.not_true, Bool.not_false, Bool.not_eq_true', Bool.not_eq_false', decide_eq_false_iff_not, decide_eq_true_eq, bne_iff_ne, beq_iff_eq, Bool.true_eq, Bool.false_eq, Bool.not_not, Bool.and_eq_true, Bool.or_eq_true, Bool.bne_true, Bool.bne_false, bne_eq_false_iff_eq, beq_eq_false_iff_ne, ne_eq] at hb))
        | (refine W_cond _ (by (first | (simp only [go_sem, *]; (first | done | exact rfl)) | rfl)) ?_ ?_ <;> intro hb <;> (try simp only [beq_false, beq_true, Bool.not_true, Bool.not_false, Bool.not_eq_true', Bool.not_eq_false', decide_eq_false_iff_not, decide_eq_true_eq, bne_iff_ne, beq_iff_eq, Bool.true_eq, Bool.false_eq, Bool.not_not, Bool.and_eq_true, Bool.or_eq_true, Bool.bne_true, Bool.bne_false, bne_eq_false_iff_eq, beq_eq_false_iff_ne, ne_eq] at hb)))
      all_goals exact ⟨by rw [decide_eq_false (fun hh : 0 ≤ n ∧ n ≤ hi => c2 hh.2)]; rfl, rfl⟩
  · refine Sp_of (fn := f82) rfl (show W T b82 [.int .i64 n, .int .i64 hi, .tup [], .tup [], .tup [], .tup [], .tup [], .tup [], .tup [], .tup [], .tup [], .tup []] _ _ from ?_)
    unfold b82
    repeat' (first
      | (refine wNil ?_) | (refine xPure ?_)
      | (refine xMk ?_; intro id hid; (try simp only [set_none_iff] at hid); refine mkDo ?_)
      | (refine xChk ?_) | (refine xChkF ?_) | (refine xSkip ?_)
      | (refine cSeq ?_) | (refine cNorm ?_) | (refine cRet ?_) | (refine cExit ?_) | (refine W_reg rfl ?_) | (refine W_block ?_) | (refine W_ret ?_) | (refine W_skip ?_) | (refine W_exit ?_) | (refine bNorm ?_) | (refine bRet ?_) | (refine bExit ?_) | (refine bExitN rfl ?_)
      | (refine xMask ?_) | (refine xT ?_) | (refine xF ?_) | (refine xRet ?_) | (refine xNorm ?_)
      | (refine wSplit _ rfl (by (first | (simp only [go_sem, *]; (first | done | exact rfl)) | rfl)) ?_ ?_ <;> intro hb <;> (try simp only [beq_false, beq_true, Bool.not_true, Bool.not_false, Bool.not_eq_true', Bool.not_eq_false', decide_eq_false_iff_not, decide_eq_true_eq, bne_iff_ne, beq_iff_eq, Bool.true_eq, Bool.false_eq, Bool.not_not, Bool.and_eq_true, Bool.or_eq_true, Bool.bne_true, Bool.bne_false, bne_eq_false_iff_eq, beq_eq_false_iff_ne, ne_eq] at hb))
      | (refine W_cond _ (by (first | (simp only [go_sem, *]; (first | done | exact rfl)) | rfl)) ?_ ?_ <;> intro hb <;> (try simp only [beq_false, beq_true, Bool.not_true, Bool.not_false, Bool.not_eq_true', Bool.not_eq_false', decide_eq_false_iff_not, decide_eq_true_eq, bne_iff_ne, beq_iff_eq, Bool.true_eq, Bool.false_eq, Bool.not_not, Bool.and_eq_true, Bool.or_eq_true, Bool.bne_true, Bool.bne_false, bne_eq_false_iff_eq, beq_eq_false_iff_ne, ne_eq] at hb)))
    all_goals exact ⟨by rw [decide_eq_false (fun hh : 0 ≤ n ∧ n ≤ hi => c1 hh.1)]; rfl, rfl⟩
/-- sound -/
theorem sp83 (C : Nat) (n : Int) (h : AH) : Sp T 83 [.agg [.int .u64 C, .int .i64 n]] h (fun v h' => v = .bool (snd C n) ∧ Up h h') := by
  by_cases c1 : 0 ≤ n ∧ n ≤ 11
  · have K0 := decide_eq_true c1
    by_cases c3 : 0 < C
    · have c3' : (C : Int) > 0 := by omega
      have e : snd C n = true := decide_eq_true ⟨c1, .inr c3⟩
      rw [e]
      clear e c1
      refine Sp_of (fn := f83) rfl (show W T b83 [.agg [.int .u64 C, .int .i64 n], .tup [], .tup [], .tup [], .tup [], .tup [], .tup [], .tup [], .tup [], .tup [], .tup [], .tup [], .tup [], .tup [], .tup [], .tup []] _ _ from ?_)
      unfold b83
      repeat' (first
        | (refine wNil ?_) | (refine xPure ?_)
        | (refine xMk ?_; intro id hid; (try simp only [set_none_iff] at hid); refine mkDo ?_)
        | (refine xChk ?_) | (refine xChkF ?_) | (refine xSkip ?_)
        | (refine xCall rfl rfl (sp82 n 11 _) ?_; rintro v h' ⟨rfl, hx⟩; cases hx; rw [K0]; refine nTm ?_)
        | (refine cSeq ?_) | (refine cNorm ?_) | (refine cRet ?_) | (refine cExit ?_) | (refine W_reg rfl ?_) | (refine W_block ?_) | (refine W_ret ?_) | (refine W_skip ?_) | (refine W_exit ?_) | (refine bNorm ?_) | (refine bRet ?_) | (refine bExit ?_) | (refine bExitN rfl ?_)
        | (refine xMask ?_) | (refine xT ?_) | (refine xF ?_) | (refine xRet ?_) | (refine xNorm ?_)
        | (refine wSplit _ rfl (by (first | (simp only [go_sem, *]; (first | done | exact rfl)) | rfl)) ?_ ?_ <;> intro hb <;> (try simp only [beq_false, beq_true, Bool.not_true, Bool.not_false, Bool.not_eq_true', Bool.not_eq_false', decide_eq_false_iff_not, decide_eq_true_eq, bne_iff_ne, beq_iff_eq, Bool.true_eq, Bool.false_eq, Bool.not_not, Bool.and_eq_true, Bool.or_eq_true, Bool.bne_true, Bool.bne_false, bne_eq_false_iff_eq, beq_eq_false_iff_ne, ne_eq] at hb))
        | (refine W_cond _ (by (first | (simp only [go_sem, *]; (first | done | exact rfl)) | rfl)) ?_ ?_ <;> intro hb <;> (try simp only [beq_false, beq_true, Bool.not_true, Bool.not_false, Bool.not_eq_true', Bool.not_eq_false', decide_eq_false_iff_not, decide_eq_true_eq, bne_iff_ne, beq_iff_eq, Bool.true_eq, Bool.false_eq, Bool.not_not, Bool.and_eq_true, Bool.or_eq_true, Bool.bne_true, Bool.bne_false, bne_eq_false_iff_eq, beq_eq_false_iff_ne, ne_eq] at hb)))
      all_goals exact ⟨rfl, Up.new (Up.refl h) (by assumption)⟩
    · have c3' : ¬ (C : Int) > 0 := by omega
      by_cases c2 : n = 0
      · have c2' : (n == 0) = true := by simpa using c2
        have e : snd C n = true := decide_eq_true ⟨c1, .inl c2⟩
        rw [e]
        clear e c2 c1
        refine Sp_of (fn := f83) rfl (show W T b83 [.agg [.int .u64 C, .int .i64 n], .tup [], .tup [], .tup [], .tup [], .tup [], .tup [], .tup [], .tup [], .tup [], .tup [], .tup [], .tup [], .tup [], .tup [], .tup []] _ _ from ?_)
        unfold b83
        repeat' (first
          | (refine wNil ?_) | (refine xPure ?_)
          | (refine xMk ?_; intro id hid; (try simp only [set_none_iff] at hid); refine mkDo ?_)
          | (refine xChk ?_) | (refine xChkF ?_) | (refine xSkip ?_)
          | (refine xCall rfl rfl (sp82 n 11 _) ?_; rintro v h' ⟨rfl, hx⟩; cases hx; rw [K0]; refine nTm ?_)
          | (refine cSeq ?_) | (refine cNorm ?_) | (refine cRet ?_) | (refine cExit ?_) | (refine W_reg rfl ?_) | (refine W_block ?_) | (refine W_ret ?_) | (refine W_skip ?_) | (refine W_exit ?_) | (refine bNorm ?_) | (refine bRet ?_) | (refine bExit ?_) | (refine bExitN rfl ?_)
          | (refine xMask ?_) | (refine xT ?_) | (refine xF ?_) | (refine xRet ?_) | (refine xNorm ?_)
          | (refine wSplit _ rfl (by (first | (simp only [go_sem, *]; (first | done | exact rfl)) | rfl)) ?_ ?_ <;> intro hb <;> (try simp only [beq_false, beq_true, Bool.not_true, Bool.not_false, Bool.not_eq_true', Bool.not_eq_false', decide_eq_false_iff_not, decide_eq_true_eq, bne_iff_ne, beq_iff_eq, Bool.true_eq, Bool.false_eq, Bool.not_not, Bool.and_eq_true, Bool.or_eq_true, Bool.bne_true, Bool.bne_false, bne_eq_false_iff_eq, beq_eq_false_iff_ne, ne_eq] at hb))
          | (refine W_cond _ (by (first | (simp only [go_sem, *]; (first | done | exact rfl)) | rfl)) ?_ ?_ <;> intro hb <;> (try simp only [beq_false, beq_true, Bool.not_true, Bool.not_false, Bool.not_eq_true', Bool.not_eq_false', decide_eq_false_iff_not, decide_eq_true_eq, bne_iff_ne, beq_iff_eq, Bool.true_eq, Bool.false_eq, Bool.not_not, Bool.and_eq_true, Bool.or_eq_true, Bool.bne_true, Bool.bne_false, bne_eq_false_iff_eq, beq_eq_false_iff_ne, ne_eq] at hb)))
        all_goals exact ⟨rfl, Up.new (Up.refl h) (by assumption)⟩
      · have c2' : (n == 0) = false := by simpa using c2
        have e : snd C n = false := decide_eq_false (fun hh => hh.2.elim c2 c3)
        rw [e]
        clear e c2 c1
        refine Sp_of (fn := f83) rfl (show W T b83 [.agg [.int .u64 C, .int .i64 n], .tup [], .tup [], .tup [], .tup [], .tup [], .tup [], .tup [], .tup [], .tup [], .tup [], .tup [], .tup [], .tup [], .tup [], .tup []] _ _ from ?_)
        unfold b83
        repeat' (first
          | (refine wNil ?_) | (refine xPure ?_)
          | (refine xMk ?_; intro id hid; (try simp only [set_none_iff] at hid); refine mkDo ?_)
          | (refine xChk ?_) | (refine xChkF ?_) | (refine xSkip ?_)
          | (refine xCall rfl rfl (sp82 n 11 _) ?_; rintro v h' ⟨rfl, hx⟩; cases hx; rw [K0]; refine nTm ?_)
          | (refine cSeq ?_) | (refine cNorm ?_) | (refine cRet ?_) | (refine cExit ?_) | (refine W_reg rfl ?_) | (refine W_block ?_) | (refine W_ret ?_) | (refine W_skip ?_) | (refine W_exit ?_) | (refine bNorm ?_) | (refine bRet ?_) | (refine bExit ?_) | (refine bExitN rfl ?_)
          | (refine xMask ?_) | (refine xT ?_) | (refine xF ?_) | (refine xRet ?_) | (refine xNorm ?_)
          | (refine wSplit _ rfl (by (first | (simp only [go_sem, *]; (first | done | exact rfl)) | rfl)) ?_ ?_ <;> intro hb <;> (try simp only [beq_false, beq_true, Bool.not_true, Bool.not_false, Bool.not_eq_true', Bool.not_eq_false', decide_eq_false_iff_not, decide_eq_true_eq, bne_iff_ne, beq_iff_eq, Bool.true_eq, Bool.false_eq, Bool.not_not, Bool.and_eq_true, Bool.or_eq_true, Bool.bne_true, Bool.bne_false, bne_eq_false_iff_eq, beq_eq_false_iff_ne, ne_eq] at hb))
          | (refine W_cond _ (by (first | (simp only [go_sem, *]; (first | done | exact rfl)) | rfl)) ?_ ?_ <;> intro hb <;> (try simp only [beq_false, beq_true, Bool.not_true, Bool.not_false, Bool.not_eq_true', Bool.not_eq_false', decide_eq_false_iff_not, decide_eq_true_eq, bne_iff_ne, beq_iff_eq, Bool.true_eq, Bool.false_eq, Bool.not_not, Bool.and_eq_true, Bool.or_eq_true, Bool.bne_true, Bool.bne_false, bne_eq_false_iff_eq, beq_eq_false_iff_ne, ne_eq] at hb)))
        all_goals exact ⟨rfl, Up.new (Up.refl h) (by assumption)⟩
  · have K0 := decide_eq_false c1
    have e : snd C n = false := decide_eq_false (fun hh => c1 hh.1)
    rw [e]
    clear e c1
    refine Sp_of (fn := f83) rfl (show W T b83 [.agg [.int .u64 C, .int .i64 n], .tup [], .tup [], .tup [], .tup [], .tup [], .tup [], .tup [], .tup [], .tup [], .tup [], .tup [], .tup [], .tup [], .tup [], .tup []] _ _ from ?_)
    unfold b83
    repeat' (first
      | (refine wNil ?_) | (refine xPure ?_)
      | (refine xMk ?_; intro id hid; (try simp only [set_none_iff] at hid); refine mkDo ?_)
      | (refine xChk ?_) | (refine xChkF ?_) | (refine xSkip ?_)
      | (refine xCall rfl rfl (sp82 n 11 _) ?_; rintro v h' ⟨rfl, hx⟩; cases hx; rw [K0]; refine nTm ?_)
      | (refine cSeq ?_) | (refine cNorm ?_) | (refine cRet ?_) | (refine cExit ?_) | (refine W_reg rfl ?_) | (refine W_block ?_) | (refine W_ret ?_) | (refine W_skip ?_) | (refine W_exit ?_) | (refine bNorm ?_) | (refine bRet ?_) | (refine bExit ?_) | (refine bExitN rfl ?_)
      | (refine xMask ?_) | (refine xT ?_) | (refine xF ?_) | (refine xRet ?_) | (refine xNorm ?_)
      | (refine wSplit _ rfl (by (first | (simp only [go_sem, *]; (first | done | exact rfl)) | rfl)) ?_ ?_ <;> intro hb <;> (try simp only [beq_false, beq_true, Bool.not_true, Bool.not_false, Bool.not_eq_true', Bool.not_eq_false', decide_eq_false_iff_not, decide_eq_true_eq, bne_iff_ne, beq_iff_eq, Bool.true_eq, Bool.false_eq, Bool.not_not, Bool.and_eq_true, Bool.or_eq_true, Bool.bne_true, Bool.bne_false, bne_eq_false_iff_eq, beq_eq_false_iff_ne, ne_eq] at hb))
      | (refine W_cond _ (by (first | (simp only [go_sem, *]; (first | done | exact rfl)) | rfl)) ?_ ?_ <;> intro hb <;> (try simp only [beq_false, beq_true, Bool.not_true, Bool.not_false, Bool.not_eq_true', Bool.not_eq_false', decide_eq_false_iff_not, decide_eq_true_eq, bne_iff_ne, beq_iff_eq, Bool.true_eq, Bool.false_eq, Bool.not_not, Bool.and_eq_true, Bool.or_eq_true, Bool.bne_true, Bool.bne_false, bne_eq_false_iff_eq, beq_eq_false_iff_ne, ne_eq] at hb)))
    all_goals exact ⟨rfl, Up.new (Up.refl h) (by assumption)⟩
/-- great's -/
theorem sp84 (y1 : Int) (y2 : Nat) (y3 : Int) (y4 : List UInt8) (h : AH) : Sp T 84 [.agg [.int .i64 y1, .int .u64 (y2 : Int), .int .i64 y3, .str (bs y4)]] h (fun v h' => v = .bool (!(p4 (y1, y2, y3, y4))) ∧ Up h h') := by
  have e : (!(p4 (y1, y2, y3, y4))) = decide ((y4.length : Int) > 400) := by
    by_cases hh : y4.length ≤ 400
    · rw [show p4 (y1, y2, y3, y4) = true from decide_eq_true hh, decide_eq_false (by omega)]; rfl
    · rw [show p4 (y1, y2, y3, y4) = false from decide_eq_false hh, decide_eq_true (by omega)]; rfl
  rw [e]
  clear e
  refine Sp_of (fn := f84) rfl (show W T b84 [.agg [.int .i64 y1, .int .u64 (y2 : Int), .int .i64 y3, .str (bs y4)], .tup [], .tup [], .tup [], .tup [], .tup [], .tup []] _ _ from ?_)
  unfold b84
  repeat' (first
    | (refine wNil ?_) | (refine xPure ?_)
    | (refine xMk ?_; intro id hid; (try simp only [set_none_iff] at hid); refine mkDo ?_)
    | (refine xChk ?_) | (refine xChkF ?_) | (refine xSkip ?_)
    | (refine cSeq ?_) | (refine cNorm ?_) | (refine cRet ?_) | (refine cExit ?_) | (refine W_reg rfl ?_) | (refine W_block ?_) | (refine W_ret ?_) | (refine W_skip ?_) | (refine W_exit ?_) | (refine bNorm ?_) | (refine bRet ?_) | (refine bExit ?_) | (refine bExitN rfl ?_)
    | (refine xMask ?_) | (refine xT ?_) | (refine xF ?_) | (refine xRet ?_) | (refine xNorm ?_)
    | (refine wSplit _ rfl (by (first | (simp only [go_sem, *]; (first | done | exact rfl)) | rfl)) ?_ ?_ <;> intro hb <;> (try simp only [beq_false, beq_true, Bool.not_true, Bool.not_false, Bool.not_eq_true', Bool.not_eq_false', decide_eq_false_iff_not, decide_eq_true_eq, bne_iff_ne, beq_iff_eq, Bool.true_eq, Bool.false_eq, Bool.not_not, Bool.and_eq_true, Bool.or_eq_true, Bool.bne_true, Bool.bne_false, bne_eq_false_iff_eq, beq_eq_false_iff_ne, ne_eq] at hb))
    | (refine W_cond _ (by (first | (simp only [go_sem, *]; (first | done | exact rfl)) | rfl)) ?_ ?_ <;> intro hb <;> (try simp only [beq_false, beq_true, Bool.not_true, Bool.not_false, Bool.not_eq_true', Bool.not_eq_false', decide_eq_false_iff_not, decide_eq_true_eq, bne_iff_ne, beq_iff_eq, Bool.true_eq, Bool.false_eq, Bool.not_not, Bool.and_eq_true, Bool.or_eq_true, Bool.bne_true, Bool.bne_false, bne_eq_false_iff_eq, beq_eq_false_iff_ne, ne_eq] at hb)))
  all_goals exact ⟨rfl, Up.new (Up.refl h) (by assumption)⟩
/-- slices.IndexFunc -/
theorem sp89 (S : AV) (L : List En) (h : AH) (hS : Le h S L) (hl : L.length ≤ 1000) : Sp T 89 [S, .func 84 [] []] h (fun v h' => ∃ r : Int, v = .int .i64 r ∧ decide (r ≥ 0) = (!(L.all p4)) ∧ Up h h') := by
  have hSl := hS.len
  refine Sp_of (fn := f89) rfl (show W T b89 [S, .func 84 [] [], .tup [], .tup [], .tup [], .tup [], .tup [], .tup [], .tup [], .tup [], .tup [], .tup [], .tup [], .tup [], .tup [], .tup [], .tup [], .tup [], .tup []] _ _ from ?_)
  unfold b89
  repeat' (first
    | (refine wNil ?_) | (refine xPure ?_)
    | (refine xMk ?_; intro id hid; (try simp only [set_none_iff] at hid); refine mkDo ?_)
    | (refine xChk ?_) | (refine xChkF ?_) | (refine xSkip ?_)
    | (refine cSeq ?_) | (refine cNorm ?_) | (refine cRet ?_) | (refine cExit ?_) | (refine W_reg rfl ?_) | (refine W_block ?_) | (refine W_ret ?_) | (refine W_skip ?_) | (refine W_exit ?_) | (refine bNorm ?_) | (refine bRet ?_) | (refine bExit ?_) | (refine bExitN rfl ?_)
    | (refine xMask ?_) | (refine xT ?_) | (refine xF ?_) | (refine xRet ?_) | (refine xNorm ?_)
    | (refine wSplit _ rfl (by (first | (simp only [go_sem, *]; (first | done | exact rfl)) | rfl)) ?_ ?_ <;> intro hb <;> (try simp only [beq_false, beq_true, Bool.not_true, Bool.not_false, Bool.not_eq_true', Bool.not_eq_false', decide_eq_false_iff_not, decide_eq_true_eq, bne_iff_ne, beq_iff_eq, Bool.true_eq, Bool.false_eq, Bool.not_not, Bool.and_eq_true, Bool.or_eq_true, Bool.bne_true, Bool.bne_false, bne_eq_false_iff_eq, beq_eq_false_iff_ne, ne_eq] at hb))
    | (refine W_cond _ (by (first | (simp only [go_sem, *]; (first | done | exact rfl)) | rfl)) ?_ ?_ <;> intro hb <;> (try simp only [beq_false, beq_true, Bool.not_true, Bool.not_false, Bool.not_eq_true', Bool.not_eq_false', decide_eq_false_iff_not, decide_eq_true_eq, bne_iff_ne, beq_iff_eq, Bool.true_eq, Bool.false_eq, Bool.not_not, Bool.and_eq_true, Bool.or_eq_true, Bool.bne_true, Bool.bne_false, bne_eq_false_iff_eq, beq_eq_false_iff_ne, ne_eq] at hb)))
  refine W_loop (fun m tm g => ∃ k : Nat, k + m = L.length ∧ Up h g ∧ L.all p4 = (L.drop k).all p4 ∧ keep [0, 1, 7, 8] 0 tm = [S, .func 84 [] [], .und, .und, .und, .und, .und, .int .i64 (L.length : Int), .int .i64 (k : Int), .und, .und, .und, .und, .und, .und, .und, .und, .und, .und]) L.length ⟨0, by omega, Up.refl h, by rw [List.drop_zero], rfl⟩ ?_
  rintro m tm g ⟨k, hk, hu, hr, htm⟩
  refine cSeq (cMask (cNorm ?_))
  rw [htm]; clear htm
  by_cases hkl : k < L.length
  · have d1 : (k : Int) < (L.length : Int) := by omega
    have d2 : (0 : Int) ≤ (k : Int) := by omega
    have w1 : IntKind.i64.wrap ((k : Int) + 1) = ((k + 1 : Nat) : Int) := by rw [wrap64 (by omega) (by omega)]; rfl
    obtain ⟨⟨y1, y2, y3, y4⟩, hy⟩ : ∃ y, L[k]? = some y := ⟨_, List.getElem?_eq_getElem hkl⟩
    have hdr : L.drop k = (y1, y2, y3, y4) :: L.drop (k + 1) := by rw [List.drop_eq_getElem_cons hkl, (List.getElem?_eq_some_iff.1 hy).2]
    rw [hdr, List.all_cons] at hr
    rcases hS with ⟨rfl, rfl⟩ | ⟨iL, ow, rfl, hL⟩
    · simp at hkl
    have hLg := hu _ _ hL
    obtain ⟨g1, g2⟩ := flat_get eMz hy []
    rw [List.append_nil] at g1 g2
    simp only [eM] at g2
    clear hdr hy
    cases B1 : (!(p4 (y1, y2, y3, y4))) with
    | true =>
      have e : (!(L.all p4)) = true := by rw [hr]; rw [Bool.not_eq_true'] at B1; rw [B1]; rfl
      clear hr
      repeat' (first
        | (refine wNil ?_) | (refine xPure ?_)
        | (refine xMk ?_; intro id hid; (try simp only [set_none_iff] at hid); refine mkDo ?_)
        | (refine xChk ?_) | (refine xChkF ?_) | (refine xSkip ?_)
        | (refine wCallV rfl (by (first | (simp only [awanted, gd_zero, gd_succ, beq_self_eq_true, beq_true, beq_false, Bool.not_true, Bool.not_false, *]; done) | rfl)) rfl (by (first | rfl | (simp only [go_sem, *]; done))) (Sp.mono (sp84 y1 y2 y3 y4 _) ?_); rintro v j1 ⟨rfl, hu1⟩; rw [B1]; have HU : Up h j1 := hu.trans hu1; dsimp only [putT, ev, Int.toNat_zero, Nat.sub_zero, Int.toNat_natCast,  gd_zero, gd_succ, Nat.zero_add, Nat.add_zero, Nat.reduceAdd, Nat.reduceMul, List.set_cons_zero, List.set_cons_succ, keep, List.contains_cons, List.contains_nil])
        | (refine cSeq ?_) | (refine cNorm ?_) | (refine cRet ?_) | (refine cExit ?_) | (refine W_reg rfl ?_) | (refine W_block ?_) | (refine W_ret ?_) | (refine W_skip ?_) | (refine W_exit ?_) | (refine bNorm ?_) | (refine bRet ?_) | (refine bExit ?_) | (refine bExitN rfl ?_)
        | (refine xMask ?_) | (refine xT ?_) | (refine xF ?_) | (refine xRet ?_) | (refine xNorm ?_)
        | (refine wSplit _ rfl (by (first | (simp only [go_sem, *]; (first | done | exact rfl)) | rfl)) ?_ ?_ <;> intro hb <;> (try simp only [beq_false, beq_true, Bool.not_true, Bool.not_false, Bool.not_eq_true', Bool.not_eq_false', decide_eq_false_iff_not, decide_eq_true_eq, bne_iff_ne, beq_iff_eq, Bool.true_eq, Bool.false_eq, Bool.not_not, Bool.and_eq_true, Bool.or_eq_true, Bool.bne_true, Bool.bne_false, bne_eq_false_iff_eq, beq_eq_false_iff_ne, ne_eq] at hb))
        | (refine W_cond _ (by (first | (simp only [go_sem, *]; (first | done | exact rfl)) | rfl)) ?_ ?_ <;> intro hb <;> (try simp only [beq_false, beq_true, Bool.not_true, Bool.not_false, Bool.not_eq_true', Bool.not_eq_false', decide_eq_false_iff_not, decide_eq_true_eq, bne_iff_ne, beq_iff_eq, Bool.true_eq, Bool.false_eq, Bool.not_not, Bool.and_eq_true, Bool.or_eq_true, Bool.bne_true, Bool.bne_false, bne_eq_false_iff_eq, beq_eq_false_iff_ne, ne_eq] at hb)))
      all_goals exact ⟨_, rfl, by rw [e]; exact decide_eq_true d2, HU⟩
    | false =>
      have e : L.all p4 = (L.drop (k + 1)).all p4 := by rw [hr]; rw [Bool.not_eq_false'] at B1; rw [B1]; rfl
      clear hr
      repeat' (first
        | (refine wNil ?_) | (refine xPure ?_)
        | (refine xMk ?_; intro id hid; (try simp only [set_none_iff] at hid); refine mkDo ?_)
        | (refine xChk ?_) | (refine xChkF ?_) | (refine xSkip ?_)
        | (refine wCallV rfl (by (first | (simp only [awanted, gd_zero, gd_succ, beq_self_eq_true, beq_true, beq_false, Bool.not_true, Bool.not_false, *]; done) | rfl)) rfl (by (first | rfl | (simp only [go_sem, *]; done))) (Sp.mono (sp84 y1 y2 y3 y4 _) ?_); rintro v j1 ⟨rfl, hu1⟩; rw [B1]; have HU : Up h j1 := hu.trans hu1; dsimp only [putT, ev, Int.toNat_zero, Nat.sub_zero, Int.toNat_natCast,  gd_zero, gd_succ, Nat.zero_add, Nat.add_zero, Nat.reduceAdd, Nat.reduceMul, List.set_cons_zero, List.set_cons_succ, keep, List.contains_cons, List.contains_nil])
        | (refine cSeq ?_) | (refine cNorm ?_) | (refine cRet ?_) | (refine cExit ?_) | (refine W_reg rfl ?_) | (refine W_block ?_) | (refine W_ret ?_) | (refine W_skip ?_) | (refine W_exit ?_) | (refine bNorm ?_) | (refine bRet ?_) | (refine bExit ?_) | (refine bExitN rfl ?_)
        | (refine xMask ?_) | (refine xT ?_) | (refine xF ?_) | (refine xRet ?_) | (refine xNorm ?_)
        | (refine wSplit _ rfl (by (first | (simp only [go_sem, *]; (first | done | exact rfl)) | rfl)) ?_ ?_ <;> intro hb <;> (try simp only [beq_false, beq_true, Bool.not_true, Bool.not_false, Bool.not_eq_true', Bool.not_eq_false', decide_eq_false_iff_not, decide_eq_true_eq, bne_iff_ne, beq_iff_eq, Bool.true_eq, Bool.false_eq, Bool.not_not, Bool.and_eq_true, Bool.or_eq_true, Bool.bne_true, Bool.bne_false, bne_eq_false_iff_eq, beq_eq_false_iff_ne, ne_eq] at hb))
        | (refine W_cond _ (by (first | (simp only [go_sem, *]; (first | done | exact rfl)) | rfl)) ?_ ?_ <;> intro hb <;> (try simp only [beq_false, beq_true, Bool.not_true, Bool.not_false, Bool.not_eq_true', Bool.not_eq_false', decide_eq_false_iff_not, decide_eq_true_eq, bne_iff_ne, beq_iff_eq, Bool.true_eq, Bool.false_eq, Bool.not_not, Bool.and_eq_true, Bool.or_eq_true, Bool.bne_true, Bool.bne_false, bne_eq_false_iff_eq, beq_eq_false_iff_ne, ne_eq] at hb)))
      all_goals exact ⟨m - 1, by omega, k + 1, by omega, HU, e, by simp only [keep, List.contains_cons, List.contains_nil, Nat.reduceBEq, Bool.or_true, Bool.true_or, Bool.or_false, Bool.false_or, if_true, if_false, Bool.false_eq_true, beq_self_eq_true, Nat.zero_add, Nat.reduceAdd, eq_self]⟩
  · have d1 : ¬ (k : Int) < (L.length : Int) := by omega
    rw [List.drop_of_length_le (by omega), List.all_nil] at hr
    have e : (!(L.all p4)) = false := by rw [hr]; rfl
    clear hr
    repeat' (first
      | (refine wNil ?_) | (refine xPure ?_)
      | (refine xMk ?_; intro id hid; (try simp only [set_none_iff] at hid); refine mkDo ?_)
      | (refine xChk ?_) | (refine xChkF ?_) | (refine xSkip ?_)
      | (refine cSeq ?_) | (refine cNorm ?_) | (refine cRet ?_) | (refine cExit ?_) | (refine W_reg rfl ?_) | (refine W_block ?_) | (refine W_ret ?_) | (refine W_skip ?_) | (refine W_exit ?_) | (refine bNorm ?_) | (refine bRet ?_) | (refine bExit ?_) | (refine bExitN rfl ?_)
      | (refine xMask ?_) | (refine xT ?_) | (refine xF ?_) | (refine xRet ?_) | (refine xNorm ?_)
      | (refine wSplit _ rfl (by (first | (simp only [go_sem, *]; (first | done | exact rfl)) | rfl)) ?_ ?_ <;> intro hb <;> (try simp only [beq_false, beq_true, Bool.not_true, Bool.not_false, Bool.not_eq_true', Bool.not_eq_false', decide_eq_false_iff_not, decide_eq_true_eq, bne_iff_ne, beq_iff_eq, Bool.true_eq, Bool.false_eq, Bool.not_not, Bool.and_eq_true, Bool.or_eq_true, Bool.bne_true, Bool.bne_false, bne_eq_false_iff_eq, beq_eq_false_iff_ne, ne_eq] at hb))
      | (refine W_cond _ (by (first | (simp only [go_sem, *]; (first | done | exact rfl)) | rfl)) ?_ ?_ <;> intro hb <;> (try simp only [beq_false, beq_true, Bool.not_true, Bool.not_false, Bool.not_eq_true', Bool.not_eq_false', decide_eq_false_iff_not, decide_eq_true_eq, bne_iff_ne, beq_iff_eq, Bool.true_eq, Bool.false_eq, Bool.not_not, Bool.and_eq_true, Bool.or_eq_true, Bool.bne_true, Bool.bne_false, bne_eq_false_iff_eq, beq_eq_false_iff_ne, ne_eq] at hb)))
    all_goals exact ⟨-1, rfl, by rw [e]; rfl, hu⟩
/-- slices.ContainsFunc -/
theorem sp85 (S : AV) (L : List En) (h : AH) (hS : Le h S L) (hl : L.length ≤ 1000) : Sp T 85 [S, .func 84 [] []] h (fun v h' => v = .bool (!(L.all p4)) ∧ Up h h') := by
  refine Sp_of (fn := f85) rfl (show W T b85 [S, .func 84 [] [], .tup [], .tup [], .tup [], .tup [], .tup [], .tup [], .tup []] _ _ from ?_)
  unfold b85
  repeat' (first
    | (refine wNil ?_) | (refine xPure ?_)
    | (refine xMk ?_; intro id hid; (try simp only [set_none_iff] at hid); refine mkDo ?_)
    | (refine xChk ?_) | (refine xChkF ?_) | (refine xSkip ?_)
    | (refine xCall rfl rfl (sp89 S L _ hS hl) ?_; rintro v j ⟨r, rfl, hr, hu⟩; refine nTm ?_)
    | (refine cSeq ?_) | (refine cNorm ?_) | (refine cRet ?_) | (refine cExit ?_) | (refine W_reg rfl ?_) | (refine W_block ?_) | (refine W_ret ?_) | (refine W_skip ?_) | (refine W_exit ?_) | (refine bNorm ?_) | (refine bRet ?_) | (refine bExit ?_) | (refine bExitN rfl ?_)
    | (refine xMask ?_) | (refine xT ?_) | (refine xF ?_) | (refine xRet ?_) | (refine xNorm ?_)
    | (refine wSplit _ rfl (by (first | (simp only [go_sem, *]; (first | done | exact rfl)) | rfl)) ?_ ?_ <;> intro hb <;> (try simp only [beq_false, beq_true, Bool.not_true, Bool.not_false, Bool.not_eq_true', Bool.not_eq_false', decide_eq_false_iff_not, decide_eq_true_eq, bne_iff_ne, beq_iff_eq, Bool.true_eq, Bool.false_eq, Bool.not_not, Bool.and_eq_true, Bool.or_eq_true, Bool.bne_true, Bool.bne_false, bne_eq_false_iff_eq, beq_eq_false_iff_ne, ne_eq] at hb))
    | (refine W_cond _ (by (first | (simp only [go_sem, *]; (first | done | exact rfl)) | rfl)) ?_ ?_ <;> intro hb <;> (try simp only [beq_false, beq_true, Bool.not_true, Bool.not_false, Bool.not_eq_true', Bool.not_eq_false', decide_eq_false_iff_not, decide_eq_true_eq, bne_iff_ne, beq_iff_eq, Bool.true_eq, Bool.false_eq, Bool.not_not, Bool.and_eq_true, Bool.or_eq_true, Bool.bne_true, Bool.bne_false, bne_eq_false_iff_eq, beq_eq_false_iff_ne, ne_eq] at hb)))
  all_goals exact ⟨by rw [← hr]; rfl, hu⟩
def grB (x : List UInt8) (L : List En) : Bool := !(decide (x.length ≤ 131072 ∧ L.length ≤ 64) && L.all p4)
/-- great -/
theorem sp73 (k1 k2 k3 k4 : Int) (C : Nat) (n1 s1 s2 : Int) (ok : Bool) (x : List UInt8) (S : AV) (L : List En) (h : AH) (hS : Le h S L) (hl : L.length ≤ 1000) :
    Sp T 73 [.agg [.int .i64 k1, .int .i64 k2, .int .i64 k3, .int .i64 k4, .int .u64 (C : Int), .int .i64 n1, .int .i64 s1, .int .i64 s2, .bool ok, .str (bs x), S]] h (fun v h' => v = .bool (grB x L) ∧ Up h h') := by
  have hSl := hS.len
  have hu0 := Up.refl h
  have hSc : S.scalar = true := by rcases hS with ⟨rfl, rfl⟩ | ⟨i, _, rfl, _⟩ <;> rfl
  by_cases c1 : x.length ≤ 131072
  · have d1 : ¬ (x.length : Int) > 131072 := by omega
    by_cases c2 : L.length ≤ 64
    · have d2 : ¬ (L.length : Int) > 64 := by omega
      have e : grB x L = (!(L.all p4)) := by unfold grB; rw [decide_eq_true ⟨c1, c2⟩]; rfl
      rw [e]
      clear e
      refine Sp_of (fn := f73) rfl (show W T b73 [.agg [.int .i64 k1, .int .i64 k2, .int .i64 k3, .int .i64 k4, .int .u64 (C : Int), .int .i64 n1, .int .i64 s1, .int .i64 s2, .bool ok, .str (bs x), S], .tup [], .tup [], .tup [], .tup [], .tup [], .tup [], .tup [], .tup [], .tup [], .tup [], .tup [], .tup [], .tup [], .tup [], .tup [], .tup [], .tup [], .tup [], .tup []] _ _ from ?_)
      unfold b73
      repeat' (first
        | (refine wNil ?_) | (refine xPure ?_)
        | (refine xMk ?_; intro id hid; (try simp only [set_none_iff] at hid); have hz := hid; (repeat (replace hz := hz.2)); (try have := Up.none hu0 hz); refine mkDo ?_)
        | (refine xChk ?_) | (refine xChkF ?_) | (refine xSkip ?_)
        | (refine xCall rfl rfl (sp85 S L _ (hS.up (by repeat' (first | assumption | exact Up.refl _ | refine Up.new ?_ ?_))) hl) ?_; rintro v j ⟨rfl, hu⟩; have HU := Up.trans (show Up h _ from (by repeat' (first | assumption | exact Up.refl _ | refine Up.new ?_ ?_))) hu; refine nTm ?_)
        | (refine cSeq ?_) | (refine cNorm ?_) | (refine cRet ?_) | (refine cExit ?_) | (refine W_reg rfl ?_) | (refine W_block ?_) | (refine W_ret ?_) | (refine W_skip ?_) | (refine W_exit ?_) | (refine bNorm ?_) | (refine bRet ?_) | (refine bExit ?_) | (refine bExitN rfl ?_)
        | (refine xMask ?_) | (refine xT ?_) | (refine xF ?_) | (refine xRet ?_) | (refine xNorm ?_)
        | (refine wSplit _ rfl (by (first | (simp only [go_sem, *]; (first | done | exact rfl)) | rfl)) ?_ ?_ <;> intro hb <;> (try simp only [beq_false, beq_true, Bool.not_true, Bool.not_false, Bool.not_eq_true', Bool.not_eq_false', decide_eq_false_iff_not, decide_eq_true_eq, bne_iff_ne, beq_iff_eq, Bool.true_eq, Bool.false_eq, Bool.not_not, Bool.and_eq_true, Bool.or_eq_true, Bool.bne_true, Bool.bne_false, bne_eq_false_iff_eq, beq_eq_false_iff_ne, ne_eq] at hb))
        | (refine W_cond _ (by (first | (simp only [go_sem, *]; (first | done | exact rfl)) | rfl)) ?_ ?_ <;> intro hb <;> (try simp only [beq_false, beq_true, Bool.not_true, Bool.not_false, Bool.not_eq_true', Bool.not_eq_false', decide_eq_false_iff_not, decide_eq_true_eq, bne_iff_ne, beq_iff_eq, Bool.true_eq, Bool.false_eq, Bool.not_not, Bool.and_eq_true, Bool.or_eq_true, Bool.bne_true, Bool.bne_false, bne_eq_false_iff_eq, beq_eq_false_iff_ne, ne_eq] at hb)))
      all_goals exact ⟨rfl, HU⟩
    · have d2 : (L.length : Int) > 64 := by omega
      have e : grB x L = true := by unfold grB; rw [decide_eq_false (fun hh => c2 hh.2)]; rfl
      rw [e]
      clear e
      refine Sp_of (fn := f73) rfl (show W T b73 [.agg [.int .i64 k1, .int .i64 k2, .int .i64 k3, .int .i64 k4, .int .u64 (C : Int), .int .i64 n1, .int .i64 s1, .int .i64 s2, .bool ok, .str (bs x), S], .tup [], .tup [], .tup [], .tup [], .tup [], .tup [], .tup [], .tup [], .tup [], .tup [], .tup [], .tup [], .tup [], .tup [], .tup [], .tup [], .tup [], .tup [], .tup []] _ _ from ?_)
      unfold b73
      repeat' (first
        | (refine wNil ?_) | (refine xPure ?_)
        | (refine xMk ?_; intro id hid; (try simp only [set_none_iff] at hid); have hz := hid; (repeat (replace hz := hz.2)); (try have := Up.none hu0 hz); refine mkDo ?_)
        | (refine xChk ?_) | (refine xChkF ?_) | (refine xSkip ?_)
        | (refine cSeq ?_) | (refine cNorm ?_) | (refine cRet ?_) | (refine cExit ?_) | (refine W_reg rfl ?_) | (refine W_block ?_) | (refine W_ret ?_) | (refine W_skip ?_) | (refine W_exit ?_) | (refine bNorm ?_) | (refine bRet ?_) | (refine bExit ?_) | (refine bExitN rfl ?_)
        | (refine xMask ?_) | (refine xT ?_) | (refine xF ?_) | (refine xRet ?_) | (refine xNorm ?_)
        | (refine wSplit _ rfl (by (first | (simp only [go_sem, *]; (first | done | exact rfl)) | rfl)) ?_ ?_ <;> intro hb <;> (try simp only [beq_false, beq_true, Bool.not_true, Bool.not_false, Bool.not_eq_true', Bool.not_eq_false', decide_eq_false_iff_not, decide_eq_true_eq, bne_iff_ne, beq_iff_eq, Bool.true_eq, Bool.false_eq, Bool.not_not, Bool.and_eq_true, Bool.or_eq_true, Bool.bne_true, Bool.bne_false, bne_eq_false_iff_eq, beq_eq_false_iff_ne, ne_eq] at hb))
        | (refine W_cond _ (by (first | (simp only [go_sem, *]; (first | done | exact rfl)) | rfl)) ?_ ?_ <;> intro hb <;> (try simp only [beq_false, beq_true, Bool.not_true, Bool.not_false, Bool.not_eq_true', Bool.not_eq_false', decide_eq_false_iff_not, decide_eq_true_eq, bne_iff_ne, beq_iff_eq, Bool.true_eq, Bool.false_eq, Bool.not_not, Bool.and_eq_true, Bool.or_eq_true, Bool.bne_true, Bool.bne_false, bne_eq_false_iff_eq, beq_eq_false_iff_ne, ne_eq] at hb)))
      all_goals exact ⟨rfl, (by repeat' (first | assumption | exact Up.refl _ | refine Up.new ?_ ?_))⟩
  · have d1 : (x.length : Int) > 131072 := by omega
    have e : grB x L = true := by unfold grB; rw [decide_eq_false (fun hh => c1 hh.1)]; rfl
    rw [e]
    clear e
    refine Sp_of (fn := f73) rfl (show W T b73 [.agg [.int .i64 k1, .int .i64 k2, .int .i64 k3, .int .i64 k4, .int .u64 (C : Int), .int .i64 n1, .int .i64 s1, .int .i64 s2, .bool ok, .str (bs x), S], .tup [], .tup [], .tup [], .tup [], .tup [], .tup [], .tup [], .tup [], .tup [], .tup [], .tup [], .tup [], .tup [], .tup [], .tup [], .tup [], .tup [], .tup [], .tup []] _ _ from ?_)
    unfold b73
    repeat' (first
      | (refine wNil ?_) | (refine xPure ?_)
      | (refine xMk ?_; intro id hid; (try simp only [set_none_iff] at hid); have hz := hid; (repeat (replace hz := hz.2)); (try have := Up.none hu0 hz); refine mkDo ?_)
      | (refine xChk ?_) | (refine xChkF ?_) | (refine xSkip ?_)
      | (refine cSeq ?_) | (refine cNorm ?_) | (refine cRet ?_) | (refine cExit ?_) | (refine W_reg rfl ?_) | (refine W_block ?_) | (refine W_ret ?_) | (refine W_skip ?_) | (refine W_exit ?_) | (refine bNorm ?_) | (refine bRet ?_) | (refine bExit ?_) | (refine bExitN rfl ?_)
      | (refine xMask ?_) | (refine xT ?_) | (refine xF ?_) | (refine xRet ?_) | (refine xNorm ?_)
      | (refine wSplit _ rfl (by (first | (simp only [go_sem, *]; (first | done | exact rfl)) | rfl)) ?_ ?_ <;> intro hb <;> (try simp only [beq_false, beq_true, Bool.not_true, Bool.not_false, Bool.not_eq_true', Bool.not_eq_false', decide_eq_false_iff_not, decide_eq_true_eq, bne_iff_ne, beq_iff_eq, Bool.true_eq, Bool.false_eq, Bool.not_not, Bool.and_eq_true, Bool.or_eq_true, Bool.bne_true, Bool.bne_false, bne_eq_false_iff_eq, beq_eq_false_iff_ne, ne_eq] at hb))
      | (refine W_cond _ (by (first | (simp only [go_sem, *]; (first | done | exact rfl)) | rfl)) ?_ ?_ <;> intro hb <;> (try simp only [beq_false, beq_true, Bool.not_true, Bool.not_false, Bool.not_eq_true', Bool.not_eq_false', decide_eq_false_iff_not, decide_eq_true_eq, bne_iff_ne, beq_iff_eq, Bool.true_eq, Bool.false_eq, Bool.not_not, Bool.and_eq_true, Bool.or_eq_true, Bool.bne_true, Bool.bne_false, bne_eq_false_iff_eq, beq_eq_false_iff_ne, ne_eq] at hb)))
    all_goals exact ⟨rfl, (by repeat' (first | assumption | exact Up.refl _ | refine Up.new ?_ ?_))⟩
end Go.Proofs.YtgekngfnhhdamaaI
set_option linter.unusedVariables false
set_option linter.unusedSimpArgs false
set_option maxRecDepth 100000
set_option maxHeartbeats 4000000
namespace Go.Proofs.YtgekngfnhhdamaaI
open Go Go.Proofs.YtgekngfnhhdamaaM
attribute [local go_sem] aop ev fg_slc fg_slk fg_ptr fg_bool fg_int fg_str fg_iface fg_func fg_agg fg_tup fg_nils fg_nilp fg_nilI fg_nilF fg_und aboundsK alen_nils alen_slc alen_slk aslice_nils aslice_slc aslice_slk awanted abin aun aint aeqn aeqc aeqs apart abounds abnd amaxi amaxiGo cells_agg cells_slc cells_slk cells_ptr cells_bool cells_int cells_str cells_iface cells_func cells_tup cells_nils cells_nilp cells_nilI cells_nilF cells_und sc_slc sc_slk sc_ptr sc_bool sc_int sc_str sc_iface sc_func sc_nils sc_nilp sc_nilI sc_nilF gd_zero gd_succ List.all_cons List.all_nil Bool.and_self Bool.and_true Bool.true_and List.length_cons List.length_nil Option.map_some Option.some.injEq cell_same cell_ne cell_ne' cellsAt_same cellsAt_ne cellsAt_ne' put_same put_of set_same set_ne set_ne' List.getElem?_cons_zero List.getElem?_cons_succ if_true if_false and_self and_true true_and ne_eq not_true_eq_false not_false_eq_true decide_true decide_false Bool.false_eq_true Bool.true_eq_false beq_self_eq_true bne_self_eq_false beq_true beq_false Bool.not_true Bool.not_false List.map_cons List.map_nil putL List.set_cons_zero List.set_cons_succ afill Nat.zero_le Nat.le_refl Nat.zero_add Nat.add_zero List.drop_zero List.drop_succ_cons List.take_zero List.take_succ_cons Bool.not_eq_true Bool.not_eq_false decide_eq_true_eq decide_eq_false_iff_not Int.toNat_zero Nat.sub_zero Int.toNat_natCast Bool.bne_true Bool.bne_false AH.cell AH.cellsAt AH.put Nat.mul_one Nat.one_mul Int.natCast_nonneg List.length_set bs_append bs_size bs_toList bs_extract bs_get List.cons_append List.nil_append List.append_nil Nat.sub_zero bne_self_eq_false beq_self_eq_true azeros Int.le_refl
def risP : List En → Bool
  | [] => true
  | y :: L => ris y.1 L
theorem risP_eq {L : List En} (h : ∀ y ∈ L, 0 ≤ y.1) : risP L = ris (-1) L := by
  cases L with
  | nil => rfl
  | cons y L =>
    have := h y (by simp)
    show ris y.1 L = (decide ((-1 : Int) < y.1) && ris y.1 L)
    rw [decide_eq_true (by omega)]; rfl
theorem flat0 (L : List En) (k : Nat) (y1 : Int) (y2 : Nat) (y3 : Int) (y4 : List UInt8) (hy : L[k]? = some (y1, y2, y3, y4)) : (L.flatMap eM)[k * 4]? = some (.int .i64 y1) := by
  obtain ⟨_, g2⟩ := flat_get eMz hy []
  rw [List.append_nil] at g2
  have := congrArg (·[0]?) g2
  simpa [List.getElem?_take, List.getElem?_drop, eM] using this
/-- rising -/
theorem sp74 (k1 k2 k3 k4 : Int) (C : Nat) (n1 s1 s2 : Int) (ok : Bool) (x : List UInt8) (S : AV) (L : List En) (h : AH) (hS : Le h S L) (hl : L.length ≤ 1000) :
    Sp T 74 [.agg [.int .i64 k1, .int .i64 k2, .int .i64 k3, .int .i64 k4, .int .u64 (C : Int), .int .i64 n1, .int .i64 s1, .int .i64 s2, .bool ok, .str (bs x), S]] h (fun v h' => v = .bool (risP L) ∧ Up h h') := by
  have hSl := hS.len
  have hu0 := Up.refl h
  have hSc : S.scalar = true := by rcases hS with ⟨rfl, rfl⟩ | ⟨i, _, rfl, _⟩ <;> rfl
  refine Sp_of (fn := f74) rfl (show W T b74 [.agg [.int .i64 k1, .int .i64 k2, .int .i64 k3, .int .i64 k4, .int .u64 (C : Int), .int .i64 n1, .int .i64 s1, .int .i64 s2, .bool ok, .str (bs x), S], .tup [], .tup [], .tup [], .tup [], .tup [], .tup [], .tup [], .tup [], .tup [], .tup [], .tup [], .tup [], .tup [], .tup [], .tup [], .tup [], .tup [], .tup [], .tup [], .tup [], .tup [], .tup [], .tup [], .tup []] _ _ from ?_)
  unfold b74
  repeat' (first
    | (refine wNil ?_) | (refine xPure ?_)
    | (refine xMk ?_; intro id hid; (try simp only [set_none_iff] at hid); have hz := hid; (repeat (replace hz := hz.2)); (try have := Up.none hu0 hz); refine mkDo ?_)
    | (refine xChk ?_) | (refine xChkF ?_) | (refine xSkip ?_)
    | (refine cSeq ?_) | (refine cNorm ?_) | (refine cRet ?_) | (refine cExit ?_) | (refine W_reg rfl ?_) | (refine W_block ?_) | (refine W_ret ?_) | (refine W_skip ?_) | (refine W_exit ?_) | (refine bNorm ?_) | (refine bRet ?_) | (refine bExit ?_) | (refine bExitN rfl ?_)
    | (refine xMask ?_) | (refine xT ?_) | (refine xF ?_) | (refine xRet ?_) | (refine xNorm ?_)
    | (refine wSplit _ rfl (by (first | (simp only [go_sem, *]; (first | done | exact rfl)) | rfl)) ?_ ?_ <;> intro hb <;> (try simp only [beq_false, beq_true, Bool.not_true, Bool.not_false, Bool.not_eq_true', Bool.not_eq_false', decide_eq_false_iff_not, decide_eq_true_eq, bne_iff_ne, beq_iff_eq, Bool.true_eq, Bool.false_eq, Bool.not_not, Bool.and_eq_true, Bool.or_eq_true, Bool.bne_true, Bool.bne_false, bne_eq_false_iff_eq, beq_eq_false_iff_ne, ne_eq] at hb))
    | (refine W_cond _ (by (first | (simp only [go_sem, *]; (first | done | exact rfl)) | rfl)) ?_ ?_ <;> intro hb <;> (try simp only [beq_false, beq_true, Bool.not_true, Bool.not_false, Bool.not_eq_true', Bool.not_eq_false', decide_eq_false_iff_not, decide_eq_true_eq, bne_iff_ne, beq_iff_eq, Bool.true_eq, Bool.false_eq, Bool.not_not, Bool.and_eq_true, Bool.or_eq_true, Bool.bne_true, Bool.bne_false, bne_eq_false_iff_eq, beq_eq_false_iff_ne, ne_eq] at hb)))
  obtain ⟨b1, rfl⟩ : ∃ x, x = id := ⟨_, rfl⟩
  have hb := hz
  refine W_loop (fun m tm g => ∃ k : Nat, k + m = L.length ∧ Up h g ∧ g b1 = some ⟨true, [.int .i64 k1, .int .i64 k2, .int .i64 k3, .int .i64 k4, .int .u64 (C : Int), .int .i64 n1, .int .i64 s1, .int .i64 s2, .bool ok, .str (bs x), S]⟩ ∧ (L = [] ∨ ∃ y, L[k]? = some y ∧ risP L = ris y.1 (L.drop (k + 1))) ∧ keep [1, 3] 0 tm = [.und, .ptr b1 0, .und, .int .i64 ((k + 1 : Nat) : Int), .und, .und, .und, .und, .und, .und, .und, .und, .und, .und, .und, .und, .und, .und, .und, .und, .und, .und, .und, .und, .und]) L.length ⟨0, by omega, Up.new hu0 hb, set_same, ?_, rfl⟩ ?_
  · cases L with
    | nil => exact .inl rfl
    | cons y L => exact .inr ⟨y, rfl, rfl⟩
  clear hid hz this hu0
  rintro m tm g ⟨k, hk, hu, h1, hr, htm⟩
  refine cSeq (cMask (cNorm ?_))
  rw [htm]; clear htm
  by_cases hkl : k + 1 < L.length
  · have d1 : ((k + 1 : Nat) : Int) < (L.length : Int) := by omega
    have d2 : (0 : Int) ≤ (k : Int) := by omega
    have d3 : (k : Int) < (L.length : Int) := by omega
    have d4 : (0 : Int) ≤ ((k + 1 : Nat) : Int) := by omega
    have w1 : IntKind.i64.wrap (((k + 1 : Nat) : Int) + 1) = ((k + 1 + 1 : Nat) : Int) := by rw [wrap64 (by omega) (by omega)]; rfl
    have w2 : IntKind.i64.wrap (((k + 1 : Nat) : Int) - 1) = (k : Int) := by rw [wrap64 (by omega) (by omega)]; omega
    rcases hr with rfl | ⟨⟨z1, z2, z3, z4⟩, hz, hr⟩
    · simp at hkl
    obtain ⟨⟨y1, y2, y3, y4⟩, hy⟩ : ∃ y, L[k + 1]? = some y := ⟨_, List.getElem?_eq_getElem hkl⟩
    have hdr : L.drop (k + 1) = (y1, y2, y3, y4) :: L.drop (k + 1 + 1) := by rw [List.drop_eq_getElem_cons hkl, (List.getElem?_eq_some_iff.1 hy).2]
    rw [hdr, ris] at hr
    rcases hS with ⟨rfl, rfl⟩ | ⟨iL, ow, rfl, hL⟩
    · simp at hkl
    have hLg := hu _ _ hL
    have g3 : (L.flatMap eM)[(k + 1) * 4]? = some (.int .i64 y1) := flat0 L (k + 1) y1 y2 y3 y4 hy
    have g4 : (L.flatMap eM)[k * 4]? = some (.int .i64 z1) := flat0 L k z1 z2 z3 z4 hz
    have hy' := hy
    clear hdr hy hz
    by_cases hy1 : y1 ≤ z1
    · have e : risP L = false := by rw [hr, decide_eq_false (by simp only; omega)]; rfl
      rw [e]
      clear hr e
      repeat' (first
        | (refine wNil ?_) | (refine xPure ?_)
        | (refine xMk ?_; intro id hid; (try simp only [set_none_iff] at hid); have hz := hid; (repeat (replace hz := hz.2)); (try have := nei hLg hz); (try have := Up.none hu hz); refine mkDo ?_)
        | (refine xChk ?_) | (refine xChkF ?_) | (refine xSkip ?_)
        | (refine cSeq ?_) | (refine cNorm ?_) | (refine cRet ?_) | (refine cExit ?_) | (refine W_reg rfl ?_) | (refine W_block ?_) | (refine W_ret ?_) | (refine W_skip ?_) | (refine W_exit ?_) | (refine bNorm ?_) | (refine bRet ?_) | (refine bExit ?_) | (refine bExitN rfl ?_)
        | (refine xMask ?_) | (refine xT ?_) | (refine xF ?_) | (refine xRet ?_) | (refine xNorm ?_)
        | (refine wSplit _ rfl (by (first | (simp only [go_sem, *]; (first | done | exact rfl)) | rfl)) ?_ ?_ <;> intro hb <;> (try simp only [beq_false, beq_true, Bool.not_true, Bool.not_false, Bool.not_eq_true', Bool.not_eq_false', decide_eq_false_iff_not, decide_eq_true_eq, bne_iff_ne, beq_iff_eq, Bool.true_eq, Bool.false_eq, Bool.not_not, Bool.and_eq_true, Bool.or_eq_true, Bool.bne_true, Bool.bne_false, bne_eq_false_iff_eq, beq_eq_false_iff_ne, ne_eq] at hb))
        | (refine W_cond _ (by (first | (simp only [go_sem, *]; (first | done | exact rfl)) | rfl)) ?_ ?_ <;> intro hb <;> (try simp only [beq_false, beq_true, Bool.not_true, Bool.not_false, Bool.not_eq_true', Bool.not_eq_false', decide_eq_false_iff_not, decide_eq_true_eq, bne_iff_ne, beq_iff_eq, Bool.true_eq, Bool.false_eq, Bool.not_not, Bool.and_eq_true, Bool.or_eq_true, Bool.bne_true, Bool.bne_false, bne_eq_false_iff_eq, beq_eq_false_iff_ne, ne_eq] at hb)))
      all_goals exact ⟨rfl, hu⟩
    · have e : risP L = ris y1 (L.drop (k + 1 + 1)) := by rw [hr, decide_eq_true (by simp only; omega)]; rfl
      clear hr
      repeat' (first
        | (refine wNil ?_) | (refine xPure ?_)
        | (refine xMk ?_; intro id hid; (try simp only [set_none_iff] at hid); have hz := hid; (repeat (replace hz := hz.2)); (try have := nei hLg hz); (try have := Up.none hu hz); refine mkDo ?_)
        | (refine xChk ?_) | (refine xChkF ?_) | (refine xSkip ?_)
        | (refine cSeq ?_) | (refine cNorm ?_) | (refine cRet ?_) | (refine cExit ?_) | (refine W_reg rfl ?_) | (refine W_block ?_) | (refine W_ret ?_) | (refine W_skip ?_) | (refine W_exit ?_) | (refine bNorm ?_) | (refine bRet ?_) | (refine bExit ?_) | (refine bExitN rfl ?_)
        | (refine xMask ?_) | (refine xT ?_) | (refine xF ?_) | (refine xRet ?_) | (refine xNorm ?_)
        | (refine wSplit _ rfl (by (first | (simp only [go_sem, *]; (first | done | exact rfl)) | rfl)) ?_ ?_ <;> intro hb <;> (try simp only [beq_false, beq_true, Bool.not_true, Bool.not_false, Bool.not_eq_true', Bool.not_eq_false', decide_eq_false_iff_not, decide_eq_true_eq, bne_iff_ne, beq_iff_eq, Bool.true_eq, Bool.false_eq, Bool.not_not, Bool.and_eq_true, Bool.or_eq_true, Bool.bne_true, Bool.bne_false, bne_eq_false_iff_eq, beq_eq_false_iff_ne, ne_eq] at hb))
        | (refine W_cond _ (by (first | (simp only [go_sem, *]; (first | done | exact rfl)) | rfl)) ?_ ?_ <;> intro hb <;> (try simp only [beq_false, beq_true, Bool.not_true, Bool.not_false, Bool.not_eq_true', Bool.not_eq_false', decide_eq_false_iff_not, decide_eq_true_eq, bne_iff_ne, beq_iff_eq, Bool.true_eq, Bool.false_eq, Bool.not_not, Bool.and_eq_true, Bool.or_eq_true, Bool.bne_true, Bool.bne_false, bne_eq_false_iff_eq, beq_eq_false_iff_ne, ne_eq] at hb)))
      all_goals exact ⟨m - 1, by omega, k + 1, by omega, hu, h1, .inr ⟨_, hy', e⟩, by simp only [keep, List.contains_cons, List.contains_nil, Nat.reduceBEq, Bool.or_true, Bool.true_or, Bool.or_false, Bool.false_or, if_true, if_false, Bool.false_eq_true, beq_self_eq_true, Nat.zero_add, Nat.reduceAdd, eq_self]⟩
  · have d1 : ¬ ((k + 1 : Nat) : Int) < (L.length : Int) := by omega
    have e : risP L = true := by
      rcases hr with rfl | ⟨y, _, hr⟩
      · rfl
      · rw [hr, List.drop_of_length_le (by omega)]; rfl
    rw [e]
    clear hr e
    repeat' (first
      | (refine wNil ?_) | (refine xPure ?_)
      | (refine xMk ?_; intro id hid; (try simp only [set_none_iff] at hid); refine mkDo ?_)
      | (refine xChk ?_) | (refine xChkF ?_) | (refine xSkip ?_)
      | (refine cSeq ?_) | (refine cNorm ?_) | (refine cRet ?_) | (refine cExit ?_) | (refine W_reg rfl ?_) | (refine W_block ?_) | (refine W_ret ?_) | (refine W_skip ?_) | (refine W_exit ?_) | (refine bNorm ?_) | (refine bRet ?_) | (refine bExit ?_) | (refine bExitN rfl ?_)
      | (refine xMask ?_) | (refine xT ?_) | (refine xF ?_) | (refine xRet ?_) | (refine xNorm ?_)
      | (refine wSplit _ rfl (by (first | (simp only [go_sem, *]; (first | done | exact rfl)) | rfl)) ?_ ?_ <;> intro hb <;> (try simp only [beq_false, beq_true, Bool.not_true, Bool.not_false, Bool.not_eq_true', Bool.not_eq_false', decide_eq_false_iff_not, decide_eq_true_eq, bne_iff_ne, beq_iff_eq, Bool.true_eq, Bool.false_eq, Bool.not_not, Bool.and_eq_true, Bool.or_eq_true, Bool.bne_true, Bool.bne_false, bne_eq_false_iff_eq, beq_eq_false_iff_ne, ne_eq] at hb))
      | (refine W_cond _ (by (first | (simp only [go_sem, *]; (first | done | exact rfl)) | rfl)) ?_ ?_ <;> intro hb <;> (try simp only [beq_false, beq_true, Bool.not_true, Bool.not_false, Bool.not_eq_true', Bool.not_eq_false', decide_eq_false_iff_not, decide_eq_true_eq, bne_iff_ne, beq_iff_eq, Bool.true_eq, Bool.false_eq, Bool.not_not, Bool.and_eq_true, Bool.or_eq_true, Bool.bne_true, Bool.bne_false, bne_eq_false_iff_eq, beq_eq_false_iff_ne, ne_eq] at hb)))
    all_goals exact ⟨rfl, hu⟩
def rgB (k2 k3 k4 : Int) (C : Nat) (n1 s1 s2 : Int) (L : List En) : Bool := (decide (0 ≤ k2 ∧ k2 ≤ 11) && (decide (0 ≤ k3 ∧ k3 ≤ 11) && (decide (0 ≤ k4 ∧ k4 ≤ 3) && (snd C n1 && (L.all p2 && (decide (0 ≤ s1 ∧ s1 ≤ 1099511627776) && decide (0 ≤ s2 ∧ s2 ≤ 1099511627776)))))))
def L72c : ICode := (.seq (.block 0 (.loop (.seq (.mask [1, 28, 29, 30]) (.seq (.reg [(0, false)] r72_4)
 (.seq (.cond (.t 31) .skip
 (.exit 0))
 (.seq (.seq (.block 1 (.seq (.reg [(0, false), (1, false), (2, false), (3, false)] r72_5)
 (.seq (.reg [(0, false), (1, false), (2, false), (3, false), (4, false), (5, false), (6, false), (7, false), (8, false), (9, false)] r72_6)
 (.cond (.t 43) (.seq (.reg [(0, false)] r72_7)
 .ret)
 .skip)))) (.mask [1, 28, 29, 30]))
 (.reg [(0, false), (1, false)] r72_8))))))) (.mask [1]))
def R72c : ICode := (.seq (.reg [(0, false), (1, false), (2, false), (3, false), (4, false), (5, false), (6, false), (7, false), (8, false)] r72_9)
 .ret)
theorem loop72 (k1 k2 k3 k4 : Int) (C : Nat) (n1 s1 s2 : Int) (ok : Bool) (x : List UInt8) (S : AV) (L : List En) (h g : AH) (b1 : List Nat) (hS : Le h S L) (hl : L.length ≤ 1000) (hu : Up h g) (h1 : g b1 = some ⟨true, [.int .i64 k1, .int .i64 k2, .int .i64 k3, .int .i64 k4, .int .u64 (C : Int), .int .i64 n1, .int .i64 s1, .int .i64 s2, .bool ok, .str (bs x), S]⟩)
    (Q : AV → AH → Prop) (hQ : ∀ g', Up h g' → Q (.bool (L.all p2 && (decide (0 ≤ s1 ∧ s1 ≤ 1099511627776) && decide (0 ≤ s2 ∧ s2 ≤ 1099511627776)))) g') (tm : List AV) (htm : keep [1, 28, 29, 30] 0 tm = [.und, .ptr b1 0, .und, .und, .und, .und, .und, .und, .und, .und, .und, .und, .und, .und, .und, .und, .und, .und, .und, .und, .und, .und, .und, .und, .und, .und, .und, .und, S, .int .i64 (L.length : Int), .int .i64 0, .und, .und, .und, .und, .und, .und, .und, .und, .und, .und, .und, .und, .und, .und, .und, .und, .und, .und, .und, .und, .und, .und]) :
    W T L72c tm g (Then (fun tm' h' => W T R72c tm' h' (Rets f72 Q)) (Rets f72 Q)) := by
  unfold L72c
  refine cSeq ?_
  refine W_block ?_
  refine W_loop (fun m tm g => ∃ k : Nat, k + m = L.length ∧ Up h g ∧ g b1 = some ⟨true, [.int .i64 k1, .int .i64 k2, .int .i64 k3, .int .i64 k4, .int .u64 (C : Int), .int .i64 n1, .int .i64 s1, .int .i64 s2, .bool ok, .str (bs x), S]⟩ ∧ L.all p2 = (L.drop k).all p2 ∧ keep [1, 28, 29, 30] 0 tm = [.und, .ptr b1 0, .und, .und, .und, .und, .und, .und, .und, .und, .und, .und, .und, .und, .und, .und, .und, .und, .und, .und, .und, .und, .und, .und, .und, .und, .und, .und, S, .int .i64 (L.length : Int), .int .i64 (k : Int), .und, .und, .und, .und, .und, .und, .und, .und, .und, .und, .und, .und, .und, .und, .und, .und, .und, .und, .und, .und, .und, .und]) L.length ⟨0, by omega, hu, h1, by rw [List.drop_zero], htm⟩ ?_
  clear htm h1 hu
  rintro m tm g ⟨k, hk, hu, h1, hr, htm⟩
  refine cSeq (cMask (cNorm ?_))
  rw [htm]; clear htm
  by_cases hkl : k < L.length
  · have d1 : (k : Int) < (L.length : Int) := by omega
    have d2 : (0 : Int) ≤ (k : Int) := by omega
    have w1 : IntKind.i64.wrap ((k : Int) + 1) = ((k + 1 : Nat) : Int) := by rw [wrap64 (by omega) (by omega)]; rfl
    obtain ⟨⟨y1, y2, y3, y4⟩, hy⟩ : ∃ y, L[k]? = some y := ⟨_, List.getElem?_eq_getElem hkl⟩
    have hdr : L.drop k = (y1, y2, y3, y4) :: L.drop (k + 1) := by rw [List.drop_eq_getElem_cons hkl, (List.getElem?_eq_some_iff.1 hy).2]
    rw [hdr, List.all_cons] at hr
    rcases hS with ⟨rfl, rfl⟩ | ⟨iL, ow, rfl, hL⟩
    · simp at hkl
    have hLg := hu _ _ hL
    obtain ⟨g1, g2⟩ := flat_get eMz hy []
    rw [List.append_nil] at g1 g2
    simp only [eM] at g2
    clear hdr hy
    cases B1 : snd y2 y3 with
    | false =>
      have e : L.all p2 = false := by rw [hr]; unfold p2; rw [B1]; rfl
      rw [e] at hQ
      clear hr e
      repeat' (first
        | (refine wNil ?_) | (refine xPure ?_)
        | (refine xMk ?_; intro id hid; (try simp only [set_none_iff] at hid); have hz := hid; (repeat (replace hz := hz.2)); (try have := nei hLg hz); (try have := nei h1 hz); (try have := Up.none hu hz); refine mkDo ?_)
        | (refine xChk ?_) | (refine xChkF ?_) | (refine xSkip ?_)
        | (refine xCall rfl rfl (sp83 y2 y3 _) ?_; rintro v j3 ⟨rfl, hu3⟩; rw [B1]; have hid3 := hu3 _ _ set_same; have h13 := hu3 b1 _ (by simp only [set_ne (nei h1 hid)]; exact h1); have HU : Up h j3 := (fun z b e => hu3 z b (by simp only [set_ne (nei (hu z b e) hid)]; exact hu z b e)); refine nTm ?_)
        | (refine cSeq ?_) | (refine cNorm ?_) | (refine cRet ?_) | (refine cExit ?_) | (refine W_reg rfl ?_) | (refine W_block ?_) | (refine W_ret ?_) | (refine W_skip ?_) | (refine W_exit ?_) | (refine bNorm ?_) | (refine bRet ?_) | (refine bExit ?_) | (refine bExitN rfl ?_)
        | (refine xMask ?_) | (refine xT ?_) | (refine xF ?_) | (refine xRet ?_) | (refine xNorm ?_)
        | (refine wSplit _ rfl (by (first | (simp only [go_sem, *]; (first | done | exact rfl)) | rfl)) ?_ ?_ <;> intro hb <;> (try simp only [beq_false, beq_true, Bool.not_true, Bool.not_false, Bool.not_eq_true', Bool.not_eq_false', decide_eq_false_iff_not, decide_eq_true_eq, bne_iff_ne, beq_iff_eq, Bool.true_eq, Bool.false_eq, Bool.not_not, Bool.and_eq_true, Bool.or_eq_true, Bool.bne_true, Bool.bne_false, bne_eq_false_iff_eq, beq_eq_false_iff_ne, ne_eq] at hb))
        | (refine W_cond _ (by (first | (simp only [go_sem, *]; (first | done | exact rfl)) | rfl)) ?_ ?_ <;> intro hb <;> (try simp only [beq_false, beq_true, Bool.not_true, Bool.not_false, Bool.not_eq_true', Bool.not_eq_false', decide_eq_false_iff_not, decide_eq_true_eq, bne_iff_ne, beq_iff_eq, Bool.true_eq, Bool.false_eq, Bool.not_not, Bool.and_eq_true, Bool.or_eq_true, Bool.bne_true, Bool.bne_false, bne_eq_false_iff_eq, beq_eq_false_iff_ne, ne_eq] at hb)))
      all_goals exact hQ _ HU
    | true =>
      cases B2 : decide (0 ≤ y1 ∧ y1 ≤ 1099511627776) with
      | false =>
        have e : L.all p2 = false := by rw [hr]; unfold p2; rw [B1, B2]; rfl
        rw [e] at hQ
        clear hr e
        repeat' (first
          | (refine wNil ?_) | (refine xPure ?_)
          | (refine xMk ?_; intro id hid; (try simp only [set_none_iff] at hid); have hz := hid; (repeat (replace hz := hz.2)); (try have := nei hLg hz); (try have := nei h1 hz); (try have := Up.none hu hz); refine mkDo ?_)
          | (refine xChk ?_) | (refine xChkF ?_) | (refine xSkip ?_)
          | (refine xCall rfl rfl (sp83 y2 y3 _) ?_; rintro v j3 ⟨rfl, hu3⟩; rw [B1]; have hid3 := hu3 _ _ set_same; have h13 := hu3 b1 _ (by simp only [set_ne (nei h1 hid)]; exact h1); have HU : Up h j3 := (fun z b e => hu3 z b (by simp only [set_ne (nei (hu z b e) hid)]; exact hu z b e)); refine nTm ?_)
          | (refine xCall rfl rfl (sp82 y1 1099511627776 _) ?_; rintro v j4 ⟨rfl, hx⟩; cases hx; rw [B2]; refine nTm ?_)
          | (refine cSeq ?_) | (refine cNorm ?_) | (refine cRet ?_) | (refine cExit ?_) | (refine W_reg rfl ?_) | (refine W_block ?_) | (refine W_ret ?_) | (refine W_skip ?_) | (refine W_exit ?_) | (refine bNorm ?_) | (refine bRet ?_) | (refine bExit ?_) | (refine bExitN rfl ?_)
          | (refine xMask ?_) | (refine xT ?_) | (refine xF ?_) | (refine xRet ?_) | (refine xNorm ?_)
          | (refine wSplit _ rfl (by (first | (simp only [go_sem, *]; (first | done | exact rfl)) | rfl)) ?_ ?_ <;> intro hb <;> (try simp only [beq_false, beq_true, Bool.not_true, Bool.not_false, Bool.not_eq_true', Bool.not_eq_false', decide_eq_false_iff_not, decide_eq_true_eq, bne_iff_ne, beq_iff_eq, Bool.true_eq, Bool.false_eq, Bool.not_not, Bool.and_eq_true, Bool.or_eq_true, Bool.bne_true, Bool.bne_false, bne_eq_false_iff_eq, beq_eq_false_iff_ne, ne_eq] at hb))
          | (refine W_cond _ (by (first | (simp only [go_sem, *]; (first | done | exact rfl)) | rfl)) ?_ ?_ <;> intro hb <;> (try simp only [beq_false, beq_true, Bool.not_true, Bool.not_false, Bool.not_eq_true', Bool.not_eq_false', decide_eq_false_iff_not, decide_eq_true_eq, bne_iff_ne, beq_iff_eq, Bool.true_eq, Bool.false_eq, Bool.not_not, Bool.and_eq_true, Bool.or_eq_true, Bool.bne_true, Bool.bne_false, bne_eq_false_iff_eq, beq_eq_false_iff_ne, ne_eq] at hb)))
        all_goals exact hQ _ HU
      | true =>
        have hp : (p2 (y1, y2, y3, y4) && (L.drop (k + 1)).all p2) = (L.drop (k + 1)).all p2 := by unfold p2; rw [B1, B2]; rfl
        repeat' (first
          | (refine wNil ?_) | (refine xPure ?_)
          | (refine xMk ?_; intro id hid; (try simp only [set_none_iff] at hid); have hz := hid; (repeat (replace hz := hz.2)); (try have := nei hLg hz); (try have := nei h1 hz); (try have := Up.none hu hz); refine mkDo ?_)
          | (refine xChk ?_) | (refine xChkF ?_) | (refine xSkip ?_)
          | (refine xCall rfl rfl (sp83 y2 y3 _) ?_; rintro v j3 ⟨rfl, hu3⟩; rw [B1]; have hid3 := hu3 _ _ set_same; have h13 := hu3 b1 _ (by simp only [set_ne (nei h1 hid)]; exact h1); have HU : Up h j3 := (fun z b e => hu3 z b (by simp only [set_ne (nei (hu z b e) hid)]; exact hu z b e)); refine nTm ?_)
          | (refine xCall rfl rfl (sp82 y1 1099511627776 _) ?_; rintro v j4 ⟨rfl, hx⟩; cases hx; rw [B2]; refine nTm ?_)
          | (refine cSeq ?_) | (refine cNorm ?_) | (refine cRet ?_) | (refine cExit ?_) | (refine W_reg rfl ?_) | (refine W_block ?_) | (refine W_ret ?_) | (refine W_skip ?_) | (refine W_exit ?_) | (refine bNorm ?_) | (refine bRet ?_) | (refine bExit ?_) | (refine bExitN rfl ?_)
          | (refine xMask ?_) | (refine xT ?_) | (refine xF ?_) | (refine xRet ?_) | (refine xNorm ?_)
          | (refine wSplit _ rfl (by (first | (simp only [go_sem, *]; (first | done | exact rfl)) | rfl)) ?_ ?_ <;> intro hb <;> (try simp only [beq_false, beq_true, Bool.not_true, Bool.not_false, Bool.not_eq_true', Bool.not_eq_false', decide_eq_false_iff_not, decide_eq_true_eq, bne_iff_ne, beq_iff_eq, Bool.true_eq, Bool.false_eq, Bool.not_not, Bool.and_eq_true, Bool.or_eq_true, Bool.bne_true, Bool.bne_false, bne_eq_false_iff_eq, beq_eq_false_iff_ne, ne_eq] at hb))
          | (refine W_cond _ (by (first | (simp only [go_sem, *]; (first | done | exact rfl)) | rfl)) ?_ ?_ <;> intro hb <;> (try simp only [beq_false, beq_true, Bool.not_true, Bool.not_false, Bool.not_eq_true', Bool.not_eq_false', decide_eq_false_iff_not, decide_eq_true_eq, bne_iff_ne, beq_iff_eq, Bool.true_eq, Bool.false_eq, Bool.not_not, Bool.and_eq_true, Bool.or_eq_true, Bool.bne_true, Bool.bne_false, bne_eq_false_iff_eq, beq_eq_false_iff_ne, ne_eq] at hb)))
        all_goals exact ⟨m - 1, by omega, k + 1, by omega, HU, h13, by rw [hr]; exact hp, by simp only [keep, List.contains_cons, List.contains_nil, Nat.reduceBEq, Bool.or_true, Bool.true_or, Bool.or_false, Bool.false_or, if_true, if_false, Bool.false_eq_true, beq_self_eq_true, Nat.zero_add, Nat.reduceAdd, eq_self]⟩
  · have d1 : ¬ (k : Int) < (L.length : Int) := by omega
    rw [List.drop_of_length_le (by omega), List.all_nil] at hr
    rw [hr, Bool.true_and] at hQ
    unfold R72c
    cases B5 : decide (0 ≤ s1 ∧ s1 ≤ 1099511627776) with
    | false =>
      rw [B5, Bool.false_and] at hQ
      repeat' (first
        | (refine wNil ?_) | (refine xPure ?_)
        | (refine xMk ?_; intro id hid; (try simp only [set_none_iff] at hid); refine mkDo ?_)
        | (refine xChk ?_) | (refine xChkF ?_) | (refine xSkip ?_)
        | (refine xCall rfl rfl (sp82 s1 1099511627776 _) ?_; rintro v h' ⟨rfl, hx⟩; cases hx; rw [B5]; refine nTm ?_)
        | (refine xCall rfl rfl (sp82 s2 1099511627776 _) ?_; rintro v h' ⟨rfl, hx⟩; cases hx; refine nTm ?_)
        | (refine cSeq ?_) | (refine cNorm ?_) | (refine cRet ?_) | (refine cExit ?_) | (refine W_reg rfl ?_) | (refine W_block ?_) | (refine W_ret ?_) | (refine W_skip ?_) | (refine W_exit ?_) | (refine bNorm ?_) | (refine bRet ?_) | (refine bExit ?_) | (refine bExitN rfl ?_)
        | (refine xMask ?_) | (refine xT ?_) | (refine xF ?_) | (refine xRet ?_) | (refine xNorm ?_)
        | (refine wSplit _ rfl (by (first | (simp only [go_sem, *]; (first | done | exact rfl)) | rfl)) ?_ ?_ <;> intro hb <;> (try simp only [beq_false, beq_true, Bool.not_true, Bool.not_false, Bool.not_eq_true', Bool.not_eq_false', decide_eq_false_iff_not, decide_eq_true_eq, bne_iff_ne, beq_iff_eq, Bool.true_eq, Bool.false_eq, Bool.not_not, Bool.and_eq_true, Bool.or_eq_true, Bool.bne_true, Bool.bne_false, bne_eq_false_iff_eq, beq_eq_false_iff_ne, ne_eq] at hb))
        | (refine W_cond _ (by (first | (simp only [go_sem, *]; (first | done | exact rfl)) | rfl)) ?_ ?_ <;> intro hb <;> (try simp only [beq_false, beq_true, Bool.not_true, Bool.not_false, Bool.not_eq_true', Bool.not_eq_false', decide_eq_false_iff_not, decide_eq_true_eq, bne_iff_ne, beq_iff_eq, Bool.true_eq, Bool.false_eq, Bool.not_not, Bool.and_eq_true, Bool.or_eq_true, Bool.bne_true, Bool.bne_false, bne_eq_false_iff_eq, beq_eq_false_iff_ne, ne_eq] at hb)))
      all_goals exact hQ _ hu
    | true =>
      rw [B5, Bool.true_and] at hQ
      repeat' (first
        | (refine wNil ?_) | (refine xPure ?_)
        | (refine xMk ?_; intro id hid; (try simp only [set_none_iff] at hid); refine mkDo ?_)
        | (refine xChk ?_) | (refine xChkF ?_) | (refine xSkip ?_)
        | (refine xCall rfl rfl (sp82 s1 1099511627776 _) ?_; rintro v h' ⟨rfl, hx⟩; cases hx; rw [B5]; refine nTm ?_)
        | (refine xCall rfl rfl (sp82 s2 1099511627776 _) ?_; rintro v h' ⟨rfl, hx⟩; cases hx; refine nTm ?_)
        | (refine cSeq ?_) | (refine cNorm ?_) | (refine cRet ?_) | (refine cExit ?_) | (refine W_reg rfl ?_) | (refine W_block ?_) | (refine W_ret ?_) | (refine W_skip ?_) | (refine W_exit ?_) | (refine bNorm ?_) | (refine bRet ?_) | (refine bExit ?_) | (refine bExitN rfl ?_)
        | (refine xMask ?_) | (refine xT ?_) | (refine xF ?_) | (refine xRet ?_) | (refine xNorm ?_)
        | (refine wSplit _ rfl (by (first | (simp only [go_sem, *]; (first | done | exact rfl)) | rfl)) ?_ ?_ <;> intro hb <;> (try simp only [beq_false, beq_true, Bool.not_true, Bool.not_false, Bool.not_eq_true', Bool.not_eq_false', decide_eq_false_iff_not, decide_eq_true_eq, bne_iff_ne, beq_iff_eq, Bool.true_eq, Bool.false_eq, Bool.not_not, Bool.and_eq_true, Bool.or_eq_true, Bool.bne_true, Bool.bne_false, bne_eq_false_iff_eq, beq_eq_false_iff_ne, ne_eq] at hb))
        | (refine W_cond _ (by (first | (simp only [go_sem, *]; (first | done | exact rfl)) | rfl)) ?_ ?_ <;> intro hb <;> (try simp only [beq_false, beq_true, Bool.not_true, Bool.not_false, Bool.not_eq_true', Bool.not_eq_false', decide_eq_false_iff_not, decide_eq_true_eq, bne_iff_ne, beq_iff_eq, Bool.true_eq, Bool.false_eq, Bool.not_not, Bool.and_eq_true, Bool.or_eq_true, Bool.bne_true, Bool.bne_false, bne_eq_false_iff_eq, beq_eq_false_iff_ne, ne_eq] at hb)))
      all_goals exact hQ _ hu
/-- ranged -/
theorem sp72 (k1 k2 k3 k4 : Int) (C : Nat) (n1 s1 s2 : Int) (ok : Bool) (x : List UInt8) (S : AV) (L : List En) (h : AH) (hS : Le h S L) (hl : L.length ≤ 1000) :
    Sp T 72 [.agg [.int .i64 k1, .int .i64 k2, .int .i64 k3, .int .i64 k4, .int .u64 (C : Int), .int .i64 n1, .int .i64 s1, .int .i64 s2, .bool ok, .str (bs x), S]] h (fun v h' => v = .bool (rgB k2 k3 k4 C n1 s1 s2 L) ∧ Up h h') := by
  have hSl := hS.len
  have hSc : S.scalar = true := by rcases hS with ⟨rfl, rfl⟩ | ⟨i, _, rfl, _⟩ <;> rfl
  cases B0 : decide (0 ≤ k2 ∧ k2 ≤ 11) with
  | false =>
    have e : rgB k2 k3 k4 C n1 s1 s2 L = false := by unfold rgB; rw [B0]; simp only [Bool.true_and, Bool.false_and]
    rw [e]
    clear e
    refine Sp_of (fn := f72) rfl (show W T b72 [.agg [.int .i64 k1, .int .i64 k2, .int .i64 k3, .int .i64 k4, .int .u64 (C : Int), .int .i64 n1, .int .i64 s1, .int .i64 s2, .bool ok, .str (bs x), S], .tup [], .tup [], .tup [], .tup [], .tup [], .tup [], .tup [], .tup [], .tup [], .tup [], .tup [], .tup [], .tup [], .tup [], .tup [], .tup [], .tup [], .tup [], .tup [], .tup [], .tup [], .tup [], .tup [], .tup [], .tup [], .tup [], .tup [], .tup [], .tup [], .tup [], .tup [], .tup [], .tup [], .tup [], .tup [], .tup [], .tup [], .tup [], .tup [], .tup [], .tup [], .tup [], .tup [], .tup [], .tup [], .tup [], .tup [], .tup [], .tup [], .tup [], .tup [], .tup []] _ _ from ?_)
    unfold b72
    repeat' (first
      | (refine wNil ?_) | (refine xPure ?_)
      | (refine xMk ?_; intro id hid; (try simp only [set_none_iff] at hid); refine mkDo ?_)
      | (refine xChk ?_) | (refine xChkF ?_) | (refine xSkip ?_)
      | (refine xCall rfl rfl (sp82 k2 11 _) ?_; rintro v h' ⟨rfl, hx⟩; cases hx; rw [B0]; refine nTm ?_)
      | (refine cSeq ?_) | (refine cNorm ?_) | (refine cRet ?_) | (refine cExit ?_) | (refine W_reg rfl ?_) | (refine W_block ?_) | (refine W_ret ?_) | (refine W_skip ?_) | (refine W_exit ?_) | (refine bNorm ?_) | (refine bRet ?_) | (refine bExit ?_) | (refine bExitN rfl ?_)
      | (refine xMask ?_) | (refine xT ?_) | (refine xF ?_) | (refine xRet ?_) | (refine xNorm ?_)
      | (refine wSplit _ rfl (by (first | (simp only [go_sem, *]; (first | done | exact rfl)) | rfl)) ?_ ?_ <;> intro hb <;> (try simp only [beq_false, beq_true, Bool.not_true, Bool.not_false, Bool.not_eq_true', Bool.not_eq_false', decide_eq_false_iff_not, decide_eq_true_eq, bne_iff_ne, beq_iff_eq, Bool.true_eq, Bool.false_eq, Bool.not_not, Bool.and_eq_true, Bool.or_eq_true, Bool.bne_true, Bool.bne_false, bne_eq_false_iff_eq, beq_eq_false_iff_ne, ne_eq] at hb))
      | (refine W_cond _ (by (first | (simp only [go_sem, *]; (first | done | exact rfl)) | rfl)) ?_ ?_ <;> intro hb <;> (try simp only [beq_false, beq_true, Bool.not_true, Bool.not_false, Bool.not_eq_true', Bool.not_eq_false', decide_eq_false_iff_not, decide_eq_true_eq, bne_iff_ne, beq_iff_eq, Bool.true_eq, Bool.false_eq, Bool.not_not, Bool.and_eq_true, Bool.or_eq_true, Bool.bne_true, Bool.bne_false, bne_eq_false_iff_eq, beq_eq_false_iff_ne, ne_eq] at hb)))
    all_goals exact ⟨rfl, Up.new (Up.refl h) (by assumption)⟩
  | true =>
    cases B1 : decide (0 ≤ k3 ∧ k3 ≤ 11) with
    | false =>
      have e : rgB k2 k3 k4 C n1 s1 s2 L = false := by unfold rgB; rw [B0, B1]; simp only [Bool.true_and, Bool.false_and]
      rw [e]
      clear e
      refine Sp_of (fn := f72) rfl (show W T b72 [.agg [.int .i64 k1, .int .i64 k2, .int .i64 k3, .int .i64 k4, .int .u64 (C : Int), .int .i64 n1, .int .i64 s1, .int .i64 s2, .bool ok, .str (bs x), S], .tup [], .tup [], .tup [], .tup [], .tup [], .tup [], .tup [], .tup [], .tup [], .tup [], .tup [], .tup [], .tup [], .tup [], .tup [], .tup [], .tup [], .tup [], .tup [], .tup [], .tup [], .tup [], .tup [], .tup [], .tup [], .tup [], .tup [], .tup [], .tup [], .tup [], .tup [], .tup [], .tup [], .tup [], .tup [], .tup [], .tup [], .tup [], .tup [], .tup [], .tup [], .tup [], .tup [], .tup [], .tup [], .tup [], .tup [], .tup [], .tup [], .tup [], .tup [], .tup []] _ _ from ?_)
      unfold b72
      repeat' (first
        | (refine wNil ?_) | (refine xPure ?_)
        | (refine xMk ?_; intro id hid; (try simp only [set_none_iff] at hid); refine mkDo ?_)
        | (refine xChk ?_) | (refine xChkF ?_) | (refine xSkip ?_)
        | (refine xCall rfl rfl (sp82 k2 11 _) ?_; rintro v h' ⟨rfl, hx⟩; cases hx; rw [B0]; refine nTm ?_)
        | (refine xCall rfl rfl (sp82 k3 11 _) ?_; rintro v h' ⟨rfl, hx⟩; cases hx; rw [B1]; refine nTm ?_)
        | (refine cSeq ?_) | (refine cNorm ?_) | (refine cRet ?_) | (refine cExit ?_) | (refine W_reg rfl ?_) | (refine W_block ?_) | (refine W_ret ?_) | (refine W_skip ?_) | (refine W_exit ?_) | (refine bNorm ?_) | (refine bRet ?_) | (refine bExit ?_) | (refine bExitN rfl ?_)
        | (refine xMask ?_) | (refine xT ?_) | (refine xF ?_) | (refine xRet ?_) | (refine xNorm ?_)
        | (refine wSplit _ rfl (by (first | (simp only [go_sem, *]; (first | done | exact rfl)) | rfl)) ?_ ?_ <;> intro hb <;> (try simp only [beq_false, beq_true, Bool.not_true, Bool.not_false, Bool.not_eq_true', Bool.not_eq_false', decide_eq_false_iff_not, decide_eq_true_eq, bne_iff_ne, beq_iff_eq, Bool.true_eq, Bool.false_eq, Bool.not_not, Bool.and_eq_true, Bool.or_eq_true, Bool.bne_true, Bool.bne_false, bne_eq_false_iff_eq, beq_eq_false_iff_ne, ne_eq] at hb))
        | (refine W_cond _ (by (first | (simp only [go_sem, *]; (first | done | exact rfl)) | rfl)) ?_ ?_ <;> intro hb <;> (try simp only [beq_false, beq_true, Bool.not_true, Bool.not_false, Bool.not_eq_true', Bool.not_eq_false', decide_eq_false_iff_not, decide_eq_true_eq, bne_iff_ne, beq_iff_eq, Bool.true_eq, Bool.false_eq, Bool.not_not, Bool.and_eq_true, Bool.or_eq_true, Bool.bne_true, Bool.bne_false, bne_eq_false_iff_eq, beq_eq_false_iff_ne, ne_eq] at hb)))
      all_goals exact ⟨rfl, Up.new (Up.refl h) (by assumption)⟩
    | true =>
      cases B2 : decide (0 ≤ k4 ∧ k4 ≤ 3) with
      | false =>
        have e : rgB k2 k3 k4 C n1 s1 s2 L = false := by unfold rgB; rw [B0, B1, B2]; simp only [Bool.true_and, Bool.false_and]
        rw [e]
        clear e
        refine Sp_of (fn := f72) rfl (show W T b72 [.agg [.int .i64 k1, .int .i64 k2, .int .i64 k3, .int .i64 k4, .int .u64 (C : Int), .int .i64 n1, .int .i64 s1, .int .i64 s2, .bool ok, .str (bs x), S], .tup [], .tup [], .tup [], .tup [], .tup [], .tup [], .tup [], .tup [], .tup [], .tup [], .tup [], .tup [], .tup [], .tup [], .tup [], .tup [], .tup [], .tup [], .tup [], .tup [], .tup [], .tup [], .tup [], .tup [], .tup [], .tup [], .tup [], .tup [], .tup [], .tup [], .tup [], .tup [], .tup [], .tup [], .tup [], .tup [], .tup [], .tup [], .tup [], .tup [], .tup [], .tup [], .tup [], .tup [], .tup [], .tup [], .tup [], .tup [], .tup [], .tup [], .tup [], .tup []] _ _ from ?_)
        unfold b72
        repeat' (first
          | (refine wNil ?_) | (refine xPure ?_)
          | (refine xMk ?_; intro id hid; (try simp only [set_none_iff] at hid); refine mkDo ?_)
          | (refine xChk ?_) | (refine xChkF ?_) | (refine xSkip ?_)
          | (refine xCall rfl rfl (sp82 k2 11 _) ?_; rintro v h' ⟨rfl, hx⟩; cases hx; rw [B0]; refine nTm ?_)
          | (refine xCall rfl rfl (sp82 k3 11 _) ?_; rintro v h' ⟨rfl, hx⟩; cases hx; rw [B1]; refine nTm ?_)
          | (refine xCall rfl rfl (sp82 k4 3 _) ?_; rintro v h' ⟨rfl, hx⟩; cases hx; rw [B2]; refine nTm ?_)
          | (refine cSeq ?_) | (refine cNorm ?_) | (refine cRet ?_) | (refine cExit ?_) | (refine W_reg rfl ?_) | (refine W_block ?_) | (refine W_ret ?_) | (refine W_skip ?_) | (refine W_exit ?_) | (refine bNorm ?_) | (refine bRet ?_) | (refine bExit ?_) | (refine bExitN rfl ?_)
          | (refine xMask ?_) | (refine xT ?_) | (refine xF ?_) | (refine xRet ?_) | (refine xNorm ?_)
          | (refine wSplit _ rfl (by (first | (simp only [go_sem, *]; (first | done | exact rfl)) | rfl)) ?_ ?_ <;> intro hb <;> (try simp only [beq_false, beq_true, Bool.not_true, Bool.not_false, Bool.not_eq_true', Bool.not_eq_false', decide_eq_false_iff_not, decide_eq_true_eq, bne_iff_ne, beq_iff_eq, Bool.true_eq, Bool.false_eq, Bool.not_not, Bool.and_eq_true, Bool.or_eq_true, Bool.bne_true, Bool.bne_false, bne_eq_false_iff_eq, beq_eq_false_iff_ne, ne_eq] at hb))
          | (refine W_cond _ (by (first | (simp only [go_sem, *]; (first | done | exact rfl)) | rfl)) ?_ ?_ <;> intro hb <;> (try simp only [beq_false, beq_true, Bool.not_true, Bool.not_false, Bool.not_eq_true', Bool.not_eq_false', decide_eq_false_iff_not, decide_eq_true_eq, bne_iff_ne, beq_iff_eq, Bool.true_eq, Bool.false_eq, Bool.not_not, Bool.and_eq_true, Bool.or_eq_true, Bool.bne_true, Bool.bne_false, bne_eq_false_iff_eq, beq_eq_false_iff_ne, ne_eq] at hb)))
        all_goals exact ⟨rfl, Up.new (Up.refl h) (by assumption)⟩
      | true =>
        cases B3 : snd C n1 with
        | false =>
          have e : rgB k2 k3 k4 C n1 s1 s2 L = false := by unfold rgB; rw [B0, B1, B2, B3]; simp only [Bool.true_and, Bool.false_and]
          rw [e]
          clear e
          refine Sp_of (fn := f72) rfl (show W T b72 [.agg [.int .i64 k1, .int .i64 k2, .int .i64 k3, .int .i64 k4, .int .u64 (C : Int), .int .i64 n1, .int .i64 s1, .int .i64 s2, .bool ok, .str (bs x), S], .tup [], .tup [], .tup [], .tup [], .tup [], .tup [], .tup [], .tup [], .tup [], .tup [], .tup [], .tup [], .tup [], .tup [], .tup [], .tup [], .tup [], .tup [], .tup [], .tup [], .tup [], .tup [], .tup [], .tup [], .tup [], .tup [], .tup [], .tup [], .tup [], .tup [], .tup [], .tup [], .tup [], .tup [], .tup [], .tup [], .tup [], .tup [], .tup [], .tup [], .tup [], .tup [], .tup [], .tup [], .tup [], .tup [], .tup [], .tup [], .tup [], .tup [], .tup [], .tup []] _ _ from ?_)
          unfold b72
          repeat' (first
            | (refine wNil ?_) | (refine xPure ?_)
            | (refine xMk ?_; intro id hid; (try simp only [set_none_iff] at hid); refine mkDo ?_)
            | (refine xChk ?_) | (refine xChkF ?_) | (refine xSkip ?_)
            | (refine xCall rfl rfl (sp82 k2 11 _) ?_; rintro v h' ⟨rfl, hx⟩; cases hx; rw [B0]; refine nTm ?_)
            | (refine xCall rfl rfl (sp82 k3 11 _) ?_; rintro v h' ⟨rfl, hx⟩; cases hx; rw [B1]; refine nTm ?_)
            | (refine xCall rfl rfl (sp82 k4 3 _) ?_; rintro v h' ⟨rfl, hx⟩; cases hx; rw [B2]; refine nTm ?_)
            | (refine xCall rfl rfl (sp83 C n1 _) ?_; rintro v j3 ⟨rfl, hu3⟩; rw [B3]; have hb3 := hu3 _ _ set_same; have HU : Up h j3 := (fun z b e => hu3 z b (by rw [set_ne (nei e hid)]; exact e)); refine nTm ?_)
            | (refine cSeq ?_) | (refine cNorm ?_) | (refine cRet ?_) | (refine cExit ?_) | (refine W_reg rfl ?_) | (refine W_block ?_) | (refine W_ret ?_) | (refine W_skip ?_) | (refine W_exit ?_) | (refine bNorm ?_) | (refine bRet ?_) | (refine bExit ?_) | (refine bExitN rfl ?_)
            | (refine xMask ?_) | (refine xT ?_) | (refine xF ?_) | (refine xRet ?_) | (refine xNorm ?_)
            | (refine wSplit _ rfl (by (first | (simp only [go_sem, *]; (first | done | exact rfl)) | rfl)) ?_ ?_ <;> intro hb <;> (try simp only [beq_false, beq_true, Bool.not_true, Bool.not_false, Bool.not_eq_true', Bool.not_eq_false', decide_eq_false_iff_not, decide_eq_true_eq, bne_iff_ne, beq_iff_eq, Bool.true_eq, Bool.false_eq, Bool.not_not, Bool.and_eq_true, Bool.or_eq_true, Bool.bne_true, Bool.bne_false, bne_eq_false_iff_eq, beq_eq_false_iff_ne, ne_eq] at hb))
            | (refine W_cond _ (by (first | (simp only [go_sem, *]; (first | done | exact rfl)) | rfl)) ?_ ?_ <;> intro hb <;> (try simp only [beq_false, beq_true, Bool.not_true, Bool.not_false, Bool.not_eq_true', Bool.not_eq_false', decide_eq_false_iff_not, decide_eq_true_eq, bne_iff_ne, beq_iff_eq, Bool.true_eq, Bool.false_eq, Bool.not_not, Bool.and_eq_true, Bool.or_eq_true, Bool.bne_true, Bool.bne_false, bne_eq_false_iff_eq, beq_eq_false_iff_ne, ne_eq] at hb)))
          all_goals exact ⟨rfl, HU⟩
        | true =>
          have e : rgB k2 k3 k4 C n1 s1 s2 L = (L.all p2 && (decide (0 ≤ s1 ∧ s1 ≤ 1099511627776) && decide (0 ≤ s2 ∧ s2 ≤ 1099511627776))) := by unfold rgB; rw [B0, B1, B2, B3]; simp only [Bool.true_and]
          rw [e]
          clear e
          refine Sp_of (fn := f72) rfl (show W T b72 [.agg [.int .i64 k1, .int .i64 k2, .int .i64 k3, .int .i64 k4, .int .u64 (C : Int), .int .i64 n1, .int .i64 s1, .int .i64 s2, .bool ok, .str (bs x), S], .tup [], .tup [], .tup [], .tup [], .tup [], .tup [], .tup [], .tup [], .tup [], .tup [], .tup [], .tup [], .tup [], .tup [], .tup [], .tup [], .tup [], .tup [], .tup [], .tup [], .tup [], .tup [], .tup [], .tup [], .tup [], .tup [], .tup [], .tup [], .tup [], .tup [], .tup [], .tup [], .tup [], .tup [], .tup [], .tup [], .tup [], .tup [], .tup [], .tup [], .tup [], .tup [], .tup [], .tup [], .tup [], .tup [], .tup [], .tup [], .tup [], .tup [], .tup [], .tup []] _ _ from ?_)
          unfold b72
          repeat' (first
            | (refine wNil ?_) | (refine xPure ?_)
            | (refine xMk ?_; intro id hid; (try simp only [set_none_iff] at hid); refine mkDo ?_)
            | (refine xChk ?_) | (refine xChkF ?_) | (refine xSkip ?_)
            | (refine xCall rfl rfl (sp82 k2 11 _) ?_; rintro v h' ⟨rfl, hx⟩; cases hx; rw [B0]; refine nTm ?_)
            | (refine xCall rfl rfl (sp82 k3 11 _) ?_; rintro v h' ⟨rfl, hx⟩; cases hx; rw [B1]; refine nTm ?_)
            | (refine xCall rfl rfl (sp82 k4 3 _) ?_; rintro v h' ⟨rfl, hx⟩; cases hx; rw [B2]; refine nTm ?_)
            | (refine xCall rfl rfl (sp83 C n1 _) ?_; rintro v j3 ⟨rfl, hu3⟩; rw [B3]; have hb3 := hu3 _ _ set_same; have HU : Up h j3 := (fun z b e => hu3 z b (by rw [set_ne (nei e hid)]; exact e)); refine nTm ?_)
            | (exact loop72 k1 k2 k3 k4 C n1 s1 s2 ok x S L h j3 id hS hl HU hb3 _ (fun g' hu' => ⟨rfl, hu'⟩) _ rfl)
            | (refine cSeq ?_) | (refine cNorm ?_) | (refine cRet ?_) | (refine cExit ?_) | (refine W_reg rfl ?_) | (refine W_block ?_) | (refine W_ret ?_) | (refine W_skip ?_) | (refine W_exit ?_) | (refine bNorm ?_) | (refine bRet ?_) | (refine bExit ?_) | (refine bExitN rfl ?_)
            | (refine xMask ?_) | (refine xT ?_) | (refine xF ?_) | (refine xRet ?_) | (refine xNorm ?_)
            | (refine wSplit _ rfl (by (first | (simp only [go_sem, *]; (first | done | exact rfl)) | rfl)) ?_ ?_ <;> intro hb <;> (try simp only [beq_false, beq_true, Bool.not_true, Bool.not_false, Bool.not_eq_true', Bool.not_eq_false', decide_eq_false_iff_not, decide_eq_true_eq, bne_iff_ne, beq_iff_eq, Bool.true_eq, Bool.false_eq, Bool.not_not, Bool.and_eq_true, Bool.or_eq_true, Bool.bne_true, Bool.bne_false, bne_eq_false_iff_eq, beq_eq_false_iff_ne, ne_eq] at hb))
            | (refine W_cond _ (by (first | (simp only [go_sem, *]; (first | done | exact rfl)) | rfl)) ?_ ?_ <;> intro hb <;> (try simp only [beq_false, beq_true, Bool.not_true, Bool.not_false, Bool.not_eq_true', Bool.not_eq_false', decide_eq_false_iff_not, decide_eq_true_eq, bne_iff_ne, beq_iff_eq, Bool.true_eq, Bool.false_eq, Bool.not_not, Bool.and_eq_true, Bool.or_eq_true, Bool.bne_true, Bool.bne_false, bne_eq_false_iff_eq, beq_eq_false_iff_ne, ne_eq] at hb)))
end Go.Proofs.YtgekngfnhhdamaaI
set_option linter.unusedVariables false
set_option linter.unusedSimpArgs false
set_option maxRecDepth 100000
set_option maxHeartbeats 4000000
namespace Go.Proofs.YtgekngfnhhdamaaI
open Go Go.Proofs.YtgekngfnhhdamaaM
attribute [local go_sem] aop ev fg_slc fg_slk fg_ptr fg_bool fg_int fg_str fg_iface fg_func fg_agg fg_tup fg_nils fg_nilp fg_nilI fg_nilF fg_und aboundsK alen_nils alen_slc alen_slk aslice_nils aslice_slc aslice_slk awanted abin aun aint aeqn aeqc aeqs apart abounds abnd amaxi amaxiGo cells_agg cells_slc cells_slk cells_ptr cells_bool cells_int cells_str cells_iface cells_func cells_tup cells_nils cells_nilp cells_nilI cells_nilF cells_und sc_slc sc_slk sc_ptr sc_bool sc_int sc_str sc_iface sc_func sc_nils sc_nilp sc_nilI sc_nilF gd_zero gd_succ List.all_cons List.all_nil Bool.and_self Bool.and_true Bool.true_and List.length_cons List.length_nil Option.map_some Option.some.injEq cell_same cell_ne cell_ne' cellsAt_same cellsAt_ne cellsAt_ne' put_same put_of set_same set_ne set_ne' List.getElem?_cons_zero List.getElem?_cons_succ if_true if_false and_self and_true true_and ne_eq not_true_eq_false not_false_eq_true decide_true decide_false Bool.false_eq_true Bool.true_eq_false beq_self_eq_true bne_self_eq_false beq_true beq_false Bool.not_true Bool.not_false List.map_cons List.map_nil putL List.set_cons_zero List.set_cons_succ afill Nat.zero_le Nat.le_refl Nat.zero_add Nat.add_zero List.drop_zero List.drop_succ_cons List.take_zero List.take_succ_cons Bool.not_eq_true Bool.not_eq_false decide_eq_true_eq decide_eq_false_iff_not Int.toNat_zero Nat.sub_zero Int.toNat_natCast Bool.bne_true Bool.bne_false AH.cell AH.cellsAt AH.put Nat.mul_one Nat.one_mul Int.natCast_nonneg List.length_set bs_append bs_size bs_toList bs_extract bs_get List.cons_append List.nil_append List.append_nil Nat.sub_zero bne_self_eq_false beq_self_eq_true azeros Int.le_refl
theorem chk_eq (k1 k2 k3 k4 : Int) (C : Nat) (n1 s1 s2 : Int) (ok : Bool) (x : List UInt8) (L : List En) : chk k1 k2 k3 k4 C n1 s1 s2 x L = (if decide (1 ≤ k1 ∧ k1 ≤ 13) then (if rgB k2 k3 k4 C n1 s1 s2 L then (if grB x L then 6 else if risP L then 0 else 4) else 2) else 1) := by
  unfold chk rgB r1 r2 r3 r4 grB
  cases decide (1 ≤ k1 ∧ k1 ≤ 13)
  · rfl
  cases decide (0 ≤ k2 ∧ k2 ≤ 11)
  · rfl
  cases decide (0 ≤ k3 ∧ k3 ≤ 11)
  · rfl
  cases decide (0 ≤ k4 ∧ k4 ≤ 3)
  · rfl
  cases snd C n1
  · rfl
  cases hp : L.all p2
  · cases decide (0 ≤ s1 ∧ s1 ≤ 1099511627776) <;> cases decide (0 ≤ s2 ∧ s2 ≤ 1099511627776) <;> rfl
  cases decide (0 ≤ s1 ∧ s1 ≤ 1099511627776)
  · rfl
  cases decide (0 ≤ s2 ∧ s2 ≤ 1099511627776)
  · rfl
  rw [risP_eq (fun y hy => by
    have := List.all_eq_true.1 hp y hy
    unfold p2 at this
    rw [Bool.and_eq_true] at this
    exact (of_decide_eq_true this.2).1)]
  by_cases c : x.length ≤ 131072 ∧ L.length ≤ 64
  · rw [decide_eq_true c, if_pos c]
    cases L.all p4 <;> rfl
  · rw [decide_eq_false c, if_neg c]; rfl
/-- Check -/
theorem sp49 (k1 k2 k3 k4 : Int) (C : Nat) (n1 s1 s2 : Int) (ok : Bool) (x : List UInt8) (S : AV) (L : List En) (h : AH) (hS : Le h S L) (hl : L.length ≤ 1000) :
    Sp T 49 [.agg [.int .i64 k1, .int .i64 k2, .int .i64 k3, .int .i64 k4, .int .u64 (C : Int), .int .i64 n1, .int .i64 s1, .int .i64 s2, .bool ok, .str (bs x), S]] h (fun v h' => v = .int .i64 (chk k1 k2 k3 k4 C n1 s1 s2 x L) ∧ Up h h') := by
  have hu0 := Up.refl h
  have hSc : S.scalar = true := by rcases hS with ⟨rfl, rfl⟩ | ⟨i, _, rfl, _⟩ <;> rfl
  by_cases c1 : k1 < 1
  · have B0 := decide_eq_false (show ¬ (1 ≤ k1 ∧ k1 ≤ 13) by omega)
    have e : chk k1 k2 k3 k4 C n1 s1 s2 x L = 1 := by rw [chk_eq k1 k2 k3 k4 C n1 s1 s2 ok, B0]; rfl
    rw [e]
    clear e
    refine Sp_of (fn := f49) rfl (show W T b49 [.agg [.int .i64 k1, .int .i64 k2, .int .i64 k3, .int .i64 k4, .int .u64 (C : Int), .int .i64 n1, .int .i64 s1, .int .i64 s2, .bool ok, .str (bs x), S], .tup [], .tup [], .tup [], .tup [], .tup [], .tup [], .tup [], .tup [], .tup [], .tup [], .tup [], .tup [], .tup [], .tup [], .tup [], .tup [], .tup [], .tup [], .tup [], .tup [], .tup [], .tup []] _ _ from ?_)
    unfold b49
    repeat' (first
      | (refine wNil ?_) | (refine xPure ?_)
      | (refine xMk ?_; intro id hid; (try simp only [set_none_iff] at hid); have hz := hid; (repeat (replace hz := hz.2)); (try have := Up.none hu0 hz); refine mkDo ?_)
      | (refine xChk ?_) | (refine xChkF ?_) | (refine xSkip ?_)
      | (refine cSeq ?_) | (refine cNorm ?_) | (refine cRet ?_) | (refine cExit ?_) | (refine W_reg rfl ?_) | (refine W_block ?_) | (refine W_ret ?_) | (refine W_skip ?_) | (refine W_exit ?_) | (refine bNorm ?_) | (refine bRet ?_) | (refine bExit ?_) | (refine bExitN rfl ?_)
      | (refine xMask ?_) | (refine xT ?_) | (refine xF ?_) | (refine xRet ?_) | (refine xNorm ?_)
      | (refine wSplit _ rfl (by (first | (simp only [go_sem, *]; (first | done | exact rfl)) | rfl)) ?_ ?_ <;> intro hb <;> (try simp only [beq_false, beq_true, Bool.not_true, Bool.not_false, Bool.not_eq_true', Bool.not_eq_false', decide_eq_false_iff_not, decide_eq_true_eq, bne_iff_ne, beq_iff_eq, Bool.true_eq, Bool.false_eq, Bool.not_not, Bool.and_eq_true, Bool.or_eq_true, Bool.bne_true, Bool.bne_false, bne_eq_false_iff_eq, beq_eq_false_iff_ne, ne_eq] at hb))
      | (refine W_cond _ (by (first | (simp only [go_sem, *]; (first | done | exact rfl)) | rfl)) ?_ ?_ <;> intro hb <;> (try simp only [beq_false, beq_true, Bool.not_true, Bool.not_false, Bool.not_eq_true', Bool.not_eq_false', decide_eq_false_iff_not, decide_eq_true_eq, bne_iff_ne, beq_iff_eq, Bool.true_eq, Bool.false_eq, Bool.not_not, Bool.and_eq_true, Bool.or_eq_true, Bool.bne_true, Bool.bne_false, bne_eq_false_iff_eq, beq_eq_false_iff_ne, ne_eq] at hb)))
    all_goals exact ⟨rfl, (by repeat' (first | assumption | exact Up.refl _ | refine Up.new ?_ ?_))⟩
  · by_cases c2 : k1 > 13
    · have B0 := decide_eq_false (show ¬ (1 ≤ k1 ∧ k1 ≤ 13) by omega)
      have e : chk k1 k2 k3 k4 C n1 s1 s2 x L = 1 := by rw [chk_eq k1 k2 k3 k4 C n1 s1 s2 ok, B0]; rfl
      rw [e]
      clear e
      refine Sp_of (fn := f49) rfl (show W T b49 [.agg [.int .i64 k1, .int .i64 k2, .int .i64 k3, .int .i64 k4, .int .u64 (C : Int), .int .i64 n1, .int .i64 s1, .int .i64 s2, .bool ok, .str (bs x), S], .tup [], .tup [], .tup [], .tup [], .tup [], .tup [], .tup [], .tup [], .tup [], .tup [], .tup [], .tup [], .tup [], .tup [], .tup [], .tup [], .tup [], .tup [], .tup [], .tup [], .tup [], .tup []] _ _ from ?_)
      unfold b49
      repeat' (first
        | (refine wNil ?_) | (refine xPure ?_)
        | (refine xMk ?_; intro id hid; (try simp only [set_none_iff] at hid); have hz := hid; (repeat (replace hz := hz.2)); (try have := Up.none hu0 hz); refine mkDo ?_)
        | (refine xChk ?_) | (refine xChkF ?_) | (refine xSkip ?_)
        | (refine cSeq ?_) | (refine cNorm ?_) | (refine cRet ?_) | (refine cExit ?_) | (refine W_reg rfl ?_) | (refine W_block ?_) | (refine W_ret ?_) | (refine W_skip ?_) | (refine W_exit ?_) | (refine bNorm ?_) | (refine bRet ?_) | (refine bExit ?_) | (refine bExitN rfl ?_)
        | (refine xMask ?_) | (refine xT ?_) | (refine xF ?_) | (refine xRet ?_) | (refine xNorm ?_)
        | (refine wSplit _ rfl (by (first | (simp only [go_sem, *]; (first | done | exact rfl)) | rfl)) ?_ ?_ <;> intro hb <;> (try simp only [beq_false, beq_true, Bool.not_true, Bool.not_false, Bool.not_eq_true', Bool.not_eq_false', decide_eq_false_iff_not, decide_eq_true_eq, bne_iff_ne, beq_iff_eq, Bool.true_eq, Bool.false_eq, Bool.not_not, Bool.and_eq_true, Bool.or_eq_true, Bool.bne_true, Bool.bne_false, bne_eq_false_iff_eq, beq_eq_false_iff_ne, ne_eq] at hb))
        | (refine W_cond _ (by (first | (simp only [go_sem, *]; (first | done | exact rfl)) | rfl)) ?_ ?_ <;> intro hb <;> (try simp only [beq_false, beq_true, Bool.not_true, Bool.not_false, Bool.not_eq_true', Bool.not_eq_false', decide_eq_false_iff_not, decide_eq_true_eq, bne_iff_ne, beq_iff_eq, Bool.true_eq, Bool.false_eq, Bool.not_not, Bool.and_eq_true, Bool.or_eq_true, Bool.bne_true, Bool.bne_false, bne_eq_false_iff_eq, beq_eq_false_iff_ne, ne_eq] at hb)))
      all_goals exact ⟨rfl, (by repeat' (first | assumption | exact Up.refl _ | refine Up.new ?_ ?_))⟩
    · have B0 := decide_eq_true (show (1 ≤ k1 ∧ k1 ≤ 13) by omega)
      cases B1 : rgB k2 k3 k4 C n1 s1 s2 L with
      | false =>
        have e : chk k1 k2 k3 k4 C n1 s1 s2 x L = 2 := by rw [chk_eq k1 k2 k3 k4 C n1 s1 s2 ok, B0, B1]; rfl
        rw [e]
        clear e
        refine Sp_of (fn := f49) rfl (show W T b49 [.agg [.int .i64 k1, .int .i64 k2, .int .i64 k3, .int .i64 k4, .int .u64 (C : Int), .int .i64 n1, .int .i64 s1, .int .i64 s2, .bool ok, .str (bs x), S], .tup [], .tup [], .tup [], .tup [], .tup [], .tup [], .tup [], .tup [], .tup [], .tup [], .tup [], .tup [], .tup [], .tup [], .tup [], .tup [], .tup [], .tup [], .tup [], .tup [], .tup [], .tup []] _ _ from ?_)
        unfold b49
        repeat' (first
          | (refine wNil ?_) | (refine xPure ?_)
          | (refine xMk ?_; intro id hid; (try simp only [set_none_iff] at hid); have hz := hid; (repeat (replace hz := hz.2)); (try have := Up.none hu0 hz); refine mkDo ?_)
          | (refine xChk ?_) | (refine xChkF ?_) | (refine xSkip ?_)
          | (refine xCall rfl rfl (sp72 k1 k2 k3 k4 C n1 s1 s2 ok x S L _ (hS.up (by repeat' (first | assumption | exact Up.refl _ | refine Up.new ?_ ?_))) hl) ?_; rintro v j1 ⟨rfl, hu⟩; rw [B1]; have HU1 : Up h j1 := Up.trans (show Up h _ from (by repeat' (first | assumption | exact Up.refl _ | refine Up.new ?_ ?_))) hu; have hb := hu _ _ set_same; clear hu; refine nTm ?_)
          | (refine cSeq ?_) | (refine cNorm ?_) | (refine cRet ?_) | (refine cExit ?_) | (refine W_reg rfl ?_) | (refine W_block ?_) | (refine W_ret ?_) | (refine W_skip ?_) | (refine W_exit ?_) | (refine bNorm ?_) | (refine bRet ?_) | (refine bExit ?_) | (refine bExitN rfl ?_)
          | (refine xMask ?_) | (refine xT ?_) | (refine xF ?_) | (refine xRet ?_) | (refine xNorm ?_)
          | (refine wSplit _ rfl (by (first | (simp only [go_sem, *]; (first | done | exact rfl)) | rfl)) ?_ ?_ <;> intro hb <;> (try simp only [beq_false, beq_true, Bool.not_true, Bool.not_false, Bool.not_eq_true', Bool.not_eq_false', decide_eq_false_iff_not, decide_eq_true_eq, bne_iff_ne, beq_iff_eq, Bool.true_eq, Bool.false_eq, Bool.not_not, Bool.and_eq_true, Bool.or_eq_true, Bool.bne_true, Bool.bne_false, bne_eq_false_iff_eq, beq_eq_false_iff_ne, ne_eq] at hb))
          | (refine W_cond _ (by (first | (simp only [go_sem, *]; (first | done | exact rfl)) | rfl)) ?_ ?_ <;> intro hb <;> (try simp only [beq_false, beq_true, Bool.not_true, Bool.not_false, Bool.not_eq_true', Bool.not_eq_false', decide_eq_false_iff_not, decide_eq_true_eq, bne_iff_ne, beq_iff_eq, Bool.true_eq, Bool.false_eq, Bool.not_not, Bool.and_eq_true, Bool.or_eq_true, Bool.bne_true, Bool.bne_false, bne_eq_false_iff_eq, beq_eq_false_iff_ne, ne_eq] at hb)))
        all_goals exact ⟨rfl, HU1⟩
      | true =>
        cases B2 : grB x L with
        | true =>
          have e : chk k1 k2 k3 k4 C n1 s1 s2 x L = 6 := by rw [chk_eq k1 k2 k3 k4 C n1 s1 s2 ok, B0, B1, B2]; rfl
          rw [e]
          clear e
          refine Sp_of (fn := f49) rfl (show W T b49 [.agg [.int .i64 k1, .int .i64 k2, .int .i64 k3, .int .i64 k4, .int .u64 (C : Int), .int .i64 n1, .int .i64 s1, .int .i64 s2, .bool ok, .str (bs x), S], .tup [], .tup [], .tup [], .tup [], .tup [], .tup [], .tup [], .tup [], .tup [], .tup [], .tup [], .tup [], .tup [], .tup [], .tup [], .tup [], .tup [], .tup [], .tup [], .tup [], .tup [], .tup []] _ _ from ?_)
          unfold b49
          repeat' (first
            | (refine wNil ?_) | (refine xPure ?_)
            | (refine xMk ?_; intro id hid; (try simp only [set_none_iff] at hid); have hz := hid; (repeat (replace hz := hz.2)); (try have := Up.none hu0 hz); refine mkDo ?_)
            | (refine xChk ?_) | (refine xChkF ?_) | (refine xSkip ?_)
            | (refine xCall rfl rfl (sp72 k1 k2 k3 k4 C n1 s1 s2 ok x S L _ (hS.up (by repeat' (first | assumption | exact Up.refl _ | refine Up.new ?_ ?_))) hl) ?_; rintro v j1 ⟨rfl, hu⟩; rw [B1]; have HU1 : Up h j1 := Up.trans (show Up h _ from (by repeat' (first | assumption | exact Up.refl _ | refine Up.new ?_ ?_))) hu; have hb := hu _ _ set_same; clear hu; refine nTm ?_)
            | (refine xCall rfl rfl (sp73 k1 k2 k3 k4 C n1 s1 s2 ok x S L _ (hS.up HU1) hl) ?_; rintro v j2 ⟨rfl, hu⟩; rw [B2]; have HU2 := HU1.trans hu; have hb2 := hu _ _ hb; clear hu; refine nTm ?_)
            | (refine cSeq ?_) | (refine cNorm ?_) | (refine cRet ?_) | (refine cExit ?_) | (refine W_reg rfl ?_) | (refine W_block ?_) | (refine W_ret ?_) | (refine W_skip ?_) | (refine W_exit ?_) | (refine bNorm ?_) | (refine bRet ?_) | (refine bExit ?_) | (refine bExitN rfl ?_)
            | (refine xMask ?_) | (refine xT ?_) | (refine xF ?_) | (refine xRet ?_) | (refine xNorm ?_)
            | (refine wSplit _ rfl (by (first | (simp only [go_sem, *]; (first | done | exact rfl)) | rfl)) ?_ ?_ <;> intro hb <;> (try simp only [beq_false, beq_true, Bool.not_true, Bool.not_false, Bool.not_eq_true', Bool.not_eq_false', decide_eq_false_iff_not, decide_eq_true_eq, bne_iff_ne, beq_iff_eq, Bool.true_eq, Bool.false_eq, Bool.not_not, Bool.and_eq_true, Bool.or_eq_true, Bool.bne_true, Bool.bne_false, bne_eq_false_iff_eq, beq_eq_false_iff_ne, ne_eq] at hb))
            | (refine W_cond _ (by (first | (simp only [go_sem, *]; (first | done | exact rfl)) | rfl)) ?_ ?_ <;> intro hb <;> (try simp only [beq_false, beq_true, Bool.not_true, Bool.not_false, Bool.not_eq_true', Bool.not_eq_false', decide_eq_false_iff_not, decide_eq_true_eq, bne_iff_ne, beq_iff_eq, Bool.true_eq, Bool.false_eq, Bool.not_not, Bool.and_eq_true, Bool.or_eq_true, Bool.bne_true, Bool.bne_false, bne_eq_false_iff_eq, beq_eq_false_iff_ne, ne_eq] at hb)))
          all_goals exact ⟨rfl, HU2⟩
        | false =>
          cases B3 : risP L with
          | false =>
            have e : chk k1 k2 k3 k4 C n1 s1 s2 x L = 4 := by rw [chk_eq k1 k2 k3 k4 C n1 s1 s2 ok, B0, B1, B2, B3]; rfl
            rw [e]
            clear e
            refine Sp_of (fn := f49) rfl (show W T b49 [.agg [.int .i64 k1, .int .i64 k2, .int .i64 k3, .int .i64 k4, .int .u64 (C : Int), .int .i64 n1, .int .i64 s1, .int .i64 s2, .bool ok, .str (bs x), S], .tup [], .tup [], .tup [], .tup [], .tup [], .tup [], .tup [], .tup [], .tup [], .tup [], .tup [], .tup [], .tup [], .tup [], .tup [], .tup [], .tup [], .tup [], .tup [], .tup [], .tup [], .tup []] _ _ from ?_)
            unfold b49
            repeat' (first
              | (refine wNil ?_) | (refine xPure ?_)
              | (refine xMk ?_; intro id hid; (try simp only [set_none_iff] at hid); have hz := hid; (repeat (replace hz := hz.2)); (try have := Up.none hu0 hz); refine mkDo ?_)
              | (refine xChk ?_) | (refine xChkF ?_) | (refine xSkip ?_)
              | (refine xCall rfl rfl (sp72 k1 k2 k3 k4 C n1 s1 s2 ok x S L _ (hS.up (by repeat' (first | assumption | exact Up.refl _ | refine Up.new ?_ ?_))) hl) ?_; rintro v j1 ⟨rfl, hu⟩; rw [B1]; have HU1 : Up h j1 := Up.trans (show Up h _ from (by repeat' (first | assumption | exact Up.refl _ | refine Up.new ?_ ?_))) hu; have hb := hu _ _ set_same; clear hu; refine nTm ?_)
              | (refine xCall rfl rfl (sp73 k1 k2 k3 k4 C n1 s1 s2 ok x S L _ (hS.up HU1) hl) ?_; rintro v j2 ⟨rfl, hu⟩; rw [B2]; have HU2 := HU1.trans hu; have hb2 := hu _ _ hb; clear hu; refine nTm ?_)
              | (refine xCall rfl rfl (sp74 k1 k2 k3 k4 C n1 s1 s2 ok x S L _ (hS.up HU2) hl) ?_; rintro v j3 ⟨rfl, hu⟩; rw [B3]; have HU3 := HU2.trans hu; clear hu; refine nTm ?_)
              | (refine cSeq ?_) | (refine cNorm ?_) | (refine cRet ?_) | (refine cExit ?_) | (refine W_reg rfl ?_) | (refine W_block ?_) | (refine W_ret ?_) | (refine W_skip ?_) | (refine W_exit ?_) | (refine bNorm ?_) | (refine bRet ?_) | (refine bExit ?_) | (refine bExitN rfl ?_)
              | (refine xMask ?_) | (refine xT ?_) | (refine xF ?_) | (refine xRet ?_) | (refine xNorm ?_)
              | (refine wSplit _ rfl (by (first | (simp only [go_sem, *]; (first | done | exact rfl)) | rfl)) ?_ ?_ <;> intro hb <;> (try simp only [beq_false, beq_true, Bool.not_true, Bool.not_false, Bool.not_eq_true', Bool.not_eq_false', decide_eq_false_iff_not, decide_eq_true_eq, bne_iff_ne, beq_iff_eq, Bool.true_eq, Bool.false_eq, Bool.not_not, Bool.and_eq_true, Bool.or_eq_true, Bool.bne_true, Bool.bne_false, bne_eq_false_iff_eq, beq_eq_false_iff_ne, ne_eq] at hb))
              | (refine W_cond _ (by (first | (simp only [go_sem, *]; (first | done | exact rfl)) | rfl)) ?_ ?_ <;> intro hb <;> (try simp only [beq_false, beq_true, Bool.not_true, Bool.not_false, Bool.not_eq_true', Bool.not_eq_false', decide_eq_false_iff_not, decide_eq_true_eq, bne_iff_ne, beq_iff_eq, Bool.true_eq, Bool.false_eq, Bool.not_not, Bool.and_eq_true, Bool.or_eq_true, Bool.bne_true, Bool.bne_false, bne_eq_false_iff_eq, beq_eq_false_iff_ne, ne_eq] at hb)))
            all_goals exact ⟨rfl, HU3⟩
          | true =>
            have e : chk k1 k2 k3 k4 C n1 s1 s2 x L = 0 := by rw [chk_eq k1 k2 k3 k4 C n1 s1 s2 ok, B0, B1, B2, B3]; rfl
            rw [e]
            clear e
            refine Sp_of (fn := f49) rfl (show W T b49 [.agg [.int .i64 k1, .int .i64 k2, .int .i64 k3, .int .i64 k4, .int .u64 (C : Int), .int .i64 n1, .int .i64 s1, .int .i64 s2, .bool ok, .str (bs x), S], .tup [], .tup [], .tup [], .tup [], .tup [], .tup [], .tup [], .tup [], .tup [], .tup [], .tup [], .tup [], .tup [], .tup [], .tup [], .tup [], .tup [], .tup [], .tup [], .tup [], .tup [], .tup []] _ _ from ?_)
            unfold b49
            repeat' (first
              | (refine wNil ?_) | (refine xPure ?_)
              | (refine xMk ?_; intro id hid; (try simp only [set_none_iff] at hid); have hz := hid; (repeat (replace hz := hz.2)); (try have := Up.none hu0 hz); refine mkDo ?_)
              | (refine xChk ?_) | (refine xChkF ?_) | (refine xSkip ?_)
              | (refine xCall rfl rfl (sp72 k1 k2 k3 k4 C n1 s1 s2 ok x S L _ (hS.up (by repeat' (first | assumption | exact Up.refl _ | refine Up.new ?_ ?_))) hl) ?_; rintro v j1 ⟨rfl, hu⟩; rw [B1]; have HU1 : Up h j1 := Up.trans (show Up h _ from (by repeat' (first | assumption | exact Up.refl _ | refine Up.new ?_ ?_))) hu; have hb := hu _ _ set_same; clear hu; refine nTm ?_)
              | (refine xCall rfl rfl (sp73 k1 k2 k3 k4 C n1 s1 s2 ok x S L _ (hS.up HU1) hl) ?_; rintro v j2 ⟨rfl, hu⟩; rw [B2]; have HU2 := HU1.trans hu; have hb2 := hu _ _ hb; clear hu; refine nTm ?_)
              | (refine xCall rfl rfl (sp74 k1 k2 k3 k4 C n1 s1 s2 ok x S L _ (hS.up HU2) hl) ?_; rintro v j3 ⟨rfl, hu⟩; rw [B3]; have HU3 := HU2.trans hu; clear hu; refine nTm ?_)
              | (refine cSeq ?_) | (refine cNorm ?_) | (refine cRet ?_) | (refine cExit ?_) | (refine W_reg rfl ?_) | (refine W_block ?_) | (refine W_ret ?_) | (refine W_skip ?_) | (refine W_exit ?_) | (refine bNorm ?_) | (refine bRet ?_) | (refine bExit ?_) | (refine bExitN rfl ?_)
              | (refine xMask ?_) | (refine xT ?_) | (refine xF ?_) | (refine xRet ?_) | (refine xNorm ?_)
              | (refine wSplit _ rfl (by (first | (simp only [go_sem, *]; (first | done | exact rfl)) | rfl)) ?_ ?_ <;> intro hb <;> (try simp only [beq_false, beq_true, Bool.not_true, Bool.not_false, Bool.not_eq_true', Bool.not_eq_false', decide_eq_false_iff_not, decide_eq_true_eq, bne_iff_ne, beq_iff_eq, Bool.true_eq, Bool.false_eq, Bool.not_not, Bool.and_eq_true, Bool.or_eq_true, Bool.bne_true, Bool.bne_false, bne_eq_false_iff_eq, beq_eq_false_iff_ne, ne_eq] at hb))
              | (refine W_cond _ (by (first | (simp only [go_sem, *]; (first | done | exact rfl)) | rfl)) ?_ ?_ <;> intro hb <;> (try simp only [beq_false, beq_true, Bool.not_true, Bool.not_false, Bool.not_eq_true', Bool.not_eq_false', decide_eq_false_iff_not, decide_eq_true_eq, bne_iff_ne, beq_iff_eq, Bool.true_eq, Bool.false_eq, Bool.not_not, Bool.and_eq_true, Bool.or_eq_true, Bool.bne_true, Bool.bne_false, bne_eq_false_iff_eq, beq_eq_false_iff_ne, ne_eq] at hb)))
            all_goals exact ⟨rfl, HU3⟩
end Go.Proofs.YtgekngfnhhdamaaI
set_option linter.unusedVariables false
set_option linter.unusedSimpArgs false
set_option maxRecDepth 100000
set_option maxHeartbeats 4000000
namespace Go.Proofs.YtgekngfnhhdamaaI
open Go Go.Proofs.YtgekngfnhhdamaaM
attribute [local go_sem] aop ev fg_slc fg_slk fg_ptr fg_bool fg_int fg_str fg_iface fg_func fg_agg fg_tup fg_nils fg_nilp fg_nilI fg_nilF fg_und aboundsK alen_nils alen_slc alen_slk aslice_nils aslice_slc aslice_slk awanted abin aun aint aeqn aeqc aeqs apart abounds abnd amaxi amaxiGo cells_agg cells_slc cells_slk cells_ptr cells_bool cells_int cells_str cells_iface cells_func cells_tup cells_nils cells_nilp cells_nilI cells_nilF cells_und sc_slc sc_slk sc_ptr sc_bool sc_int sc_str sc_iface sc_func sc_nils sc_nilp sc_nilI sc_nilF gd_zero gd_succ List.all_cons List.all_nil Bool.and_self Bool.and_true Bool.true_and List.length_cons List.length_nil Option.map_some Option.some.injEq cell_same cell_ne cell_ne' cellsAt_same cellsAt_ne cellsAt_ne' put_same put_of set_same set_ne set_ne' List.getElem?_cons_zero List.getElem?_cons_succ if_true if_false and_self and_true true_and ne_eq not_true_eq_false not_false_eq_true decide_true decide_false Bool.false_eq_true Bool.true_eq_false beq_self_eq_true bne_self_eq_false beq_true beq_false Bool.not_true Bool.not_false List.map_cons List.map_nil putL List.set_cons_zero List.set_cons_succ afill Nat.zero_le Nat.le_refl Nat.zero_add Nat.add_zero List.drop_zero List.drop_succ_cons List.take_zero List.take_succ_cons Bool.not_eq_true Bool.not_eq_false decide_eq_true_eq decide_eq_false_iff_not Int.toNat_zero Nat.sub_zero Int.toNat_natCast Bool.bne_true Bool.bne_false AH.cell AH.cellsAt AH.put Nat.mul_one Nat.one_mul Int.natCast_nonneg List.length_set bs_append bs_size bs_toList bs_extract bs_get List.cons_append List.nil_append List.append_nil be_length Nat.sub_zero bne_self_eq_false beq_self_eq_true azeros Int.le_refl
/-- A byte's rounds, by the document. -/
def rr : Nat → Nat → Nat → Nat
  | 0, c, _ => c
  | j + 1, c, b => rr j (if c % 2 = b % 2 then c / 2 else (c / 2) ^^^ 3988292384) (b / 2)
/-- A byte's rounds, by the program. -/
def pp : Nat → Nat → Nat
  | 0, c => c
  | j + 1, c => pp j (if c % 2 = 1 then (c / 2) ^^^ 3988292384 else c / 2)
theorem pp_rr : ∀ (j c b : Nat), b < 2 ^ j → pp j (c ^^^ b) = rr j c b
  | 0, c, b, h => by simp at h; subst h; simp [pp, rr]
  | j + 1, c, b, h => by
    have hb : b / 2 < 2 ^ j := by rw [Nat.pow_succ] at h; omega
    unfold pp rr
    rw [← pp_rr j _ _ hb]
    have hx : (c ^^^ b) % 2 = 1 ↔ ¬ (c % 2 = b % 2) := by
      rw [Nat.xor_mod_two_eq_one]; omega
    have hd : (c ^^^ b) / 2 = (c / 2) ^^^ (b / 2) := Nat.xor_div_two
    rw [hd]
    by_cases e : c % 2 = b % 2
    · rw [if_neg (fun x => hx.1 x e), if_pos e]
    · rw [if_pos (hx.2 e), if_neg e]
      congr 1
      rw [Nat.xor_assoc, Nat.xor_assoc, Nat.xor_comm (b / 2)]
theorem rr_lt : ∀ (j c b : Nat), c < 4294967296 → rr j c b < 4294967296
  | 0, _, _, h => h
  | j + 1, c, b, h => by
    unfold rr
    refine rr_lt j _ _ ?_
    split
    · omega
    · exact Nat.xor_lt_two_pow (n := 32) (by omega) (by decide)
/-- The sum's number behind some bytes. -/
def cr (c : Nat) (l : List UInt8) : Nat := l.foldl (fun c b => rr 8 c b.toNat) c
theorem cr_lt : ∀ (l : List UInt8) (c : Nat), c < 4294967296 → cr c l < 4294967296
  | [], _, h => h
  | b :: l, c, h => cr_lt l _ (rr_lt 8 c b.toNat h)
theorem xr_nat (a b : Nat) (ha : a < 4294967296) (hb : b < 4294967296) : xr (a : Int) (b : Int) = ((a ^^^ b : Nat) : Int) := by
  unfold xr
  show IntKind.u32.wrap ((BitVec.ofInt 32 (a : Int) ^^^ BitVec.ofInt 32 (b : Int)).toNat : Int) = _
  have e1 : (BitVec.ofInt 32 (a : Int)).toNat = a := by rw [BitVec.ofInt_natCast, BitVec.toNat_ofNat]; omega
  have e2 : (BitVec.ofInt 32 (b : Int)).toNat = b := by rw [BitVec.ofInt_natCast, BitVec.toNat_ofNat]; omega
  have e3 : a ^^^ b < 4294967296 := Nat.xor_lt_two_pow (n := 32) ha hb
  rw [BitVec.toNat_xor, e1, e2, wrapU32 (by omega) (by omega)]
theorem an_one (a : Nat) (ha : a < 4294967296) : an (a : Int) 1 = ((a % 2 : Nat) : Int) := by
  unfold an
  show IntKind.u32.wrap ((BitVec.ofInt 32 (a : Int) &&& BitVec.ofInt 32 1).toNat : Int) = _
  have e1 : (BitVec.ofInt 32 (a : Int)).toNat = a := by rw [BitVec.ofInt_natCast, BitVec.toNat_ofNat]; omega
  have e2 : (BitVec.ofInt 32 1).toNat = 1 := by decide
  rw [BitVec.toNat_and, e1, e2, Nat.and_one_is_mod, wrapU32 (by omega) (by omega)]
theorem half_nat (a : Nat) : half (a : Int) = ((a / 2 : Nat) : Int) := by
  unfold half
  have : min (Int.toNat 1) 32 = 1 := by decide
  rw [this, Int.fdiv_eq_ediv_of_nonneg _ (by decide)]; omega
theorem rnd_nat (a : Nat) (ha : a < 4294967296) : rnd (a : Int) = (((if a % 2 = 1 then (a / 2) ^^^ 3988292384 else a / 2) : Nat) : Int) := by
  unfold rnd
  rw [an_one a ha, half_nat]
  by_cases e : a % 2 = 1
  · rw [if_pos (by omega), if_pos e]; exact xr_nat (a / 2) 3988292384 (by omega) (by decide)
  · rw [if_neg (by omega), if_neg e]
theorem rnds_nat : ∀ (k a : Nat), a < 4294967296 → rnds k (a : Int) = ((pp k a : Nat) : Int)
  | 0, a, _ => rfl
  | k + 1, a, ha => by
    rw [rnds, rnd_nat a ha, pp]
    refine rnds_nat k _ ?_
    split
    · exact Nat.xor_lt_two_pow (n := 32) (by omega) (by decide)
    · omega
theorem mo_nat (c : Nat) (b : UInt8) (hc : c < 4294967296) : mo (c : Int) b = ((rr 8 c b.toNat : Nat) : Int) := by
  have hb := b.toNat_lt
  unfold mo
  rw [wrapU32 (by omega) (by omega), xr_nat c _ hc (by omega), rnds_nat 8 _ (Nat.xor_lt_two_pow (n := 32) hc (by omega)), pp_rr 8 c _ (by omega)]
theorem fold_nat : ∀ (l : List UInt8) (c : Nat), c < 4294967296 → l.foldl mo (c : Int) = ((cr c l : Nat) : Int)
  | [], c, _ => rfl
  | b :: l, c, hc => by
    rw [List.foldl_cons, mo_nat c b hc]
    exact fold_nat l _ (rr_lt 8 c b.toNat hc)
theorem not32 (c : Nat) (h : c < 4294967296) : xr 4294967295 (c : Int) = ((4294967295 - c : Nat) : Int) := by
  have e0 := xr_nat 4294967295 c (by decide) h
  rw [show ((4294967295 : Nat) : Int) = 4294967295 from rfl] at e0
  rw [e0]
  congr 1
  have e : (BitVec.allOnes 32 ^^^ BitVec.ofNat 32 c) = ~~~ (BitVec.ofNat 32 c) := BitVec.allOnes_xor
  have e2 := congrArg BitVec.toNat e
  rw [BitVec.toNat_xor, BitVec.toNat_not, BitVec.toNat_allOnes, BitVec.toNat_ofNat, Nat.mod_eq_of_lt (by omega)] at e2
  exact e2
theorem smF_cr (l : List UInt8) : smF l = ((4294967295 - cr 4294967295 l : Nat) : Int) := by
  unfold smF
  have := fold_nat l 4294967295 (by decide)
  rw [show ((4294967295 : Nat) : Int) = 4294967295 from rfl] at this
  rw [this, not32 _ (cr_lt l _ (by decide))]
/-- Digits -/
theorem sp86 (v n : Nat) (h : AH) (hv : v < 4294967296) (hn : n ≤ 8) : Sp T 86 [.int .u32 v, .int .i64 n] h (fun r h' => r = .str (bs (be v n)) ∧ Up h h') := by
  refine Sp_of (fn := f86) rfl (show W T b86 [.int .u32 v, .int .i64 n, .tup [], .tup [], .tup [], .tup [], .tup [], .tup [], .tup [], .tup [], .tup [], .tup [], .tup [], .tup [], .tup [], .tup [], .tup [], .tup [], .tup [], .tup [], .tup [], .tup []] _ _ from ?_)
  unfold b86
  repeat' (first
    | (refine wNil ?_) | (refine xPure ?_)
    | (refine xMk ?_; intro id hid; (try simp only [set_none_iff] at hid); refine mkDo ?_)
    | (refine xChk ?_) | (refine xChkF ?_) | (refine xSkip ?_)
    | (refine cSeq ?_) | (refine cNorm ?_) | (refine cRet ?_) | (refine cExit ?_) | (refine W_reg rfl ?_) | (refine W_block ?_) | (refine W_ret ?_) | (refine W_skip ?_) | (refine W_exit ?_) | (refine bNorm ?_) | (refine bRet ?_) | (refine bExit ?_) | (refine bExitN rfl ?_)
    | (refine xMask ?_) | (refine xT ?_) | (refine xF ?_) | (refine xRet ?_) | (refine xNorm ?_)
    | (refine wSplit _ rfl (by (first | (simp only [go_sem, *]; (first | done | exact rfl)) | rfl)) ?_ ?_ <;> intro hb <;> (try simp only [beq_false, beq_true, Bool.not_true, Bool.not_false, Bool.not_eq_true', Bool.not_eq_false', decide_eq_false_iff_not, decide_eq_true_eq, bne_iff_ne, beq_iff_eq, Bool.true_eq, Bool.false_eq, Bool.not_not, Bool.and_eq_true, Bool.or_eq_true, Bool.bne_true, Bool.bne_false, bne_eq_false_iff_eq, beq_eq_false_iff_ne, ne_eq] at hb))
    | (refine W_cond _ (by (first | (simp only [go_sem, *]; (first | done | exact rfl)) | rfl)) ?_ ?_ <;> intro hb <;> (try simp only [beq_false, beq_true, Bool.not_true, Bool.not_false, Bool.not_eq_true', Bool.not_eq_false', decide_eq_false_iff_not, decide_eq_true_eq, bne_iff_ne, beq_iff_eq, Bool.true_eq, Bool.false_eq, Bool.not_not, Bool.and_eq_true, Bool.or_eq_true, Bool.bne_true, Bool.bne_false, bne_eq_false_iff_eq, beq_eq_false_iff_ne, ne_eq] at hb)))
  refine W_loop (fun m tm h' => ∃ k, k + m = n ∧ Up h h' ∧ keep [0, 1, 5, 6] 0 tm = [.int .u32 ((v / 256 ^ k : Nat) : Int), .int .i64 (n : Int), .und, .und, .und, .str (bs (be v k)), .int .i64 (k : Int), .und, .und, .und, .und, .und, .und, .und, .und, .und, .und, .und, .und, .und, .und, .und]) n ⟨0, by omega, Up.refl _, by rw [Nat.pow_zero, Nat.div_one]; rfl⟩ ?_
  rintro m tm h' ⟨k, hk, hU, htm⟩
  refine cSeq (cMask (cNorm ?_))
  rw [htm]; clear htm
  by_cases hm : k < n
  · have d1 : (k : Int) < (n : Int) := by omega
    have hw : v / 256 ^ k < 4294967296 := Nat.lt_of_le_of_lt (Nat.div_le_self _ _) hv
    have e : v / 256 ^ (k + 1) = v / 256 ^ k / 256 := by rw [Nat.pow_succ, Nat.div_div_eq_div_mul]
    have eb : be v (k + 1) = UInt8.ofNat (v / 256 ^ k) :: be v k := rfl
    obtain ⟨w, hw'⟩ : ∃ w, v / 256 ^ k = w := ⟨_, rfl⟩
    rw [hw'] at hw e eb ⊢
    have d2 : (w : Int).tmod 256 = ((w % 256 : Nat) : Int) := by rw [Int.tmod_eq_emod_of_nonneg (by omega)]; omega
    have d3 : IntKind.u8.wrap ((w % 256 : Nat) : Int) = ((UInt8.ofNat w).toNat : Int) := by rw [u8w]; congr 2; apply UInt8.toNat_inj.1; simp
    have d4 : IntKind.u32.wrap ((w : Int).tdiv 256) = ((w / 256 : Nat) : Int) := by rw [Int.tdiv_eq_ediv_of_nonneg (by omega), wrapU32 (by omega) (by omega)]; omega
    have d5 : IntKind.i64.wrap ((k : Int) + 1) = ((k + 1 : Nat) : Int) := by rw [wrap64 (by omega) (by omega)]; rfl
    have d6 : ¬ IntKind.i64.max < ((1 + k : Nat) : Int) := big_no (by omega)
    have d7 : abytes [.int .u8 ((UInt8.ofNat w).toNat : Int)] = some [UInt8.ofNat w] := abytes_bc [UInt8.ofNat w]
    clear hw'
    repeat' (first
      | (refine wNil ?_) | (refine xPure ?_)
      | (refine xMk ?_; intro id hid; (try simp only [set_none_iff] at hid); refine mkDo ?_)
      | (refine xChk ?_) | (refine xChkF ?_) | (refine xSkip ?_)
      | (refine cSeq ?_) | (refine cNorm ?_) | (refine cRet ?_) | (refine cExit ?_) | (refine W_reg rfl ?_) | (refine W_block ?_) | (refine W_ret ?_) | (refine W_skip ?_) | (refine W_exit ?_) | (refine bNorm ?_) | (refine bRet ?_) | (refine bExit ?_) | (refine bExitN rfl ?_)
      | (refine xMask ?_) | (refine xT ?_) | (refine xF ?_) | (refine xRet ?_) | (refine xNorm ?_)
      | (refine wSplit _ rfl (by (first | (simp only [go_sem, *]; (first | done | exact rfl)) | rfl)) ?_ ?_ <;> intro hb <;> (try simp only [beq_false, beq_true, Bool.not_true, Bool.not_false, Bool.not_eq_true', Bool.not_eq_false', decide_eq_false_iff_not, decide_eq_true_eq, bne_iff_ne, beq_iff_eq, Bool.true_eq, Bool.false_eq, Bool.not_not, Bool.and_eq_true, Bool.or_eq_true, Bool.bne_true, Bool.bne_false, bne_eq_false_iff_eq, beq_eq_false_iff_ne, ne_eq] at hb))
      | (refine W_cond _ (by (first | (simp only [go_sem, *]; (first | done | exact rfl)) | rfl)) ?_ ?_ <;> intro hb <;> (try simp only [beq_false, beq_true, Bool.not_true, Bool.not_false, Bool.not_eq_true', Bool.not_eq_false', decide_eq_false_iff_not, decide_eq_true_eq, bne_iff_ne, beq_iff_eq, Bool.true_eq, Bool.false_eq, Bool.not_not, Bool.and_eq_true, Bool.or_eq_true, Bool.bne_true, Bool.bne_false, bne_eq_false_iff_eq, beq_eq_false_iff_ne, ne_eq] at hb)))
    all_goals exact ⟨m - 1, by omega, k + 1, by omega, hU.new (hU.none hid), by simp only [keep, List.contains_cons, List.contains_nil, Nat.reduceBEq, Bool.or_true, Bool.true_or, Bool.or_false, Bool.false_or, if_true, if_false, Bool.false_eq_true, beq_self_eq_true, Nat.zero_add, Nat.reduceAdd, eq_self, e, eb]⟩
  · have d1 : ¬ (k : Int) < (n : Int) := by omega
    repeat' (first
      | (refine wNil ?_) | (refine xPure ?_)
      | (refine xMk ?_; intro id hid; (try simp only [set_none_iff] at hid); refine mkDo ?_)
      | (refine xChk ?_) | (refine xChkF ?_) | (refine xSkip ?_)
      | (refine cSeq ?_) | (refine cNorm ?_) | (refine cRet ?_) | (refine cExit ?_) | (refine W_reg rfl ?_) | (refine W_block ?_) | (refine W_ret ?_) | (refine W_skip ?_) | (refine W_exit ?_) | (refine bNorm ?_) | (refine bRet ?_) | (refine bExit ?_) | (refine bExitN rfl ?_)
      | (refine xMask ?_) | (refine xT ?_) | (refine xF ?_) | (refine xRet ?_) | (refine xNorm ?_)
      | (refine wSplit _ rfl (by (first | (simp only [go_sem, *]; (first | done | exact rfl)) | rfl)) ?_ ?_ <;> intro hb <;> (try simp only [beq_false, beq_true, Bool.not_true, Bool.not_false, Bool.not_eq_true', Bool.not_eq_false', decide_eq_false_iff_not, decide_eq_true_eq, bne_iff_ne, beq_iff_eq, Bool.true_eq, Bool.false_eq, Bool.not_not, Bool.and_eq_true, Bool.or_eq_true, Bool.bne_true, Bool.bne_false, bne_eq_false_iff_eq, beq_eq_false_iff_ne, ne_eq] at hb))
      | (refine W_cond _ (by (first | (simp only [go_sem, *]; (first | done | exact rfl)) | rfl)) ?_ ?_ <;> intro hb <;> (try simp only [beq_false, beq_true, Bool.not_true, Bool.not_false, Bool.not_eq_true', Bool.not_eq_false', decide_eq_false_iff_not, decide_eq_true_eq, bne_iff_ne, beq_iff_eq, Bool.true_eq, Bool.false_eq, Bool.not_not, Bool.and_eq_true, Bool.or_eq_true, Bool.bne_true, Bool.bne_false, bne_eq_false_iff_eq, beq_eq_false_iff_ne, ne_eq] at hb)))
    all_goals (obtain rfl : k = n := by omega)
    all_goals exact ⟨rfl, hU⟩
/-- Sum -/
theorem sp87 (l : List UInt8) (h : AH) (hl : l.length ≤ 1099511627776) : Sp T 87 [.str (bs l)] h (fun v h' => v = .int .u32 (smF l) ∧ h' = h) := by
  refine Sp_of (fn := f87) rfl (show W T b87 [.str (bs l), .tup [], .tup [], .tup [], .tup [], .tup [], .tup [], .tup [], .tup [], .tup [], .tup [], .tup [], .tup [], .tup [], .tup [], .tup [], .tup [], .tup [], .tup [], .tup [], .tup [], .tup [], .tup [], .tup [], .tup [], .tup [], .tup [], .tup [], .tup [], .tup [], .tup [], .tup [], .tup [], .tup [], .tup [], .tup []] _ _ from ?_)
  unfold b87
  repeat' (first
    | (refine wNil ?_) | (refine xPure ?_)
    | (refine xMk ?_; intro id hid; (try simp only [set_none_iff] at hid); refine mkDo ?_)
    | (refine xChk ?_) | (refine xChkF ?_) | (refine xSkip ?_)
    | (refine cSeq ?_) | (refine cNorm ?_) | (refine cRet ?_) | (refine cExit ?_) | (refine W_reg rfl ?_) | (refine W_block ?_) | (refine W_ret ?_) | (refine W_skip ?_) | (refine W_exit ?_) | (refine bNorm ?_) | (refine bRet ?_) | (refine bExit ?_) | (refine bExitN rfl ?_)
    | (refine xMask ?_) | (refine xT ?_) | (refine xF ?_) | (refine xRet ?_) | (refine xNorm ?_)
    | (refine wSplit _ rfl (by (first | (simp only [go_sem, *]; (first | done | exact rfl)) | rfl)) ?_ ?_ <;> intro hb <;> (try simp only [beq_false, beq_true, Bool.not_true, Bool.not_false, Bool.not_eq_true', Bool.not_eq_false', decide_eq_false_iff_not, decide_eq_true_eq, bne_iff_ne, beq_iff_eq, Bool.true_eq, Bool.false_eq, Bool.not_not, Bool.and_eq_true, Bool.or_eq_true, Bool.bne_true, Bool.bne_false, bne_eq_false_iff_eq, beq_eq_false_iff_ne, ne_eq] at hb))
    | (refine W_cond _ (by (first | (simp only [go_sem, *]; (first | done | exact rfl)) | rfl)) ?_ ?_ <;> intro hb <;> (try simp only [beq_false, beq_true, Bool.not_true, Bool.not_false, Bool.not_eq_true', Bool.not_eq_false', decide_eq_false_iff_not, decide_eq_true_eq, bne_iff_ne, beq_iff_eq, Bool.true_eq, Bool.false_eq, Bool.not_not, Bool.and_eq_true, Bool.or_eq_true, Bool.bne_true, Bool.bne_false, bne_eq_false_iff_eq, beq_eq_false_iff_ne, ne_eq] at hb)))
  refine W_loop (fun m tm h' => ∃ k : Nat, k + m = l.length ∧ h' = h ∧ keep [0, 3, 4] 0 tm = [.str (bs l), .und, .und, .int .u32 ((cr 4294967295 (l.take k) : Nat) : Int), .int .i64 (k : Int), .und, .und, .und, .und, .und, .und, .und, .und, .und, .und, .und, .und, .und, .und, .und, .und, .und, .und, .und, .und, .und, .und, .und, .und, .und, .und, .und, .und, .und, .und, .und]) l.length ⟨0, by omega, rfl, rfl⟩ ?_
  rintro m tm h' ⟨k, hk, rfl, htm⟩
  refine cSeq (cMask (cNorm ?_))
  rw [htm]; clear htm
  by_cases hkl : k < l.length
  · have d1 : (k : Int) < (l.length : Int) := by omega
    have d0 : (0 : Int) ≤ (k : Int) := by omega
    have w1 : IntKind.i64.wrap ((k : Int) + 1) = ((k + 1 : Nat) : Int) := by rw [wrap64 (by omega) (by omega)]; rfl
    obtain ⟨b, hb⟩ : ∃ b, l[k]? = some b := ⟨_, List.getElem?_eq_getElem hkl⟩
    have e1 : cr 4294967295 (l.take (k + 1)) = rr 8 (cr 4294967295 (l.take k)) b.toNat := by
      unfold cr
      rw [List.take_add_one, hb, List.foldl_append]; rfl
    have hc := cr_lt (l.take k) 4294967295 (by decide)
    obtain ⟨c0, hc0⟩ : ∃ c0, cr 4294967295 (l.take k) = c0 := ⟨_, rfl⟩
    rw [hc0] at e1 hc ⊢
    have hb8 := b.toNat_lt
    clear hc0
    repeat' (first
      | (refine wNil ?_) | (refine xPure ?_)
      | (refine xMk ?_; intro id hid; (try simp only [set_none_iff] at hid); refine mkDo ?_)
      | (refine xChk ?_) | (refine xChkF ?_) | (refine xSkip ?_)
      | (refine cSeq ?_) | (refine cNorm ?_) | (refine cRet ?_) | (refine cExit ?_) | (refine W_reg rfl ?_) | (refine W_block ?_) | (refine W_ret ?_) | (refine W_skip ?_) | (refine W_exit ?_) | (refine bNorm ?_) | (refine bRet ?_) | (refine bExit ?_) | (refine bExitN rfl ?_)
      | (refine xMask ?_) | (refine xT ?_) | (refine xF ?_) | (refine xRet ?_) | (refine xNorm ?_)
      | (refine wSplit _ rfl (by (first | (simp only [go_sem, *]; (first | done | exact rfl)) | rfl)) ?_ ?_ <;> intro hb <;> (try simp only [beq_false, beq_true, Bool.not_true, Bool.not_false, Bool.not_eq_true', Bool.not_eq_false', decide_eq_false_iff_not, decide_eq_true_eq, bne_iff_ne, beq_iff_eq, Bool.true_eq, Bool.false_eq, Bool.not_not, Bool.and_eq_true, Bool.or_eq_true, Bool.bne_true, Bool.bne_false, bne_eq_false_iff_eq, beq_eq_false_iff_ne, ne_eq] at hb))
      | (refine W_cond _ (by (first | (simp only [go_sem, *]; (first | done | exact rfl)) | rfl)) ?_ ?_ <;> intro hb <;> (try simp only [beq_false, beq_true, Bool.not_true, Bool.not_false, Bool.not_eq_true', Bool.not_eq_false', decide_eq_false_iff_not, decide_eq_true_eq, bne_iff_ne, beq_iff_eq, Bool.true_eq, Bool.false_eq, Bool.not_not, Bool.and_eq_true, Bool.or_eq_true, Bool.bne_true, Bool.bne_false, bne_eq_false_iff_eq, beq_eq_false_iff_ne, ne_eq] at hb)))
    refine W_loop (fun m' tm h'' => ∃ (j c b' : Nat), j + m' = 8 ∧ h'' = h' ∧ c < 4294967296 ∧ b' < 256 ∧ rr 8 c0 b.toNat = rr m' c b' ∧ keep [0, 3, 4, 5, 6] 0 tm = [.str (bs l), .und, .und, .int .u32 (c : Int), .int .i64 (k : Int), .int .u8 (b' : Int), .int .i64 (j : Int), .und, .und, .und, .und, .und, .und, .und, .und, .und, .und, .und, .und, .und, .und, .und, .und, .und, .und, .und, .und, .und, .und, .und, .und, .und, .und, .und, .und, .und]) 8 ⟨0, c0, b.toNat, rfl, rfl, hc, hb8, rfl, rfl⟩ ?_
    clear hb hb8 hc
    rintro m' tm h'' ⟨j, c, b', hj, rfl, hc, hb', hr, htm⟩
    refine cSeq (cMask (cNorm ?_))
    rw [htm]; clear htm
    by_cases hj8 : j < 8
    · have d2 : (j : Int) < 8 := by omega
      have w2 : IntKind.i64.wrap ((j : Int) + 1) = ((j + 1 : Nat) : Int) := by rw [wrap64 (by omega) (by omega)]; rfl
      obtain ⟨m'', rfl⟩ : ∃ z, m' = z + 1 := ⟨m' - 1, by omega⟩
      rw [show rr (m'' + 1) c b' = rr m'' (if c % 2 = b' % 2 then c / 2 else (c / 2) ^^^ 3988292384) (b' / 2) from rfl] at hr
      have f1 : (c : Int).tmod 2 = ((c % 2 : Nat) : Int) := by rw [Int.tmod_eq_emod_of_nonneg (by omega)]; omega
      have f2 : (b' : Int).tmod 2 = ((b' % 2 : Nat) : Int) := by rw [Int.tmod_eq_emod_of_nonneg (by omega)]; omega
      have f3 : IntKind.u32.wrap ((b' % 2 : Nat) : Int) = ((b' % 2 : Nat) : Int) := wrapU32 (by omega) (by omega)
      have f4 : IntKind.u32.wrap ((c : Int).tdiv 2) = ((c / 2 : Nat) : Int) := by rw [Int.tdiv_eq_ediv_of_nonneg (by omega), wrapU32 (by omega) (by omega)]; omega
      have f5 : IntKind.u8.wrap ((b' : Int).tdiv 2) = ((b' / 2 : Nat) : Int) := by rw [Int.tdiv_eq_ediv_of_nonneg (by omega), wrapU8]; omega
      have f6 := xr_eq ((c / 2 : Nat) : Int) 3988292384
      rw [show (3988292384 : Int) = ((3988292384 : Nat) : Int) from rfl, xr_nat (c / 2) 3988292384 (by omega) (by decide), show ((3988292384 : Nat) : Int) = (3988292384 : Int) from rfl] at f6
      have f7 : c / 2 ^^^ 3988292384 < 4294967296 := Nat.xor_lt_two_pow (n := 32) (by omega) (by decide)
      have n2 : ¬ (2 : Int) = 0 := by decide
      have hcx : c / 2 < 4294967296 := by omega
      have hbx : b' / 2 < 256 := by omega
      have hmj : Hid (j + 1 + m'' = 8) := (show j + 1 + m'' = 8 by omega)
      obtain ⟨c2, hc2⟩ : ∃ z, c / 2 = z := ⟨_, rfl⟩
      obtain ⟨b2, hb2⟩ : ∃ z, b' / 2 = z := ⟨_, rfl⟩
      obtain ⟨x2, hx2⟩ : ∃ z, c2 ^^^ 3988292384 = z := ⟨_, rfl⟩
      rw [hc2] at hr f4 f6 f7 hcx
      rw [hb2] at hr f5 hbx
      rw [hx2] at hr f6 f7
      by_cases he : c % 2 = b' % 2
      · have g1 : ((((c % 2 : Nat) : Int)) != ((b' % 2 : Nat) : Int)) = false := by rw [he]; simp
        rw [if_pos he] at hr
        obtain ⟨p, hp⟩ : ∃ z, c % 2 = z := ⟨_, rfl⟩
        obtain ⟨q, hq⟩ : ∃ z, b' % 2 = z := ⟨_, rfl⟩
        rw [hp] at g1 f1
        rw [hq] at g1 f2 f3
        clear he hp hq hc2 hb2 hx2 f6 hj hj8 e1
        repeat' (first
          | (refine wNil ?_) | (refine xPure ?_)
          | (refine xMk ?_; intro id hid; (try simp only [set_none_iff] at hid); refine mkDo ?_)
          | (refine xChk ?_) | (refine xChkF ?_) | (refine xSkip ?_)
          | (refine cSeq ?_) | (refine cNorm ?_) | (refine cRet ?_) | (refine cExit ?_) | (refine W_reg rfl ?_) | (refine W_block ?_) | (refine W_ret ?_) | (refine W_skip ?_) | (refine W_exit ?_) | (refine bNorm ?_) | (refine bRet ?_) | (refine bExit ?_) | (refine bExitN rfl ?_)
          | (refine xMask ?_) | (refine xT ?_) | (refine xF ?_) | (refine xRet ?_) | (refine xNorm ?_)
          | (refine wSplit _ rfl (by (first | (simp only [go_sem, *]; (first | done | exact rfl)) | rfl)) ?_ ?_ <;> intro hb <;> (try simp only [beq_false, beq_true, Bool.not_true, Bool.not_false, Bool.not_eq_true', Bool.not_eq_false', decide_eq_false_iff_not, decide_eq_true_eq, bne_iff_ne, beq_iff_eq, Bool.true_eq, Bool.false_eq, Bool.not_not, Bool.and_eq_true, Bool.or_eq_true, Bool.bne_true, Bool.bne_false, bne_eq_false_iff_eq, beq_eq_false_iff_ne, ne_eq] at hb))
          | (refine W_cond _ (by (first | (simp only [go_sem, *]; (first | done | exact rfl)) | rfl)) ?_ ?_ <;> intro hb <;> (try simp only [beq_false, beq_true, Bool.not_true, Bool.not_false, Bool.not_eq_true', Bool.not_eq_false', decide_eq_false_iff_not, decide_eq_true_eq, bne_iff_ne, beq_iff_eq, Bool.true_eq, Bool.false_eq, Bool.not_not, Bool.and_eq_true, Bool.or_eq_true, Bool.bne_true, Bool.bne_false, bne_eq_false_iff_eq, beq_eq_false_iff_ne, ne_eq] at hb)))
        all_goals exact ⟨m'', by omega, j + 1, c2, b2, hmj, rfl, hcx, hbx, hr, by simp only [keep, List.contains_cons, List.contains_nil, Nat.reduceBEq, Bool.or_true, Bool.true_or, Bool.or_false, Bool.false_or, if_true, if_false, Bool.false_eq_true, beq_self_eq_true, Nat.zero_add, Nat.reduceAdd, eq_self]⟩
      · have g1 : ((((c % 2 : Nat) : Int)) != ((b' % 2 : Nat) : Int)) = true := by rw [bne_iff_ne]; omega
        rw [if_neg he] at hr
        obtain ⟨p, hp⟩ : ∃ z, c % 2 = z := ⟨_, rfl⟩
        obtain ⟨q, hq⟩ : ∃ z, b' % 2 = z := ⟨_, rfl⟩
        rw [hp] at g1 f1
        rw [hq] at g1 f2 f3
        clear he hp hq hc2 hb2 hx2 hj hj8 e1
        repeat' (first
          | (refine wNil ?_) | (refine xPure ?_)
          | (refine xMk ?_; intro id hid; (try simp only [set_none_iff] at hid); refine mkDo ?_)
          | (refine xChk ?_) | (refine xChkF ?_) | (refine xSkip ?_)
          | (refine cSeq ?_) | (refine cNorm ?_) | (refine cRet ?_) | (refine cExit ?_) | (refine W_reg rfl ?_) | (refine W_block ?_) | (refine W_ret ?_) | (refine W_skip ?_) | (refine W_exit ?_) | (refine bNorm ?_) | (refine bRet ?_) | (refine bExit ?_) | (refine bExitN rfl ?_)
          | (refine xMask ?_) | (refine xT ?_) | (refine xF ?_) | (refine xRet ?_) | (refine xNorm ?_)
          | (refine wSplit _ rfl (by (first | (simp only [go_sem, *]; (first | done | exact rfl)) | rfl)) ?_ ?_ <;> intro hb <;> (try simp only [beq_false, beq_true, Bool.not_true, Bool.not_false, Bool.not_eq_true', Bool.not_eq_false', decide_eq_false_iff_not, decide_eq_true_eq, bne_iff_ne, beq_iff_eq, Bool.true_eq, Bool.false_eq, Bool.not_not, Bool.and_eq_true, Bool.or_eq_true, Bool.bne_true, Bool.bne_false, bne_eq_false_iff_eq, beq_eq_false_iff_ne, ne_eq] at hb))
          | (refine W_cond _ (by (first | (simp only [go_sem, *]; (first | done | exact rfl)) | rfl)) ?_ ?_ <;> intro hb <;> (try simp only [beq_false, beq_true, Bool.not_true, Bool.not_false, Bool.not_eq_true', Bool.not_eq_false', decide_eq_false_iff_not, decide_eq_true_eq, bne_iff_ne, beq_iff_eq, Bool.true_eq, Bool.false_eq, Bool.not_not, Bool.and_eq_true, Bool.or_eq_true, Bool.bne_true, Bool.bne_false, bne_eq_false_iff_eq, beq_eq_false_iff_ne, ne_eq] at hb)))
        all_goals exact ⟨m'', by omega, j + 1, x2, b2, hmj, rfl, f7, hbx, hr, by simp only [keep, List.contains_cons, List.contains_nil, Nat.reduceBEq, Bool.or_true, Bool.true_or, Bool.or_false, Bool.false_or, if_true, if_false, Bool.false_eq_true, beq_self_eq_true, Nat.zero_add, Nat.reduceAdd, eq_self]⟩
    · have d2 : ¬ (j : Int) < 8 := by omega
      obtain rfl : m' = 0 := by omega
      have hc2 : c = rr 8 c0 b.toNat := hr.symm
      rw [← e1] at hc2
      subst hc2
      clear hr e1
      repeat' (first
        | (refine wNil ?_) | (refine xPure ?_)
        | (refine xMk ?_; intro id hid; (try simp only [set_none_iff] at hid); refine mkDo ?_)
        | (refine xChk ?_) | (refine xChkF ?_) | (refine xSkip ?_)
        | (refine cSeq ?_) | (refine cNorm ?_) | (refine cRet ?_) | (refine cExit ?_) | (refine W_reg rfl ?_) | (refine W_block ?_) | (refine W_ret ?_) | (refine W_skip ?_) | (refine W_exit ?_) | (refine bNorm ?_) | (refine bRet ?_) | (refine bExit ?_) | (refine bExitN rfl ?_)
        | (refine xMask ?_) | (refine xT ?_) | (refine xF ?_) | (refine xRet ?_) | (refine xNorm ?_)
        | (refine wSplit _ rfl (by (first | (simp only [go_sem, *]; (first | done | exact rfl)) | rfl)) ?_ ?_ <;> intro hb <;> (try simp only [beq_false, beq_true, Bool.not_true, Bool.not_false, Bool.not_eq_true', Bool.not_eq_false', decide_eq_false_iff_not, decide_eq_true_eq, bne_iff_ne, beq_iff_eq, Bool.true_eq, Bool.false_eq, Bool.not_not, Bool.and_eq_true, Bool.or_eq_true, Bool.bne_true, Bool.bne_false, bne_eq_false_iff_eq, beq_eq_false_iff_ne, ne_eq] at hb))
        | (refine W_cond _ (by (first | (simp only [go_sem, *]; (first | done | exact rfl)) | rfl)) ?_ ?_ <;> intro hb <;> (try simp only [beq_false, beq_true, Bool.not_true, Bool.not_false, Bool.not_eq_true', Bool.not_eq_false', decide_eq_false_iff_not, decide_eq_true_eq, bne_iff_ne, beq_iff_eq, Bool.true_eq, Bool.false_eq, Bool.not_not, Bool.and_eq_true, Bool.or_eq_true, Bool.bne_true, Bool.bne_false, bne_eq_false_iff_eq, beq_eq_false_iff_ne, ne_eq] at hb)))
      all_goals exact ⟨m - 1, by omega, k + 1, by omega, rfl, by simp only [keep, List.contains_cons, List.contains_nil, Nat.reduceBEq, Bool.or_true, Bool.true_or, Bool.or_false, Bool.false_or, if_true, if_false, Bool.false_eq_true, beq_self_eq_true, Nat.zero_add, Nat.reduceAdd, eq_self]⟩
  · have d1 : ¬ (k : Int) < (l.length : Int) := by omega
    rw [List.take_of_length_le (by omega)]
    have hc := cr_lt l 4294967295 (by decide)
    have w9 : IntKind.u32.wrap (4294967295 - ((cr 4294967295 l : Nat) : Int)) = smF l := by rw [smF_cr, wrapU32 (by omega) (by omega)]; omega
    repeat' (first
      | (refine wNil ?_) | (refine xPure ?_)
      | (refine xMk ?_; intro id hid; (try simp only [set_none_iff] at hid); refine mkDo ?_)
      | (refine xChk ?_) | (refine xChkF ?_) | (refine xSkip ?_)
      | (refine cSeq ?_) | (refine cNorm ?_) | (refine cRet ?_) | (refine cExit ?_) | (refine W_reg rfl ?_) | (refine W_block ?_) | (refine W_ret ?_) | (refine W_skip ?_) | (refine W_exit ?_) | (refine bNorm ?_) | (refine bRet ?_) | (refine bExit ?_) | (refine bExitN rfl ?_)
      | (refine xMask ?_) | (refine xT ?_) | (refine xF ?_) | (refine xRet ?_) | (refine xNorm ?_)
      | (refine wSplit _ rfl (by (first | (simp only [go_sem, *]; (first | done | exact rfl)) | rfl)) ?_ ?_ <;> intro hb <;> (try simp only [beq_false, beq_true, Bool.not_true, Bool.not_false, Bool.not_eq_true', Bool.not_eq_false', decide_eq_false_iff_not, decide_eq_true_eq, bne_iff_ne, beq_iff_eq, Bool.true_eq, Bool.false_eq, Bool.not_not, Bool.and_eq_true, Bool.or_eq_true, Bool.bne_true, Bool.bne_false, bne_eq_false_iff_eq, beq_eq_false_iff_ne, ne_eq] at hb))
      | (refine W_cond _ (by (first | (simp only [go_sem, *]; (first | done | exact rfl)) | rfl)) ?_ ?_ <;> intro hb <;> (try simp only [beq_false, beq_true, Bool.not_true, Bool.not_false, Bool.not_eq_true', Bool.not_eq_false', decide_eq_false_iff_not, decide_eq_true_eq, bne_iff_ne, beq_iff_eq, Bool.true_eq, Bool.false_eq, Bool.not_not, Bool.and_eq_true, Bool.or_eq_true, Bool.bne_true, Bool.bne_false, bne_eq_false_iff_eq, beq_eq_false_iff_ne, ne_eq] at hb)))
    all_goals exact ⟨rfl, rfl⟩
/-- the document's Frame -/
theorem sp75 (k : Nat) (l : List UInt8) (h : AH) (hk : k ≤ 255) (hl : l.length ≤ 1048576) : Sp T 75 [.int .u8 k, .str (bs l)] h (fun r h' => r = .str (bs (fr k l)) ∧ Up h h') := by
  have hu0 := Up.refl h
  have a5 : (UInt8.ofNat k).toNat = k := by simp; omega
  have a6 : abytes [.int .u8 (k : Int)] = some [UInt8.ofNat k] := by
    show (abytes []).map (UInt8.ofNat ((k : Int)).toNat :: ·) = _
    simp [abytes]
  have a7 : IntKind.u32.wrap (l.length : Int) = (l.length : Int) := wrapU32 (by omega) (by omega)
  have a8 : ¬ IntKind.i64.max < (((1 : Nat) + 3 : Nat) : Int) := by decide
  have a9 : ¬ IntKind.i64.max < (((fb k l).length + 4 : Nat) : Int) := big_no (by rw [fb_len]; omega)
  have a10 : ¬ IntKind.i64.max < ((3 + 1 + l.length : Nat) : Int) := big_no (by omega)
  have e1 : [UInt8.ofNat k] ++ be l.length 3 ++ l = fb k l := by simp [fb]
  have e2 := sm_nat (fb k l)
  have e4 : UInt8.ofNat k :: (be l.length 3 ++ l) = fb k l := rfl
  have a11 : ¬ IntKind.i64.max < ((l.length + 4 + 4 : Nat) : Int) := big_no (by omega)
  have a12 : fb k l ++ be (smF (fb k l)).toNat 4 = fr k l := rfl
  have e3 := fb_len k l
  have e5 : (smF (fb k l)).toNat < 4294967296 := by have := xr_rng 4294967295 ((fb k l).foldl mo 4294967295); unfold smF; omega
  refine Sp_of (fn := f75) rfl (show W T b75 [.int .u8 k, .str (bs l), .tup [], .tup [], .tup [], .tup [], .tup [], .tup [], .tup [], .tup [], .tup [], .tup [], .tup [], .tup [], .tup [], .tup [], .tup [], .tup [], .tup [], .tup [], .tup []] _ _ from ?_)
  unfold b75
  repeat' (first
    | (refine wNil ?_)
    | (refine wPure rfl (by (first | (simp only [go_sem, Int.le_refl, gt_iff_lt, *]; (first | done | exact rfl)) | rfl)) rfl (by (first | (simp only [go_sem, Int.le_refl, gt_iff_lt, *]; (first | done | exact rfl)) | rfl)) ?_; dsimp only [putT, ev, Int.toNat_zero, Nat.sub_zero, Int.toNat_natCast,  gd_zero, gd_succ, Nat.zero_add, Nat.add_zero, Nat.reduceAdd, Nat.reduceMul, List.set_cons_zero, List.set_cons_succ, keep, List.contains_cons, List.contains_nil])
    | (refine wMk rfl (by (first | (simp only [go_sem, Int.le_refl, gt_iff_lt, *]; (first | done | exact rfl)) | rfl)) rfl ?_; intro id hid; (try simp only [set_none_iff] at hid); have hz := hid; (repeat (replace hz := hz.2)); (try have := Up.none hu0 hz); refine ⟨_, (by (first | (simp only [go_sem, Int.le_refl, gt_iff_lt, *]; (first | done | exact rfl)) | rfl)), ?_⟩; dsimp only [putT, ev, Int.toNat_zero, Nat.sub_zero, Int.toNat_natCast,  gd_zero, gd_succ, Nat.zero_add, Nat.add_zero, Nat.reduceAdd, Nat.reduceMul, List.set_cons_zero, List.set_cons_succ, keep, List.contains_cons, List.contains_nil])
    | (refine wChk rfl (by (first | (simp only [go_sem, Int.le_refl, gt_iff_lt, *]; (first | done | exact rfl)) | rfl)) rfl (by (first | (simp only [go_sem, Int.le_refl, gt_iff_lt, *]; (first | done | exact rfl)) | rfl)) rfl ?_) | (refine wChkF rfl (by (first | (simp only [go_sem, Int.le_refl, gt_iff_lt, *]; (first | done | exact rfl)) | rfl)) rfl ?_)
    | (refine wSkip rfl (by (first | (simp only [go_sem, Int.le_refl, gt_iff_lt, *]; (first | done | exact rfl)) | rfl)) ?_; dsimp only [putT, ev, Int.toNat_zero, Nat.sub_zero, Int.toNat_natCast,  gd_zero, gd_succ, Nat.zero_add, Nat.add_zero, Nat.reduceAdd, Nat.reduceMul, List.set_cons_zero, List.set_cons_succ, keep, List.contains_cons, List.contains_nil])
    | (refine xCall rfl rfl (sp86 l.length 3 _ (by omega) (by decide)) ?_; rintro v h2 ⟨rfl, hu2⟩; refine nTm ?_)
    | (refine xCall rfl rfl (sp87 (fb k l) _ (by omega)) ?_; rintro v h3 ⟨rfl, hx⟩; cases hx; rw [← e2]; refine nTm ?_)
    | (refine xCall rfl rfl (sp86 (smF (fb k l)).toNat 4 _ e5 (by decide)) ?_; rintro v h4 ⟨rfl, hu4⟩; refine nTm ?_)
    | (refine cSeq ?_) | (refine cNorm ?_) | (refine cRet ?_) | (refine cExit ?_) | (refine W_reg rfl ?_) | (refine W_block ?_) | (refine W_ret ?_) | (refine W_skip ?_) | (refine W_exit ?_) | (refine bNorm ?_) | (refine bRet ?_) | (refine bExit ?_) | (refine bExitN rfl ?_)
    | (refine cMask' (by simp only [keep, List.contains_cons, List.contains_nil, Nat.reduceBEq, Bool.or_true, Bool.true_or, Bool.or_false, Bool.false_or, if_true, if_false, Bool.false_eq_true, beq_self_eq_true, Nat.zero_add, Nat.reduceAdd, eq_self]; exact rfl) ?_)
    | (refine cT (by (first | (simp only [go_sem, Int.le_refl, gt_iff_lt, *]; (first | done | exact rfl)) | rfl)) ?_) | (refine cF (by (first | (simp only [go_sem, Int.le_refl, gt_iff_lt, *]; (first | done | exact rfl)) | rfl)) ?_)
    | (refine rRet (by (first | (simp only [go_sem, Int.le_refl, gt_iff_lt, *]; (first | done | exact rfl)) | rfl)) ?_) | (refine rNorm (by (first | (simp only [go_sem, Int.le_refl, gt_iff_lt, *]; (first | done | exact rfl)) | rfl)) ?_)
    | (refine wSplit _ rfl (by (first | (simp only [go_sem, Int.le_refl, gt_iff_lt, *]; (first | done | exact rfl)) | rfl)) ?_ ?_ <;> intro hb <;> (try simp only [beq_false, beq_true, Bool.not_true, Bool.not_false, Bool.not_eq_true', Bool.not_eq_false', decide_eq_false_iff_not, decide_eq_true_eq, bne_iff_ne, beq_iff_eq, Bool.true_eq, Bool.false_eq, Bool.not_not, Bool.and_eq_true, Bool.or_eq_true, Bool.bne_true, Bool.bne_false, bne_eq_false_iff_eq, beq_eq_false_iff_ne, ne_eq] at hb))
    | (refine W_cond _ (by (first | (simp only [go_sem, Int.le_refl, gt_iff_lt, *]; (first | done | exact rfl)) | rfl)) ?_ ?_ <;> intro hb <;> (try simp only [beq_false, beq_true, Bool.not_true, Bool.not_false, Bool.not_eq_true', Bool.not_eq_false', decide_eq_false_iff_not, decide_eq_true_eq, bne_iff_ne, beq_iff_eq, Bool.true_eq, Bool.false_eq, Bool.not_not, Bool.and_eq_true, Bool.or_eq_true, Bool.bne_true, Bool.bne_false, bne_eq_false_iff_eq, beq_eq_false_iff_ne, ne_eq] at hb)))
  all_goals exact ⟨rfl, fun x b e => hu4 x b (by have e2 := hu2 x b e; rw [set_ne (nei e2 hid)]; exact e2)⟩
end Go.Proofs.YtgekngfnhhdamaaI
set_option linter.unusedVariables false
set_option linter.unusedSimpArgs false
set_option maxRecDepth 100000
set_option maxHeartbeats 4000000
namespace Go.Proofs.YtgekngfnhhdamaaI
open Go Go.Proofs.YtgekngfnhhdamaaM
attribute [local go_sem] aop ev fg_slc fg_slk fg_ptr fg_bool fg_int fg_str fg_iface fg_func fg_agg fg_tup fg_nils fg_nilp fg_nilI fg_nilF fg_und aboundsK alen_nils alen_slc alen_slk aslice_nils aslice_slc aslice_slk awanted abin aun aint aeqn aeqc aeqs apart abounds abnd amaxi amaxiGo cells_agg cells_slc cells_slk cells_ptr cells_bool cells_int cells_str cells_iface cells_func cells_tup cells_nils cells_nilp cells_nilI cells_nilF cells_und sc_slc sc_slk sc_ptr sc_bool sc_int sc_str sc_iface sc_func sc_nils sc_nilp sc_nilI sc_nilF gd_zero gd_succ List.all_cons List.all_nil Bool.and_self Bool.and_true Bool.true_and List.length_cons List.length_nil Option.map_some Option.some.injEq cell_same cell_ne cell_ne' cellsAt_same cellsAt_ne cellsAt_ne' put_same put_of set_same set_ne set_ne' List.getElem?_cons_zero List.getElem?_cons_succ if_true if_false and_self and_true true_and ne_eq not_true_eq_false not_false_eq_true decide_true decide_false Bool.false_eq_true Bool.true_eq_false beq_self_eq_true bne_self_eq_false beq_true beq_false Bool.not_true Bool.not_false List.map_cons List.map_nil putL List.set_cons_zero List.set_cons_succ afill Nat.zero_le Nat.le_refl Nat.zero_add Nat.add_zero List.drop_zero List.drop_succ_cons List.take_zero List.take_succ_cons Bool.not_eq_true Bool.not_eq_false decide_eq_true_eq decide_eq_false_iff_not Int.toNat_zero Nat.sub_zero Int.toNat_natCast Bool.bne_true Bool.bne_false AH.cell AH.cellsAt AH.put Nat.mul_one Nat.one_mul Int.natCast_nonneg List.length_set bs_append bs_size bs_toList bs_extract bs_get List.append_nil Nat.sub_zero bne_self_eq_false beq_self_eq_true azeros Int.le_refl
/-- Put -/
theorem sp35 (h0 : AH) (w : List Nat) (l : List UInt8) (C : Nat) (n : Int) (h : AH) (hw : Wr h0 w h l) (hl : l.length ≤ 1000000000) (hn : n ≤ 9223372036854775807) : Sp T 35 [.agg [.int .u64 C, .int .i64 n], .ptr w 0] h (fun r h' => Wr h0 w h' (l ++ encU C ++ encN n)) := by
  have b1 := encU_length C
  have b2 : (encN n).length ≤ 9 := encU_length n.toNat
  have gb : ∀ v ∈ [n], v ≤ 9223372036854775807 := by simp; omega
  refine Sp_of (fn := f35) rfl (show W T b35 [.agg [.int .u64 C, .int .i64 n], .ptr w 0, .tup [], .tup [], .tup [], .tup [], .tup [], .tup [], .tup [], .tup [], .tup [], .tup [], .tup []] _ _ from ?_)
  unfold b35
  repeat' (first
    | (refine wNil ?_) | (refine xPure ?_)
    | (refine xMk ?_; intro id hid; (try simp only [set_none_iff] at hid); have hz := hid; (repeat (replace hz := hz.2)); (try have := nei g1 hz); refine mkDo ?_)
    | (refine xChk ?_) | (refine xChkF ?_) | (refine xSkip ?_)
    | (refine xCall rfl rfl (sp30 ((h0.set _ (some ⟨true, _⟩)).set id (some ⟨true, [C].map fun (v : Nat) => AV.int .u64 (v : Int)⟩)) w id true l [C] _ (Wr.new (hw.new (by assumption)) (by simp only [set_none_iff]; assumption)) set_same (by simp only [List.flatMap_cons, List.flatMap_nil, List.append_nil, List.length_append]; omega) (by simp)) ?_; rintro r h2 ⟨rfl, hW2⟩; have hw2 := Wr.drop hW2 (by rw [set_ne hid.1]; exact hw.1.no hid.2); have g1 := hw2.get set_same; simp only [List.flatMap_cons, List.flatMap_nil, List.append_nil] at hw2; refine nTm ?_)
    | (refine xCall rfl rfl (sp40 ((h0.set _ (some ⟨true, _⟩)).set id (some ⟨true, [n].map fun (v : Int) => AV.int .i64 v⟩)) w id true _ [n] _ (hw2.new hid) set_same gb (by simp only [List.flatMap_cons, List.flatMap_nil, List.append_nil, List.length_append]; omega) (by simp)) ?_; rintro r h3 ⟨rfl, hW3⟩; have hw3 := Wr.drop hW3 (hw2.1.no hid); simp only [List.flatMap_cons, List.flatMap_nil, List.append_nil] at hw3; refine nTm ?_)
    | (refine cSeq ?_) | (refine cNorm ?_) | (refine cRet ?_) | (refine cExit ?_) | (refine W_reg rfl ?_) | (refine W_block ?_) | (refine W_ret ?_) | (refine W_skip ?_) | (refine W_exit ?_) | (refine bNorm ?_) | (refine bRet ?_) | (refine bExit ?_) | (refine bExitN rfl ?_)
    | (refine xMask ?_) | (refine xT ?_) | (refine xF ?_) | (refine xRet ?_) | (refine xNorm ?_)
    | (refine wSplit _ rfl (by (first | (simp only [go_sem, *]; (first | done | exact rfl)) | rfl)) ?_ ?_ <;> intro hb <;> (try simp only [beq_false, beq_true, Bool.not_true, Bool.not_false, Bool.not_eq_true', Bool.not_eq_false', decide_eq_false_iff_not, decide_eq_true_eq, bne_iff_ne, beq_iff_eq, Bool.true_eq, Bool.false_eq, Bool.not_not, Bool.and_eq_true, Bool.or_eq_true, Bool.bne_true, Bool.bne_false, bne_eq_false_iff_eq, beq_eq_false_iff_ne, ne_eq] at hb))
    | (refine W_cond _ (by (first | (simp only [go_sem, *]; (first | done | exact rfl)) | rfl)) ?_ ?_ <;> intro hb <;> (try simp only [beq_false, beq_true, Bool.not_true, Bool.not_false, Bool.not_eq_true', Bool.not_eq_false', decide_eq_false_iff_not, decide_eq_true_eq, bne_iff_ne, beq_iff_eq, Bool.true_eq, Bool.false_eq, Bool.not_not, Bool.and_eq_true, Bool.or_eq_true, Bool.bne_true, Bool.bne_false, bne_eq_false_iff_eq, beq_eq_false_iff_ne, ne_eq] at hb)))
  all_goals exact Wr.drop hw3 (hw.1.no (by assumption))
theorem encB_length (b : Bool) : (encB b).length = 1 := by cases b <;> rfl
theorem hdI_len (k2 k3 k4 : Int) (C : Nat) (n1 s1 s2 : Int) (ok : Bool) (x : List UInt8) (n : Nat) : (hdI k2 k3 k4 C n1 s1 s2 ok x n).length ≤ 200 + x.length := by
  have l1 : (encN k2).length ≤ 9 := encU_length k2.toNat
  have l2 : (encN k3).length ≤ 9 := encU_length k3.toNat
  have l3 : (encN k4).length ≤ 9 := encU_length k4.toNat
  have l4 : (encN s1).length ≤ 9 := encU_length s1.toNat
  have l5 : (encN s2).length ≤ 9 := encU_length s2.toNat
  have l6 : (encN (n : Int)).length ≤ 9 := encU_length (n : Int).toNat
  have l7 := encS_len x
  have l8 := encB_length ok
  have l9 := encU_length C
  have l10 : (encN n1).length ≤ 9 := encU_length n1.toNat
  unfold hdI
  simp only [List.length_append]
  omega
theorem inI_len (k2 k3 k4 : Int) (C : Nat) (n1 s1 s2 : Int) (ok : Bool) (x : List UInt8) (L : List En) (hL : ∀ y ∈ L, okE y) : (inI k2 k3 k4 C n1 s1 s2 ok x L).length ≤ 200 + x.length + 1036 * L.length := by
  have a := hdI_len k2 k3 k4 C n1 s1 s2 ok x L.length
  have b := enL_len hL
  unfold inI
  rw [List.length_append]; omega
/-- the document's Bytes -/
theorem sp51g (k1 k2 k3 k4 : Int) (C : Nat) (n1 s1 s2 : Int) (ok : Bool) (x : List UInt8) (S : AV) (L : List En) (h : AH) (hS : Lg h S L) (hk : 0 ≤ k1 ∧ k1 ≤ 255) (hl : L.length ≤ 64) (hx : x.length ≤ 131072) (b1 : k2 ≤ 9223372036854775807) (b2 : k3 ≤ 9223372036854775807) (b3 : k4 ≤ 9223372036854775807) (bC : C ≤ 18446744073709551615) (b4 : n1 ≤ 9223372036854775807) (b5 : s1 ≤ 9223372036854775807) (b6 : s2 ≤ 9223372036854775807) (hL : ∀ y ∈ L, okE y) :
    Sp T 51 [.agg [.int .i64 k1, .int .i64 k2, .int .i64 k3, .int .i64 k4, .int .u64 (C : Int), .int .i64 n1, .int .i64 s1, .int .i64 s2, .bool ok, .str (bs x), S]] h (fun v h' => v = .str (bs (fr k1.toNat (inI k2 k3 k4 C n1 s1 s2 ok x L))) ∧ Up h h') := by
  have hu0 := Up.refl h
  have hSc := hS.sc.2
  have hi := inI_len k2 k3 k4 C n1 s1 s2 ok x L hL
  have w1 : IntKind.u8.wrap k1 = ((k1.toNat : Nat) : Int) := by rw [wrapU8]; omega
  refine Sp_of (fn := f51) rfl (show W T b51 [.agg [.int .i64 k1, .int .i64 k2, .int .i64 k3, .int .i64 k4, .int .u64 (C : Int), .int .i64 n1, .int .i64 s1, .int .i64 s2, .bool ok, .str (bs x), S], .tup [], .tup [], .tup [], .tup [], .tup [], .tup [], .tup [], .tup []] _ _ from ?_)
  unfold b51
  repeat' (first
    | (refine wNil ?_) | (refine xPure ?_)
    | (refine xMk ?_; intro id hid; (try simp only [set_none_iff] at hid); have hz := hid; (repeat (replace hz := hz.2)); (try have := Up.none hu0 hz); refine mkDo ?_)
    | (refine xChk ?_) | (refine xChkF ?_) | (refine xSkip ?_)
    | (refine xCall rfl rfl (sp76g k1 k2 k3 k4 C n1 s1 s2 ok x S L _ (hS.up (by repeat' (first | assumption | exact Up.refl _ | refine Up.new ?_ ?_))) (by omega) (by omega) b1 b2 b3 bC b4 b5 b6 hL) ?_; rintro v j1 ⟨rfl, hu1⟩; have hb := hu1 _ _ set_same; have HU1 : Up h j1 := Up.trans (show Up h _ from (by repeat' (first | assumption | exact Up.refl _ | refine Up.new ?_ ?_))) hu1; refine nTm ?_)
    | (refine xCall rfl rfl (sp75 k1.toNat (inI k2 k3 k4 C n1 s1 s2 ok x L) _ (by omega) (by omega)) ?_; rintro v j2 ⟨rfl, hu2⟩; have HU2 := HU1.trans hu2; refine nTm ?_)
    | (refine cSeq ?_) | (refine cNorm ?_) | (refine cRet ?_) | (refine cExit ?_) | (refine W_reg rfl ?_) | (refine W_block ?_) | (refine W_ret ?_) | (refine W_skip ?_) | (refine W_exit ?_) | (refine bNorm ?_) | (refine bRet ?_) | (refine bExit ?_) | (refine bExitN rfl ?_)
    | (refine xMask ?_) | (refine xT ?_) | (refine xF ?_) | (refine xRet ?_) | (refine xNorm ?_)
    | (refine wSplit _ rfl (by (first | (simp only [go_sem, *]; (first | done | exact rfl)) | rfl)) ?_ ?_ <;> intro hb <;> (try simp only [beq_false, beq_true, Bool.not_true, Bool.not_false, Bool.not_eq_true', Bool.not_eq_false', decide_eq_false_iff_not, decide_eq_true_eq, bne_iff_ne, beq_iff_eq, Bool.true_eq, Bool.false_eq, Bool.not_not, Bool.and_eq_true, Bool.or_eq_true, Bool.bne_true, Bool.bne_false, bne_eq_false_iff_eq, beq_eq_false_iff_ne, ne_eq] at hb))
    | (refine W_cond _ (by (first | (simp only [go_sem, *]; (first | done | exact rfl)) | rfl)) ?_ ?_ <;> intro hb <;> (try simp only [beq_false, beq_true, Bool.not_true, Bool.not_false, Bool.not_eq_true', Bool.not_eq_false', decide_eq_false_iff_not, decide_eq_true_eq, bne_iff_ne, beq_iff_eq, Bool.true_eq, Bool.false_eq, Bool.not_not, Bool.and_eq_true, Bool.or_eq_true, Bool.bne_true, Bool.bne_false, bne_eq_false_iff_eq, beq_eq_false_iff_ne, ne_eq] at hb)))
  all_goals exact ⟨rfl, HU2⟩
end Go.Proofs.YtgekngfnhhdamaaI
set_option linter.unusedVariables false
set_option linter.unusedSimpArgs false
set_option maxRecDepth 100000
set_option maxHeartbeats 4000000
namespace Go.Proofs.YtgekngfnhhdamaaI
open Go Go.Proofs.YtgekngfnhhdamaaM
attribute [local go_sem] aop ev fg_slc fg_slk fg_ptr fg_bool fg_int fg_str fg_iface fg_func fg_agg fg_tup fg_nils fg_nilp fg_nilI fg_nilF fg_und aboundsK alen_nils alen_slc alen_slk aslice_nils aslice_slc aslice_slk awanted abin aun aint aeqn aeqc aeqs apart abounds abnd amaxi amaxiGo cells_agg cells_slc cells_slk cells_ptr cells_bool cells_int cells_str cells_iface cells_func cells_tup cells_nils cells_nilp cells_nilI cells_nilF cells_und sc_slc sc_slk sc_ptr sc_bool sc_int sc_str sc_iface sc_func sc_nils sc_nilp sc_nilI sc_nilF gd_zero gd_succ List.all_cons List.all_nil Bool.and_self Bool.and_true Bool.true_and List.length_cons List.length_nil Option.map_some Option.some.injEq cell_same cell_ne cell_ne' cellsAt_same cellsAt_ne cellsAt_ne' put_same put_of set_same set_ne set_ne' List.getElem?_cons_zero List.getElem?_cons_succ if_true if_false and_self and_true true_and ne_eq not_true_eq_false not_false_eq_true decide_true decide_false Bool.false_eq_true Bool.true_eq_false beq_self_eq_true bne_self_eq_false beq_true beq_false Bool.not_true Bool.not_false List.map_cons List.map_nil putL List.set_cons_zero List.set_cons_succ afill Nat.zero_le Nat.le_refl Nat.zero_add Nat.add_zero List.drop_zero List.drop_succ_cons List.take_zero List.take_succ_cons Bool.not_eq_true Bool.not_eq_false decide_eq_true_eq decide_eq_false_iff_not Int.toNat_zero Nat.sub_zero Int.toNat_natCast Bool.bne_true Bool.bne_false AH.cell AH.cellsAt AH.put Nat.mul_one Nat.one_mul Int.natCast_nonneg List.length_set bs_append bs_size bs_toList bs_extract bs_get List.append_nil Nat.sub_zero bne_self_eq_false beq_self_eq_true azeros Int.le_refl
theorem encT_bs (l : List UInt8) : encT (bs l) = encS l := by unfold encT; rfl
theorem Wr.new' {h0 h : AH} {p q : List Nat} {l : List UInt8} {a b : Option Blk} (hw : Wr h0 p h l) (hq : h q = none) : Wr (h0.set q b) p ((h.set q a).set q b) l := by
  rw [set_set]; exact hw.new hq
def L50c : ICode := (.seq (.block 0 (.loop (.seq (.mask [1, 3, 45, 46, 47]) (.seq (.reg [(0, false)] r50_8)
 (.seq (.cond (.t 48) .skip
 (.exit 0))
 (.seq (.seq (.block 1 (.seq (.reg [(0, false), (1, false), (2, false), (3, false)] r50_9)
 (.seq (.reg [(0, false), (1, false), (2, false), (3, false), (4, false)] r50_10)
 (.seq (.reg [(0, false), (1, false), (2, false), (3, false)] r50_11)
 (.reg [(0, false), (1, false), (2, false), (3, false), (4, false)] r50_12))))) (.mask [1, 3, 45, 46, 47]))
 (.reg [(0, false), (1, false)] r50_13))))))) (.mask [1, 3]))
def R50c : ICode := (.seq (.reg [(0, false), (1, false), (2, false), (3, false), (4, false), (1, true), (5, false), (6, false)] r50_14)
 .ret)
theorem tail50 (k1 k2 k3 k4 : Int) (C : Nat) (n1 s1 s2 : Int) (ok : Bool) (x : List UInt8) (S : AV) (L : List En) (h j1 g : AH) (b1 w : List Nat) (hS : Le h S L) (hk : 1 ≤ k1 ∧ k1 ≤ 13) (hl : L.length ≤ 64) (hx : x.length ≤ 131072) (hL : ∀ y ∈ L, okE y) (HU1 : Up h j1) (hb : j1 b1 = some ⟨true, [.int .i64 k1, .int .i64 k2, .int .i64 k3, .int .i64 k4, .int .u64 (C : Int), .int .i64 n1, .int .i64 s1, .int .i64 s2, .bool ok, .str (bs x), S]⟩) (hw : Wr j1 w g (hdI k2 k3 k4 C n1 s1 s2 ok x L.length))
    (tm : List AV) (htm : keep [1, 3, 45, 46, 47] 0 tm = [.und, .ptr b1 0, .und, .ptr w 0, .und, .und, .und, .und, .und, .und, .und, .und, .und, .und, .und, .und, .und, .und, .und, .und, .und, .und, .und, .und, .und, .und, .und, .und, .und, .und, .und, .und, .und, .und, .und, .und, .und, .und, .und, .und, .und, .und, .und, .und, .und, S, .int .i64 (L.length : Int), .int .i64 0, .und, .und, .und, .und, .und, .und, .und, .und, .und, .und, .und, .und, .und, .und, .und, .und, .und, .und, .und, .und, .und, .und, .und, .und]) :
    W T L50c tm g (Then (fun tm' h' => W T R50c tm' h' (Rets f50 fun v h' => v = .str (bs (fr k1.toNat (inI k2 k3 k4 C n1 s1 s2 ok x L))) ∧ Up h h')) (Rets f50 fun v h' => v = .str (bs (fr k1.toNat (inI k2 k3 k4 C n1 s1 s2 ok x L))) ∧ Up h h')) := by
  have hHl := hdI_len k2 k3 k4 C n1 s1 s2 ok x L.length
  have hInl := inI_len k2 k3 k4 C n1 s1 s2 ok x L hL
  have w0 : IntKind.u8.wrap k1 = ((k1.toNat : Nat) : Int) := by rw [wrapU8]; omega
  unfold L50c
  refine cSeq ?_
  refine W_block ?_
  refine W_loop (fun m tm g => ∃ k : Nat, k + m = L.length ∧ Wr j1 w g (hdI k2 k3 k4 C n1 s1 s2 ok x L.length ++ (L.take k).flatMap enE) ∧ keep [1, 3, 45, 46, 47] 0 tm = [.und, .ptr b1 0, .und, .ptr w 0, .und, .und, .und, .und, .und, .und, .und, .und, .und, .und, .und, .und, .und, .und, .und, .und, .und, .und, .und, .und, .und, .und, .und, .und, .und, .und, .und, .und, .und, .und, .und, .und, .und, .und, .und, .und, .und, .und, .und, .und, .und, S, .int .i64 (L.length : Int), .int .i64 (k : Int), .und, .und, .und, .und, .und, .und, .und, .und, .und, .und, .und, .und, .und, .und, .und, .und, .und, .und, .und, .und, .und, .und, .und, .und]) L.length ⟨0, by omega, by simpa using hw, htm⟩ ?_
  clear htm hw
  rintro m tm g ⟨k, hk, hw, htm⟩
  refine cSeq (cMask (cNorm ?_))
  rw [htm]; clear htm
  have hbg := hw.get hb
  by_cases hkl : k < L.length
  · have d1 : (k : Int) < (L.length : Int) := by omega
    have d2 : (0 : Int) ≤ (k : Int) := by omega
    have w1 : IntKind.i64.wrap ((k : Int) + 1) = ((k + 1 : Nat) : Int) := by rw [wrap64 (by omega) (by omega)]; rfl
    obtain ⟨⟨y1, y2, y3, y4⟩, hy⟩ : ∃ y, L[k]? = some y := ⟨_, List.getElem?_eq_getElem hkl⟩
    obtain ⟨c1, c2, c3, c4⟩ := hL _ (List.mem_of_getElem? hy)
    simp only at c1 c2 c3 c4
    have htk : (L.take (k + 1)).flatMap enE = (L.take k).flatMap enE ++ enE (y1, y2, y3, y4) := by rw [List.take_add_one, hy, List.flatMap_append]; simp
    have hPl := enL_len (L := L.take k) (fun z hz => hL z (List.mem_of_mem_take hz))
    have hlk : (L.take k).length ≤ 1000 := by rw [List.length_take]; omega
    rcases hS with ⟨rfl, rfl⟩ | ⟨iL, ow, rfl, hLL⟩
    · simp at hkl
    have hLj := HU1 _ _ hLL
    have hLg := hw.get hLj
    obtain ⟨g1, g2⟩ := flat_get eMz hy []
    rw [List.append_nil] at g1 g2
    simp only [eM] at g2
    have l1 : (encN y1).length ≤ 9 := encU_length y1.toNat
    have l2 := encU_length y2
    have l3 : (encN y3).length ≤ 9 := encU_length y3.toNat
    have l4 := encS_len y4
    rw [← encT_bs] at l4
    have gy1 : ∀ v ∈ [y1], v ≤ 9223372036854775807 := by simp; omega
    have hnew : (hdI k2 k3 k4 C n1 s1 s2 ok x L.length ++ (L.take (k + 1)).flatMap enE) = (hdI k2 k3 k4 C n1 s1 s2 ok x L.length ++ (L.take k).flatMap enE) ++ (encN y1 ++ (encU y2 ++ encN y3) ++ encS y4) := by rw [htk, ← List.append_assoc]; rfl
    have hPl2 : ((hdI k2 k3 k4 C n1 s1 s2 ok x L.length ++ (L.take k).flatMap enE)).length ≤ 2000000 := by rw [List.length_append]; omega
    obtain ⟨P, hP⟩ : ∃ P, (hdI k2 k3 k4 C n1 s1 s2 ok x L.length ++ (L.take k).flatMap enE) = P := ⟨_, rfl⟩
    rw [hP] at hnew hw hPl2
    clear hP htk hPl hlk hy hHl hInl hL c1 c2
    repeat' (first
      | (refine wNil ?_) | (refine xPure ?_)
      | (refine xMk ?_; intro id hid; (try simp only [set_none_iff] at hid); have hz := hid; (repeat (replace hz := hz.2)); (try have := nei hLg hz); (try have := nei hbA hz); (try have := nei hbB hz); refine mkDo ?_)
      | (refine xChk ?_) | (refine xChkF ?_) | (refine xSkip ?_)
      | (refine xCall rfl rfl (sp40 ((j1.set _ (some ⟨true, [.int .i64 y1, .int .u64 (y2 : Int), .int .i64 y3, .str (bs y4)]⟩)).set id (some ⟨true, [y1].map fun (v : Int) => AV.int .i64 v⟩)) _ id true _ [y1] _ (Wr.new (Wr.new' hw (by assumption)) (by simp only [set_none_iff]; assumption)) set_same gy1 (by simp only [List.flatMap_cons, List.flatMap_nil, List.append_nil, List.nil_append, List.length_append]; omega) (by simp)) ?_; rintro r gA ⟨rfl, hWn⟩; have hwA := Wr.drop hWn (by rw [set_ne hid.1]; exact hw.1.no (by first | exact hid.2.2 | exact hid.2)); clear hWn; simp only [List.flatMap_cons, List.flatMap_nil, List.append_nil, List.nil_append] at hwA; have hbA := hwA.get set_same; refine nTm ?_)
      | (refine xCall rfl rfl (sp35 (j1.set _ (some ⟨true, [.int .i64 y1, .int .u64 (y2 : Int), .int .i64 y3, .str (bs y4)]⟩)) _ _ y2 y3 _ hwA (by simp only [List.length_append]; omega) c3) ?_; rintro r gB hwB; have hbB := hwB.get set_same; refine nTm ?_)
      | (refine xCall rfl rfl (sp41 ((j1.set _ (some ⟨true, [.int .i64 y1, .int .u64 (y2 : Int), .int .i64 y3, .str (bs y4)]⟩)).set id (some ⟨true, [(bs y4)].map fun (v : ByteArray) => AV.str v⟩)) _ id true _ [(bs y4)] _ (hwB.new hid) set_same  (by simp only [List.flatMap_cons, List.flatMap_nil, List.append_nil, List.nil_append, List.length_append]; omega) (by simp)) ?_; rintro r gC ⟨rfl, hWn⟩; have hwC := Wr.drop hWn (hwB.1.no hid); clear hWn; simp only [List.flatMap_cons, List.flatMap_nil, List.append_nil, List.nil_append] at hwC; have hbC := hwC.get set_same; rw [encT_bs] at hwC; refine nTm ?_)
      | (refine cSeq ?_) | (refine cNorm ?_) | (refine cRet ?_) | (refine cExit ?_) | (refine W_reg rfl ?_) | (refine W_block ?_) | (refine W_ret ?_) | (refine W_skip ?_) | (refine W_exit ?_) | (refine bNorm ?_) | (refine bRet ?_) | (refine bExit ?_) | (refine bExitN rfl ?_)
      | (refine xMask ?_) | (refine xT ?_) | (refine xF ?_) | (refine xRet ?_) | (refine xNorm ?_)
      | (refine wSplit _ rfl (by (first | (simp only [go_sem, *]; (first | done | exact rfl)) | rfl)) ?_ ?_ <;> intro hb <;> (try simp only [beq_false, beq_true, Bool.not_true, Bool.not_false, Bool.not_eq_true', Bool.not_eq_false', decide_eq_false_iff_not, decide_eq_true_eq, bne_iff_ne, beq_iff_eq, Bool.true_eq, Bool.false_eq, Bool.not_not, Bool.and_eq_true, Bool.or_eq_true, Bool.bne_true, Bool.bne_false, bne_eq_false_iff_eq, beq_eq_false_iff_ne, ne_eq] at hb))
      | (refine W_cond _ (by (first | (simp only [go_sem, *]; (first | done | exact rfl)) | rfl)) ?_ ?_ <;> intro hb <;> (try simp only [beq_false, beq_true, Bool.not_true, Bool.not_false, Bool.not_eq_true', Bool.not_eq_false', decide_eq_false_iff_not, decide_eq_true_eq, bne_iff_ne, beq_iff_eq, Bool.true_eq, Bool.false_eq, Bool.not_not, Bool.and_eq_true, Bool.or_eq_true, Bool.bne_true, Bool.bne_false, bne_eq_false_iff_eq, beq_eq_false_iff_ne, ne_eq] at hb)))
    have hwZ := Wr.drop hwC (hw.1.no (by assumption))
    exact ⟨m - 1, by omega, k + 1, by omega, by rw [hnew]; simp only [List.append_assoc] at hwZ ⊢; exact hwZ, by simp only [keep, List.contains_cons, List.contains_nil, Nat.reduceBEq, Bool.or_true, Bool.true_or, Bool.or_false, Bool.false_or, if_true, if_false, Bool.false_eq_true, beq_self_eq_true, Nat.zero_add, Nat.reduceAdd, eq_self]⟩
  · have d1 : ¬ (k : Int) < (L.length : Int) := by omega
    rw [List.take_of_length_le (by omega)] at hw
    rw [show hdI k2 k3 k4 C n1 s1 s2 ok x L.length ++ L.flatMap enE = inI k2 k3 k4 C n1 s1 s2 ok x L from rfl] at hw
    unfold R50c
    repeat' (first
      | (refine wNil ?_) | (refine xPure ?_)
      | (refine xMk ?_; intro id hid; (try simp only [set_none_iff] at hid); refine mkDo ?_)
      | (refine xChk ?_) | (refine xChkF ?_) | (refine xSkip ?_)
      | (refine xCall rfl rfl (sp31 j1 _ _ _ hw) ?_; rintro r q6 ⟨rfl, hx⟩; cases hx; refine nTm ?_)
      | (refine xCall rfl rfl (sp39 k1.toNat (inI k2 k3 k4 C n1 s1 s2 ok x L) _ ⟨by omega, by omega⟩ (by omega)) ?_; rintro r g8 ⟨rfl, hu8⟩; refine nTm ?_)
      | (refine cSeq ?_) | (refine cNorm ?_) | (refine cRet ?_) | (refine cExit ?_) | (refine W_reg rfl ?_) | (refine W_block ?_) | (refine W_ret ?_) | (refine W_skip ?_) | (refine W_exit ?_) | (refine bNorm ?_) | (refine bRet ?_) | (refine bExit ?_) | (refine bExitN rfl ?_)
      | (refine xMask ?_) | (refine xT ?_) | (refine xF ?_) | (refine xRet ?_) | (refine xNorm ?_)
      | (refine wSplit _ rfl (by (first | (simp only [go_sem, *]; (first | done | exact rfl)) | rfl)) ?_ ?_ <;> intro hb <;> (try simp only [beq_false, beq_true, Bool.not_true, Bool.not_false, Bool.not_eq_true', Bool.not_eq_false', decide_eq_false_iff_not, decide_eq_true_eq, bne_iff_ne, beq_iff_eq, Bool.true_eq, Bool.false_eq, Bool.not_not, Bool.and_eq_true, Bool.or_eq_true, Bool.bne_true, Bool.bne_false, bne_eq_false_iff_eq, beq_eq_false_iff_ne, ne_eq] at hb))
      | (refine W_cond _ (by (first | (simp only [go_sem, *]; (first | done | exact rfl)) | rfl)) ?_ ?_ <;> intro hb <;> (try simp only [beq_false, beq_true, Bool.not_true, Bool.not_false, Bool.not_eq_true', Bool.not_eq_false', decide_eq_false_iff_not, decide_eq_true_eq, bne_iff_ne, beq_iff_eq, Bool.true_eq, Bool.false_eq, Bool.not_not, Bool.and_eq_true, Bool.or_eq_true, Bool.bne_true, Bool.bne_false, bne_eq_false_iff_eq, beq_eq_false_iff_ne, ne_eq] at hb)))
    all_goals exact ⟨rfl, fun z b e => hu8 z b (hw.1 z b (HU1 z b e))⟩
/-- Bytes -/
theorem sp50 (k1 k2 k3 k4 : Int) (C : Nat) (n1 s1 s2 : Int) (ok : Bool) (x : List UInt8) (S : AV) (L : List En) (h : AH) (hS : Le h S L) (hl : L.length ≤ 1000) (hx : x.length ≤ 1000) (bC : C ≤ 18446744073709551615) (b1 : k2 ≤ 9223372036854775807) (b2 : k3 ≤ 9223372036854775807) (b3 : k4 ≤ 9223372036854775807) (b4 : n1 ≤ 9223372036854775807) (b5 : s1 ≤ 9223372036854775807) (b6 : s2 ≤ 9223372036854775807) (hL : ∀ y ∈ L, okE y) :
    Sp T 50 [.agg [.int .i64 k1, .int .i64 k2, .int .i64 k3, .int .i64 k4, .int .u64 (C : Int), .int .i64 n1, .int .i64 s1, .int .i64 s2, .bool ok, .str (bs x), S]] h (fun v h' => v = .str (bs (if chk k1 k2 k3 k4 C n1 s1 s2 x L = 0 then fr k1.toNat (inI k2 k3 k4 C n1 s1 s2 ok x L) else [])) ∧ Up h h') := by
  have hu0 := Up.refl h
  have hSl := hS.len
  have hSc : S.scalar = true := by rcases hS with ⟨rfl, rfl⟩ | ⟨i, _, rfl, _⟩ <;> rfl
  obtain ⟨ck, hck⟩ : ∃ c, chk k1 k2 k3 k4 C n1 s1 s2 x L = c := ⟨_, rfl⟩
  by_cases hz : ck = 0
  · subst hz
    rw [if_pos hck]
    obtain ⟨a1, a2, a3, a4, a5, a6, a7, a8, a9, a10, a11, a12⟩ := chk_zero _ _ _ _ _ _ _ _ ok _ _ hck
    have gb1 : ∀ v ∈ [k2, k3, k4], v ≤ 9223372036854775807 := by simp; omega
    have gb2 : ∀ v ∈ [s1, s2], v ≤ 9223372036854775807 := by simp; omega
    have gb3 : ∀ v ∈ [(L.length : Int)], v ≤ 9223372036854775807 := by simp; omega
    have l1 : (encN k2).length ≤ 9 := encU_length k2.toNat
    have l2 : (encN k3).length ≤ 9 := encU_length k3.toNat
    have l3 : (encN k4).length ≤ 9 := encU_length k4.toNat
    have l4 : (encN s1).length ≤ 9 := encU_length s1.toNat
    have l5 : (encN s2).length ≤ 9 := encU_length s2.toNat
    have l6 : (encN (L.length : Int)).length ≤ 9 := encU_length (L.length : Int).toNat
    have l7 := encS_len x
    have l7' := encS_len x
    rw [← encT_bs] at l7'
    have l8 := encB_length ok
    have l9 := encU_length C
    have l10 : (encN n1).length ≤ 9 := encU_length n1.toNat
    have ehd : encN k2 ++ (encN k3 ++ encN k4) ++ encU C ++ encN n1 ++ (encN s1 ++ encN s2) ++ encB ok ++ encS x ++ encN (L.length : Int) = hdI k2 k3 k4 C n1 s1 s2 ok x L.length := by
      unfold hdI; simp only [List.append_assoc]
    clear a2 a3 a4 a5 a6 a7 a10 a11 a12
    refine Sp_of (fn := f50) rfl (show W T b50 [.agg [.int .i64 k1, .int .i64 k2, .int .i64 k3, .int .i64 k4, .int .u64 (C : Int), .int .i64 n1, .int .i64 s1, .int .i64 s2, .bool ok, .str (bs x), S], .tup [], .tup [], .tup [], .tup [], .tup [], .tup [], .tup [], .tup [], .tup [], .tup [], .tup [], .tup [], .tup [], .tup [], .tup [], .tup [], .tup [], .tup [], .tup [], .tup [], .tup [], .tup [], .tup [], .tup [], .tup [], .tup [], .tup [], .tup [], .tup [], .tup [], .tup [], .tup [], .tup [], .tup [], .tup [], .tup [], .tup [], .tup [], .tup [], .tup [], .tup [], .tup [], .tup [], .tup [], .tup [], .tup [], .tup [], .tup [], .tup [], .tup [], .tup [], .tup [], .tup [], .tup [], .tup [], .tup [], .tup [], .tup [], .tup [], .tup [], .tup [], .tup [], .tup [], .tup [], .tup [], .tup [], .tup [], .tup [], .tup [], .tup [], .tup []] _ _ from ?_)
    unfold b50
    repeat' (first
      | (refine wNil ?_) | (refine xPure ?_)
      | (refine xMk ?_; intro id hid; (try simp only [set_none_iff] at hid); have hz := hid; (repeat (replace hz := hz.2)); (try have := nei hb hz); (try have := nei hb2 hz); (try have := nei hb3 hz); (try have := nei hb4 hz); (try have := nei hb5 hz); (try have := nei hb6 hz); (try have := nei hb7 hz); (try have := Up.none hu0 hz); refine mkDo ?_)
      | (refine xChk ?_) | (refine xChkF ?_) | (refine xSkip ?_)
      | (refine xCall rfl rfl (sp49 k1 k2 k3 k4 C n1 s1 s2 ok x S L _ (hS.up (by repeat' (first | assumption | exact Up.refl _ | refine Up.new ?_ ?_))) (by omega)) ?_; rintro v j1 ⟨rfl, hu1⟩; rw [hck]; have hb := hu1 _ _ set_same; have HU1 : Up h j1 := Up.trans (show Up h _ from (by repeat' (first | assumption | exact Up.refl _ | refine Up.new ?_ ?_))) hu1; clear hu1; refine nTm ?_)
      | (refine xCall rfl rfl (sp40 ((j1).set id (some ⟨true, [k2, k3, k4].map fun (v : Int) => AV.int .i64 v⟩)) _ id true _ [k2, k3, k4] _ (Wr.new (Wr.start Sub.rfl' (by assumption)) (set_none_iff.2 hid)) set_same gb1 (by simp only [List.flatMap_cons, List.flatMap_nil, List.append_nil, List.nil_append, List.length_append]; omega) (by simp)) ?_; rintro r g2 ⟨rfl, hWn⟩; have hw2 := Wr.drop hWn (hid.2); clear hWn; simp only [List.flatMap_cons, List.flatMap_nil, List.append_nil, List.nil_append] at hw2; have hb2 := hw2.get hb; refine nTm ?_)
      | (refine xCall rfl rfl (sp35 j1 _ _ C n1 _ hw2 (by simp only [List.length_append]; omega) b4) ?_; rintro r g3 hw3; have hb3 := hw3.get hb; refine nTm ?_)
      | (refine xCall rfl rfl (sp40 ((j1).set id (some ⟨true, [s1, s2].map fun (v : Int) => AV.int .i64 v⟩)) _ id true _ [s1, s2] _ (hw3.new hid) set_same gb2 (by simp only [List.flatMap_cons, List.flatMap_nil, List.append_nil, List.nil_append, List.length_append]; omega) (by simp)) ?_; rintro r g4 ⟨rfl, hWn⟩; have hw4 := Wr.drop hWn (hw3.1.no hid); clear hWn; simp only [List.flatMap_cons, List.flatMap_nil, List.append_nil, List.nil_append] at hw4; have hb4 := hw4.get hb; refine nTm ?_)
      | (refine xCall rfl rfl (sp42 ((j1).set id (some ⟨true, [ok].map fun (v : Bool) => AV.bool v⟩)) _ id true _ [ok] _ (hw4.new hid) set_same  (by simp only [List.flatMap_cons, List.flatMap_nil, List.append_nil, List.nil_append, List.length_append]; omega) (by simp)) ?_; rintro r g5 ⟨rfl, hWn⟩; have hw5 := Wr.drop hWn (hw4.1.no hid); clear hWn; simp only [List.flatMap_cons, List.flatMap_nil, List.append_nil, List.nil_append] at hw5; have hb5 := hw5.get hb; refine nTm ?_)
      | (refine xCall rfl rfl (sp41 ((j1).set id (some ⟨true, [(bs x)].map fun (v : ByteArray) => AV.str v⟩)) _ id true _ [(bs x)] _ (hw5.new hid) set_same  (by simp only [List.flatMap_cons, List.flatMap_nil, List.append_nil, List.nil_append, List.length_append]; omega) (by simp)) ?_; rintro r g6 ⟨rfl, hWn⟩; have hw6 := Wr.drop hWn (hw5.1.no hid); clear hWn; simp only [List.flatMap_cons, List.flatMap_nil, List.append_nil, List.nil_append] at hw6; have hb6 := hw6.get hb; rw [encT_bs] at hw6; refine nTm ?_)
      | (refine xCall rfl rfl (sp40 ((j1).set id (some ⟨true, [(L.length : Int)].map fun (v : Int) => AV.int .i64 v⟩)) _ id true _ [(L.length : Int)] _ (hw6.new hid) set_same gb3 (by simp only [List.flatMap_cons, List.flatMap_nil, List.append_nil, List.nil_append, List.length_append]; omega) (by simp)) ?_; rintro r g7 ⟨rfl, hWn⟩; have hw7 := Wr.drop hWn (hw6.1.no hid); clear hWn; simp only [List.flatMap_cons, List.flatMap_nil, List.append_nil, List.nil_append] at hw7; have hb7 := hw7.get hb; refine nTm ?_)
      | (exact tail50 k1 k2 k3 k4 C n1 s1 s2 ok x S L h j1 _ _ _ hS a1 (by omega) a8 hL HU1 hb (ehd ▸ hw7) _ rfl)
      | (refine cSeq ?_) | (refine cNorm ?_) | (refine cRet ?_) | (refine cExit ?_) | (refine W_reg rfl ?_) | (refine W_block ?_) | (refine W_ret ?_) | (refine W_skip ?_) | (refine W_exit ?_) | (refine bNorm ?_) | (refine bRet ?_) | (refine bExit ?_) | (refine bExitN rfl ?_)
      | (refine xMask ?_) | (refine xT ?_) | (refine xF ?_) | (refine xRet ?_) | (refine xNorm ?_)
      | (refine wSplit _ rfl (by (first | (simp only [go_sem, *]; (first | done | exact rfl)) | rfl)) ?_ ?_ <;> intro hb <;> (try simp only [beq_false, beq_true, Bool.not_true, Bool.not_false, Bool.not_eq_true', Bool.not_eq_false', decide_eq_false_iff_not, decide_eq_true_eq, bne_iff_ne, beq_iff_eq, Bool.true_eq, Bool.false_eq, Bool.not_not, Bool.and_eq_true, Bool.or_eq_true, Bool.bne_true, Bool.bne_false, bne_eq_false_iff_eq, beq_eq_false_iff_ne, ne_eq] at hb))
      | (refine W_cond _ (by (first | (simp only [go_sem, *]; (first | done | exact rfl)) | rfl)) ?_ ?_ <;> intro hb <;> (try simp only [beq_false, beq_true, Bool.not_true, Bool.not_false, Bool.not_eq_true', Bool.not_eq_false', decide_eq_false_iff_not, decide_eq_true_eq, bne_iff_ne, beq_iff_eq, Bool.true_eq, Bool.false_eq, Bool.not_not, Bool.and_eq_true, Bool.or_eq_true, Bool.bne_true, Bool.bne_false, bne_eq_false_iff_eq, beq_eq_false_iff_ne, ne_eq] at hb)))
  · have hz' : (ck != 0) = true := by simpa using hz
    rw [if_neg (by rw [hck]; exact hz)]
    refine Sp_of (fn := f50) rfl (show W T b50 [.agg [.int .i64 k1, .int .i64 k2, .int .i64 k3, .int .i64 k4, .int .u64 (C : Int), .int .i64 n1, .int .i64 s1, .int .i64 s2, .bool ok, .str (bs x), S], .tup [], .tup [], .tup [], .tup [], .tup [], .tup [], .tup [], .tup [], .tup [], .tup [], .tup [], .tup [], .tup [], .tup [], .tup [], .tup [], .tup [], .tup [], .tup [], .tup [], .tup [], .tup [], .tup [], .tup [], .tup [], .tup [], .tup [], .tup [], .tup [], .tup [], .tup [], .tup [], .tup [], .tup [], .tup [], .tup [], .tup [], .tup [], .tup [], .tup [], .tup [], .tup [], .tup [], .tup [], .tup [], .tup [], .tup [], .tup [], .tup [], .tup [], .tup [], .tup [], .tup [], .tup [], .tup [], .tup [], .tup [], .tup [], .tup [], .tup [], .tup [], .tup [], .tup [], .tup [], .tup [], .tup [], .tup [], .tup [], .tup [], .tup [], .tup []] _ _ from ?_)
    unfold b50
    repeat' (first
      | (refine wNil ?_) | (refine xPure ?_)
      | (refine xMk ?_; intro id hid; (try simp only [set_none_iff] at hid); have hz := hid; (repeat (replace hz := hz.2)); (try have := Up.none hu0 hz); refine mkDo ?_)
      | (refine xChk ?_) | (refine xChkF ?_) | (refine xSkip ?_)
      | (refine xCall rfl rfl (sp49 k1 k2 k3 k4 C n1 s1 s2 ok x S L _ (hS.up (by repeat' (first | assumption | exact Up.refl _ | refine Up.new ?_ ?_))) (by omega)) ?_; rintro v j1 ⟨rfl, hu1⟩; rw [hck]; have hb := hu1 _ _ set_same; have HU1 : Up h j1 := Up.trans (show Up h _ from (by repeat' (first | assumption | exact Up.refl _ | refine Up.new ?_ ?_))) hu1; clear hu1; refine nTm ?_)
      | (refine cSeq ?_) | (refine cNorm ?_) | (refine cRet ?_) | (refine cExit ?_) | (refine W_reg rfl ?_) | (refine W_block ?_) | (refine W_ret ?_) | (refine W_skip ?_) | (refine W_exit ?_) | (refine bNorm ?_) | (refine bRet ?_) | (refine bExit ?_) | (refine bExitN rfl ?_)
      | (refine xMask ?_) | (refine xT ?_) | (refine xF ?_) | (refine xRet ?_) | (refine xNorm ?_)
      | (refine wSplit _ rfl (by (first | (simp only [go_sem, *]; (first | done | exact rfl)) | rfl)) ?_ ?_ <;> intro hb <;> (try simp only [beq_false, beq_true, Bool.not_true, Bool.not_false, Bool.not_eq_true', Bool.not_eq_false', decide_eq_false_iff_not, decide_eq_true_eq, bne_iff_ne, beq_iff_eq, Bool.true_eq, Bool.false_eq, Bool.not_not, Bool.and_eq_true, Bool.or_eq_true, Bool.bne_true, Bool.bne_false, bne_eq_false_iff_eq, beq_eq_false_iff_ne, ne_eq] at hb))
      | (refine W_cond _ (by (first | (simp only [go_sem, *]; (first | done | exact rfl)) | rfl)) ?_ ?_ <;> intro hb <;> (try simp only [beq_false, beq_true, Bool.not_true, Bool.not_false, Bool.not_eq_true', Bool.not_eq_false', decide_eq_false_iff_not, decide_eq_true_eq, bne_iff_ne, beq_iff_eq, Bool.true_eq, Bool.false_eq, Bool.not_not, Bool.and_eq_true, Bool.or_eq_true, Bool.bne_true, Bool.bne_false, bne_eq_false_iff_eq, beq_eq_false_iff_ne, ne_eq] at hb)))
    all_goals exact ⟨rfl, HU1⟩
end Go.Proofs.YtgekngfnhhdamaaI
set_option linter.unusedVariables false
set_option linter.unusedSimpArgs false
set_option maxRecDepth 100000
set_option maxHeartbeats 4000000
namespace Go.Proofs.YtgekngfnhhdamaaI
open Go Go.Proofs.YtgekngfnhhdamaaM
attribute [local go_sem] aop ev fg_slc fg_slk fg_ptr fg_bool fg_int fg_str fg_iface fg_func fg_agg fg_tup fg_nils fg_nilp fg_nilI fg_nilF fg_und aboundsK alen_nils alen_slc alen_slk aslice_nils aslice_slc aslice_slk awanted abin aun aint aeqn aeqc aeqs apart abounds abnd amaxi amaxiGo cells_agg cells_slc cells_slk cells_ptr cells_bool cells_int cells_str cells_iface cells_func cells_tup cells_nils cells_nilp cells_nilI cells_nilF cells_und sc_slc sc_slk sc_ptr sc_bool sc_int sc_str sc_iface sc_func sc_nils sc_nilp sc_nilI sc_nilF gd_zero gd_succ List.all_cons List.all_nil Bool.and_self Bool.and_true Bool.true_and List.length_cons List.length_nil Option.map_some Option.some.injEq cell_same cell_ne cell_ne' cellsAt_same cellsAt_ne cellsAt_ne' put_same put_of set_same set_ne set_ne' List.getElem?_cons_zero List.getElem?_cons_succ if_true if_false and_self and_true true_and ne_eq not_true_eq_false not_false_eq_true decide_true decide_false Bool.false_eq_true Bool.true_eq_false beq_self_eq_true bne_self_eq_false beq_true beq_false Bool.not_true Bool.not_false List.map_cons List.map_nil putL List.set_cons_zero List.set_cons_succ afill Nat.zero_le Nat.le_refl Nat.zero_add Nat.add_zero List.drop_zero List.drop_succ_cons List.take_zero List.take_succ_cons Bool.not_eq_true Bool.not_eq_false decide_eq_true_eq decide_eq_false_iff_not Int.toNat_zero Nat.sub_zero Int.toNat_natCast Bool.bne_true Bool.bne_false AH.cell AH.cellsAt AH.put Nat.mul_one Nat.one_mul Int.natCast_nonneg List.length_set bs_append bs_size bs_toList bs_extract bs_get List.append_nil Nat.sub_zero bne_self_eq_false beq_self_eq_true azeros Int.le_refl
set_option linter.constructorNameAsVariable false
theorem inI_small (k1 k2 k3 k4 : Int) (C : Nat) (n1 s1 s2 : Int) (ok : Bool) (x : List UInt8) (L : List En) (hck : chk k1 k2 k3 k4 C n1 s1 s2 x L = 0) (hC : C ≤ 18446744073709551615) (hL : ∀ y ∈ L, okE y) (hx : x.length ≤ 300) : (inI k2 k3 k4 C n1 s1 s2 ok x L).length ≤ 1048576 ∧ (1 ≤ k1 ∧ k1 ≤ 13) ∧ L.length ≤ 64 := by
  obtain ⟨a1, a2, a3, a4, a5, a6, a7, a8, a9, a10, a11, a12⟩ := chk_zero _ _ _ _ _ _ _ _ ok _ _ hck
  have := inI_len k2 k3 k4 C n1 s1 s2 ok x L hL
  exact ⟨by omega, a1, a9⟩
theorem exE_eq {I0 F0 : List UInt8} (hl : F0.length = I0.length + 8) : dn [] (exE I0 F0 0) = 0 := by
  unfold exE; rw [if_pos hl.symm]; unfold dn; rw [if_pos rfl]
theorem exE_ne {I0 F0 : List UInt8} (hl : F0.length = I0.length + 9) : dn [] (exE I0 F0 0) = 4 := by
  unfold exE; rw [if_neg (by omega)]; unfold dn; rw [if_pos rfl]; rfl
theorem sp55' (k : Nat) (I0 F0 : List UInt8) (n : Nat) (g : AH) (hk : 1 ≤ k ∧ k ≤ 13) (hi : I0.length ≤ 1048576) (hl : F0.length = I0.length + n) (hn : n ≤ 9) (hO : ∀ g, Sp T 68 [.str (bs F0)] g (fun v g' => v = .tup [.int .u8 (k : Int), .str (bs I0), .int .i64 0] ∧ Up g g')) : Sp T 55 [.str (bs F0)] g (PM g k I0 F0) :=
  sp55 k I0 F0 g (by omega) (by omega) (by omega) hO
theorem back1 (k1 k2 k3 k4 : Int) (C : Nat) (n1 s1 s2 : Int) (ok : Bool) (x : List UInt8) (L : List En) (hck : chk k1 k2 k3 k4 C n1 s1 s2 x L = 0) (hC : C ≤ 18446744073709551615) (hL : ∀ y ∈ L, okE y) (hx : x.length ≤ 300) (g : AH) : Sp T 55 [.str (bs (fr k1.toNat (inI k2 k3 k4 C n1 s1 s2 ok x L)))] g (fun v g' => ∃ S, v = .tup [.agg [.int .i64 k1, .int .i64 k2, .int .i64 k3, .int .i64 k4, .int .u64 (C : Int), .int .i64 n1, .int .i64 s1, .int .i64 s2, .bool ok, .str (bs x), S], .int .i64 0] ∧ Po g g' S L ∧ Up g g') := by
  obtain ⟨hi, hk, _⟩ := inI_small k1 k2 k3 k4 C n1 s1 s2 ok x L hck hC hL hx
  have hk' : 1 ≤ k1.toNat ∧ k1.toNat ≤ 13 := by omega
  have hO := fun g => sp68fr k1.toNat (inI k2 k3 k4 C n1 s1 s2 ok x L) [] ⟨hk'.1, by omega⟩ hi g
  rw [List.append_nil] at hO
  refine Sp.mono (sp55' k1.toNat (inI k2 k3 k4 C n1 s1 s2 ok x L) (fr k1.toNat (inI k2 k3 k4 C n1 s1 s2 ok x L)) 8 g hk' hi (fr_len _ _) (by decide) hO) ?_
  intro v g' hP
  have hQ := PM_enc k1 k2 k3 k4 C n1 s1 s2 ok x L g _ v g' hck hC hL hP
  rw [exE_eq (fr_len _ _)] at hQ
  exact hQ.1 rfl
theorem back2 (k1 k2 k3 k4 : Int) (C : Nat) (n1 s1 s2 : Int) (ok : Bool) (x : List UInt8) (L : List En) (hck : chk k1 k2 k3 k4 C n1 s1 s2 x L = 0) (hC : C ≤ 18446744073709551615) (hL : ∀ y ∈ L, okE y) (hx : x.length ≤ 300) (g : AH) : Sp T 55 [.str (bs ((fr k1.toNat (inI k2 k3 k4 C n1 s1 s2 ok x L)) ++ [120]))] g (fun v g' => v = .tup [.agg [.int .i64 0, .int .i64 0, .int .i64 0, .int .i64 0, .int .u64 0, .int .i64 0, .int .i64 0, .int .i64 0, .bool false, .str ⟨#[]⟩, .nils], .int .i64 4] ∧ Up g g') := by
  obtain ⟨hi, hk, _⟩ := inI_small k1 k2 k3 k4 C n1 s1 s2 ok x L hck hC hL hx
  have hk' : 1 ≤ k1.toNat ∧ k1.toNat ≤ 13 := by omega
  have hO := fun g => sp68fr k1.toNat (inI k2 k3 k4 C n1 s1 s2 ok x L) [120] ⟨hk'.1, by omega⟩ hi g
  have hl2 : ((fr k1.toNat (inI k2 k3 k4 C n1 s1 s2 ok x L)) ++ [120]).length = (inI k2 k3 k4 C n1 s1 s2 ok x L).length + 9 := by rw [List.length_append, fr_len]; rfl
  refine Sp.mono (sp55' k1.toNat (inI k2 k3 k4 C n1 s1 s2 ok x L) ((fr k1.toNat (inI k2 k3 k4 C n1 s1 s2 ok x L)) ++ [120]) 9 g hk' hi hl2 (by decide) hO) ?_
  intro v g' hP
  have hQ := PM_enc k1 k2 k3 k4 C n1 s1 s2 ok x L g _ v g' hck hC hL hP
  rw [exE_ne hl2] at hQ
  exact hQ.2 (by decide)
def R11c : ICode := (.seq (.reg [(0, false), (1, false), (2, false), (3, false)] r11_4)
 (.seq (.reg [(0, false), (1, false), (2, false)] r11_5)
 (.seq (.reg [(0, false), (1, false), (2, false), (3, false), (4, false), (5, false), (6, false), (7, false)] r11_6)
 (.seq (.reg [(0, false), (1, false), (2, false), (3, false), (4, false), (5, false), (6, false), (7, false), (8, false)] r11_7)
 (.seq (.reg [(0, false), (1, false), (2, false), (3, false), (4, false), (5, false), (6, false), (7, false), (8, false), (9, false), (10, false), (11, false), (12, false), (13, false), (14, false), (15, false), (16, false), (17, false)] r11_8)
 .ret)))))
theorem tail11 (k1 k2 k3 k4 : Int) (C : Nat) (n1 s1 s2 : Int) (ok : Bool) (x : List UInt8) (S : AV) (L : List En) (hck : chk k1 k2 k3 k4 C n1 s1 s2 x L = 0) (hC : C ≤ 18446744073709551615) (hL : ∀ y ∈ L, okE y) (hx : x.length ≤ 300) (g : AH) (b1 : List Nat) (hb1 : g b1 = some ⟨true, [.int .i64 k1, .int .i64 k2, .int .i64 k3, .int .i64 k4, .int .u64 (C : Int), .int .i64 n1, .int .i64 s1, .int .i64 s2, .bool ok, .str (bs x), S]⟩) (hS : Lg g S L) (v0 v11 v12 : AV) :
    W T R11c [v0, .ptr b1 0, .bool false, .tup [], .tup [], .tup [], .tup [], .tup [], .tup [], .bool true, .bool false, v11, v12, .tup [], .tup [], .tup [], .tup [], .tup [], .tup [], .tup [], .tup [], .tup [], .tup [], .tup [], .tup [], .tup [], .tup [], .tup [], .tup [], .tup [], .tup [], .tup [], .tup [], .tup [], .tup [], .tup [], .tup [], .tup [], .tup [], .tup [], .tup [], .tup [], .tup [], .tup [], .tup []] g (Rets f11 fun v _ => v = .bool true) := by
  obtain ⟨a1, a2, a3, a4, a5, a6, a7, a8, a9, a10, a11, a12⟩ := chk_zero _ _ _ _ _ _ _ _ ok _ _ hck
  obtain ⟨hi, _, _⟩ := inI_small k1 k2 k3 k4 C n1 s1 s2 ok x L hck hC hL hx
  have b2 : k2 ≤ 9223372036854775807 := by omega
  have b3 : k3 ≤ 9223372036854775807 := by omega
  have b4 : k4 ≤ 9223372036854775807 := by omega
  have b6 : n1 ≤ 9223372036854775807 := (snd_rg a5).2
  have b7 : s1 ≤ 9223372036854775807 := by omega
  have b8 : s2 ≤ 9223372036854775807 := by omega
  have sc := hS.sc.2
  have cc := hS.sc.1
  have e50 : (if chk k1 k2 k3 k4 C n1 s1 s2 x L = 0 then (fr k1.toNat (inI k2 k3 k4 C n1 s1 s2 ok x L)) else []) = (fr k1.toNat (inI k2 k3 k4 C n1 s1 s2 ok x L)) := if_pos hck
  have E1 := sameB_refl k1 k2 k3 k4 C n1 s1 s2 ok x L
  have hfl := fr_len k1.toNat (inI k2 k3 k4 C n1 s1 s2 ok x L)
  have e120 : bs (fr k1.toNat (inI k2 k3 k4 C n1 s1 s2 ok x L)) ++ (⟨#[120]⟩ : ByteArray) = bs ((fr k1.toNat (inI k2 k3 k4 C n1 s1 s2 ok x L)) ++ [120]) := bs_append _ [120]
  have z120 : (⟨#[120]⟩ : ByteArray).size = 1 := rfl
  have m120 : ¬ IntKind.i64.max < (((fr k1.toNat (inI k2 k3 k4 C n1 s1 s2 ok x L)).length + 1 : Nat) : Int) := big_no (by omega)
  have n40 : ((4 : Int) != 0) = true := by decide
  have k55 := fun g => back1 k1 k2 k3 k4 C n1 s1 s2 ok x L hck hC hL hx g
  have k55x := fun g => back2 k1 k2 k3 k4 C n1 s1 s2 ok x L hck hC hL hx g
  have k50 := fun (g : AH) (S3 : AV) (h3 : Le g S3 L) => sp50 k1 k2 k3 k4 C n1 s1 s2 ok x S3 L g h3 (by omega) (by omega) hC b2 b3 b4 b6 b7 b8 hL
  have k51 := fun (g : AH) (h3 : Lg g S L) => sp51g k1 k2 k3 k4 C n1 s1 s2 ok x S L g h3 ⟨by omega, by omega⟩ (by omega) (by omega) b2 b3 b4 hC b6 b7 b8 hL
  rw [e50] at k50
  clear a2 a3 a4 a5 a6 a7 a10 a11 a12 e50 hck
  obtain ⟨FR, hFR⟩ : ∃ z, (fr k1.toNat (inI k2 k3 k4 C n1 s1 s2 ok x L)) = z := ⟨_, rfl⟩
  rw [hFR] at k55 k55x k50 k51 e120 m120 hfl
  clear hFR hfl hi
  unfold R11c
  repeat' (first
    | (refine wNil ?_) | (refine xPure ?_)
    | (refine xMk ?_; intro id hid; (try simp only [set_none_iff] at hid); have hz := hid; (repeat (replace hz := hz.2)); (try have := nei h13 hz); (try have := nei h14 hz); (try have := nei h34 hz); (try have := nei h15 hz); (try have := nei h35 hz); (try have := nei h16 hz); (try have := nei h36 hz); (try have := nei h56 hz); refine mkDo ?_)
    | (refine xChk ?_) | (refine xChkF ?_) | (refine xSkip ?_)
    | (refine xCall rfl rfl (sp47g k1 k2 k3 k4 C n1 s1 s2 ok x S L _ hS (by omega)) ?_; rintro v j3 ⟨S3, rfl, hP, hu⟩; have h13 := hu _ _ hb1; have hS3 := hS.up hu; have hL3 := hP.rd; have sc3 := hL3.lg.sc.2; have cc3 := hL3.lg.sc.1; clear hu hP; refine nTm ?_)
    | (refine xCall rfl rfl (k50 _ S3 (hL3.up (by repeat' (first | assumption | exact Up.refl _ | refine Up.new ?_ ?_)))) ?_; rintro v j4 ⟨rfl, hu⟩; have h34 := hu _ _ set_same; have nX := nei h13 hid; have h14 := hu _ _ ((set_ne nX).trans ((set_ne nX).trans h13)); have hU4 : Up j3 j4 := fun z b e => hu z b ((set_ne (nei e hid)).trans ((set_ne (nei e hid)).trans e)); have hS4 := hS3.up hU4; have hL4 := hL3.up hU4; clear hu; refine nTm ?_)
    | (refine xCall rfl rfl (k55 _) ?_; rintro v j5 ⟨S5, rfl, hP, hu⟩; have h35 := hu _ _ h34; have h15 := hu _ _ h14; have hS5 := hS4.up hu; have hL5 := hL4.up hu; have hM5 := hP.rd; have sc5 := hM5.lg.sc.2; have cc5 := hM5.lg.sc.1; clear hu hP; refine nTm ?_)
    | (refine xCall rfl rfl (k55x _) ?_; rintro v j6 ⟨rfl, hu⟩; have h56 := hu _ _ set_same; have hU6 : Up j5 j6 := fun z b e => hu z b ((set_ne (nei e hid)).trans ((set_ne (nei e hid)).trans e)); have h36 := hU6 _ _ h35; have h16 := hU6 _ _ h15; have hS6 := hS5.up hU6; have hL6 := hL5.up hU6; have hM6 := hM5.up hU6; clear hu; refine nTm ?_)
    | (refine xCall rfl rfl (sp52 k1 k2 k3 k4 C n1 s1 s2 ok x S3 L k1 k2 k3 k4 C n1 s1 s2 ok x S5 L _ (hL6.up (by repeat' (first | assumption | exact Up.refl _ | refine Up.new ?_ ?_))) (hM6.up (by repeat' (first | assumption | exact Up.refl _ | refine Up.new ?_ ?_))) (by omega)) ?_; rintro v j7 ⟨rfl, hu⟩; rw [E1]; have hU7 : Up j6 j7 := fun z b e => hu z b ((set_ne (nei e hid)).trans ((set_ne (nei e hid)).trans e)); have h17 := hU7 _ _ h16; have hS7 := hS6.up hU7; clear hu; refine nTm ?_)
    | (refine xCall rfl rfl (k51 _ hS7) ?_; rintro v j8 ⟨rfl, hu⟩; clear hu; refine nTm ?_)
    | (refine cSeq ?_) | (refine cNorm ?_) | (refine cRet ?_) | (refine cExit ?_) | (refine W_reg rfl ?_) | (refine W_block ?_) | (refine W_ret ?_) | (refine W_skip ?_) | (refine W_exit ?_) | (refine bNorm ?_) | (refine bRet ?_) | (refine bExit ?_) | (refine bExitN rfl ?_)
    | (refine xMask ?_) | (refine xT ?_) | (refine xF ?_) | (refine xRet ?_) | (refine xNorm ?_)
    | (refine wSplit _ rfl (by (first | (simp only [go_sem, *]; (first | done | exact rfl)) | rfl)) ?_ ?_ <;> intro hb <;> (try simp only [beq_false, beq_true, Bool.not_true, Bool.not_false, Bool.not_eq_true', Bool.not_eq_false', decide_eq_false_iff_not, decide_eq_true_eq, bne_iff_ne, beq_iff_eq, Bool.true_eq, Bool.false_eq, Bool.not_not, Bool.and_eq_true, Bool.or_eq_true, Bool.bne_true, Bool.bne_false, bne_eq_false_iff_eq, beq_eq_false_iff_ne, ne_eq] at hb))
    | (refine W_cond _ (by (first | (simp only [go_sem, *]; (first | done | exact rfl)) | rfl)) ?_ ?_ <;> intro hb <;> (try simp only [beq_false, beq_true, Bool.not_true, Bool.not_false, Bool.not_eq_true', Bool.not_eq_false', decide_eq_false_iff_not, decide_eq_true_eq, bne_iff_ne, beq_iff_eq, Bool.true_eq, Bool.false_eq, Bool.not_not, Bool.and_eq_true, Bool.or_eq_true, Bool.bne_true, Bool.bne_false, bne_eq_false_iff_eq, beq_eq_false_iff_ne, ne_eq] at hb)))
  all_goals rfl
end Go.Proofs.YtgekngfnhhdamaaI
set_option linter.unusedVariables false
set_option linter.unusedSimpArgs false
set_option maxRecDepth 100000
set_option maxHeartbeats 4000000
namespace Go.Proofs.YtgekngfnhhdamaaI
open Go Go.Proofs.YtgekngfnhhdamaaM
attribute [local go_sem] aop ev fg_slc fg_slk fg_ptr fg_bool fg_int fg_str fg_iface fg_func fg_agg fg_tup fg_nils fg_nilp fg_nilI fg_nilF fg_und aboundsK alen_nils alen_slc alen_slk aslice_nils aslice_slc aslice_slk awanted abin aun aint aeqn aeqc aeqs apart abounds abnd amaxi amaxiGo cells_agg cells_slc cells_slk cells_ptr cells_bool cells_int cells_str cells_iface cells_func cells_tup cells_nils cells_nilp cells_nilI cells_nilF cells_und sc_slc sc_slk sc_ptr sc_bool sc_int sc_str sc_iface sc_func sc_nils sc_nilp sc_nilI sc_nilF gd_zero gd_succ List.all_cons List.all_nil Bool.and_self Bool.and_true Bool.true_and List.length_cons List.length_nil Option.map_some Option.some.injEq cell_same cell_ne cell_ne' cellsAt_same cellsAt_ne cellsAt_ne' put_same put_of set_same set_ne set_ne' List.getElem?_cons_zero List.getElem?_cons_succ if_true if_false and_self and_true true_and ne_eq not_true_eq_false not_false_eq_true decide_true decide_false Bool.false_eq_true Bool.true_eq_false beq_self_eq_true bne_self_eq_false beq_true beq_false Bool.not_true Bool.not_false List.map_cons List.map_nil putL List.set_cons_zero List.set_cons_succ afill Nat.zero_le Nat.le_refl Nat.zero_add Nat.add_zero List.drop_zero List.drop_succ_cons List.take_zero List.take_succ_cons Bool.not_eq_true Bool.not_eq_false decide_eq_true_eq decide_eq_false_iff_not Int.toNat_zero Nat.sub_zero Int.toNat_natCast Bool.bne_true Bool.bne_false AH.cell AH.cellsAt AH.put Nat.mul_one Nat.one_mul Int.natCast_nonneg List.length_set bs_append bs_size bs_toList bs_extract bs_get List.append_nil Nat.sub_zero bne_self_eq_false beq_self_eq_true azeros Int.le_refl
/-- MsgBack -/
theorem sp11 (k1 k2 k3 k4 : Int) (C : Nat) (n1 s1 s2 : Int) (ok : Bool) (x : List UInt8) (S : AV) (L : List En) (h : AH) (hS : Fa h S L) (hk1 : (-9223372036854775808 ≤ k1 ∧ k1 ≤ 9223372036854775807)) (h2 : (-9223372036854775808 ≤ k2 ∧ k2 ≤ 9223372036854775807)) (h3 : (-9223372036854775808 ≤ k3 ∧ k3 ≤ 9223372036854775807)) (h4 : (-9223372036854775808 ≤ k4 ∧ k4 ≤ 9223372036854775807)) (hC : C ≤ 18446744073709551615) (hn1 : (-9223372036854775808 ≤ n1 ∧ n1 ≤ 9223372036854775807)) (h7 : (-9223372036854775808 ≤ s1 ∧ s1 ≤ 9223372036854775807)) (h8 : (-9223372036854775808 ≤ s2 ∧ s2 ≤ 9223372036854775807)) (hL : ∀ y ∈ L, (-9223372036854775808 ≤ y.1 ∧ y.1 ≤ 9223372036854775807) ∧ y.2.1 ≤ 18446744073709551615 ∧ -9223372036854775808 ≤ y.2.2.1 ∧ y.2.2.1 ≤ 9223372036854775807) :
    Sp T 11 [.agg [.int .i64 k1, .int .i64 k2, .int .i64 k3, .int .i64 k4, .int .u64 (C : Int), .int .i64 n1, .int .i64 s1, .int .i64 s2, .bool ok, .str (bs x), S]] h (fun v _ => v = .bool true) := by
  have hu0 := Up.refl h
  have sc : S.scalar = true := by rcases hS with ⟨rfl, _⟩ | ⟨i, rfl, _⟩ <;> rfl
  refine Sp_of (fn := f11) rfl (show W T b11 [.agg [.int .i64 k1, .int .i64 k2, .int .i64 k3, .int .i64 k4, .int .u64 (C : Int), .int .i64 n1, .int .i64 s1, .int .i64 s2, .bool ok, .str (bs x), S], .tup [], .tup [], .tup [], .tup [], .tup [], .tup [], .tup [], .tup [], .tup [], .tup [], .tup [], .tup [], .tup [], .tup [], .tup [], .tup [], .tup [], .tup [], .tup [], .tup [], .tup [], .tup [], .tup [], .tup [], .tup [], .tup [], .tup [], .tup [], .tup [], .tup [], .tup [], .tup [], .tup [], .tup [], .tup [], .tup [], .tup [], .tup [], .tup [], .tup [], .tup [], .tup [], .tup [], .tup []] _ _ from ?_)
  unfold b11
  repeat' (first
    | (refine wNil ?_) | (refine xPure ?_)
    | (refine xMk ?_; intro id hid; (try simp only [set_none_iff] at hid); have hz := hid; (repeat (replace hz := hz.2)); (try have := Up.none hu0 hz); refine mkDo ?_)
    | (refine xChk ?_) | (refine xChkF ?_) | (refine xSkip ?_)
    | (refine xCall rfl rfl (sp45 _) ?_; rintro v j1 ⟨rfl, hu⟩; have hb := hu _ _ set_same; have HU1 : Up h j1 := Up.trans (show Up h _ from (by repeat' (first | assumption | exact Up.refl _ | refine Up.new ?_ ?_))) hu; have hSa := Fa.up hS HU1; clear hu; refine nTm ?_)
    | (refine xCall rfl rfl (sp54 k1 k2 k3 k4 C n1 s1 s2 ok x S L _ hSa hC hn1 (fun y hy => (hL y hy).2)) ?_; rintro v j2 ⟨k1', k2', k3', k4', C', n1', s1', s2', S', L', rfl, hck, hC', hL', hS', hu, hset⟩; have hSx := fun y => hset _ _ y hb; have hb2 := hu _ _ hb; have sc2 := hS'.sc.2; clear hu; refine nTm ?_)
    | (exact tail11 k1' k2' k3' k4' C' n1' s1' s2' ok (x.take 300) S' L' hck hC' hL' (by rw [List.length_take]; omega) _ _ set_same (hSx _) _ _ _)
    | (refine cSeq ?_) | (refine cNorm ?_) | (refine cRet ?_) | (refine cExit ?_) | (refine W_reg rfl ?_) | (refine W_block ?_) | (refine W_ret ?_) | (refine W_skip ?_) | (refine W_exit ?_) | (refine bNorm ?_) | (refine bRet ?_) | (refine bExit ?_) | (refine bExitN rfl ?_)
    | (refine xMask ?_) | (refine xT ?_) | (refine xF ?_) | (refine xRet ?_) | (refine xNorm ?_)
    | (refine wSplit _ rfl (by (first | (simp only [go_sem, *]; (first | done | exact rfl)) | rfl)) ?_ ?_ <;> intro hb <;> (try simp only [beq_false, beq_true, Bool.not_true, Bool.not_false, Bool.not_eq_true', Bool.not_eq_false', decide_eq_false_iff_not, decide_eq_true_eq, bne_iff_ne, beq_iff_eq, Bool.true_eq, Bool.false_eq, Bool.not_not, Bool.and_eq_true, Bool.or_eq_true, Bool.bne_true, Bool.bne_false, bne_eq_false_iff_eq, beq_eq_false_iff_ne, ne_eq] at hb))
    | (refine W_cond _ (by (first | (simp only [go_sem, *]; (first | done | exact rfl)) | rfl)) ?_ ?_ <;> intro hb <;> (try simp only [beq_false, beq_true, Bool.not_true, Bool.not_false, Bool.not_eq_true', Bool.not_eq_false', decide_eq_false_iff_not, decide_eq_true_eq, bne_iff_ne, beq_iff_eq, Bool.true_eq, Bool.false_eq, Bool.not_not, Bool.and_eq_true, Bool.or_eq_true, Bool.bne_true, Bool.bne_false, bne_eq_false_iff_eq, beq_eq_false_iff_ne, ne_eq] at hb)))
end Go.Proofs.YtgekngfnhhdamaaI
