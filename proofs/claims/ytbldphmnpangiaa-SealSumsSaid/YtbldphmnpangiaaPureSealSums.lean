/- For all strings Sum returns the checksum of the reference, however the text is cut in two; no conditions. -/
import Derived.Test.YtbldphmnpangiaaPSealSumsx2
namespace Go.Proofs.Ytbldphmnpangiaa.Pure
open Go.RowKit Go.Proofs.Ytbldphmnpangiaa.PSealSums Go.Proofs.YtbldphmnpangiaaW.PrintWords Go.Proofs.YtbldphmnpangiaaW.PrintLast Go.Proofs.YtbldphmnpangiaaW.PrintMore
theorem w64 {x : Int} (h : -9223372036854775808 ≤ x) (h2 : x ≤ 9223372036854775807) : wrap64 x = x := by unfold wrap64; omega
theorem wi (i : Nat) (h : i < 9223372036854775807) : wrap64 ((i : Int) + 1) = ((i + 1 : Nat) : Int) := by rw [w64 (by omega) (by omega)]; omega
/-- The bytes of a string. -/
def bs (s : ByteArray) : List UInt8 := s.data.toList
theorem bs_len (s : ByteArray) : (bs s).length = s.size := by show s.data.toList.length = s.data.size; simp
theorem bt_nat (s : ByteArray) (i : Nat) (h : i < s.size) : bt s (i : Int) = (((bs s).getD i 0).toNat : Int) := by
  have h' : i < s.data.size := h
  simp [bt, h, bs]
  rfl
theorem bs_drop (s : ByteArray) (i : Nat) (h : i < s.size) : (bs s).drop i = (bs s).getD i 0 :: (bs s).drop (i + 1) := by
  have h' : i < (bs s).length := by rw [bs_len]; exact h
  rw [List.drop_eq_getElem_cons h']
  simp [List.getD_eq_getElem?_getD, List.getElem?_eq_getElem h']
/-- A byte's rounds, by the document. -/
def rr : Nat → Nat → Nat → Nat
  | 0, c, _ => c
  | j + 1, c, b => rr j (if c % 2 = b % 2 then c / 2 else (c / 2) ^^^ 3988292384) (b / 2)
/-- A byte's rounds, by the program. -/
def pp : Nat → Nat → Nat
  | 0, c => c
  | j + 1, c => pp j (if c % 2 = 1 then (c / 2) ^^^ 3988292384 else c / 2)
theorem pp_rr : ∀ (j c b : Nat), b < 2 ^ j → pp j (c ^^^ b) = rr j c b
  | 0, c, b, h => by simp at h; subst h; simp [pp, rr]
  | j + 1, c, b, h => by
    have hb : b / 2 < 2 ^ j := by rw [Nat.pow_succ] at h; omega
    unfold pp rr
    rw [← pp_rr j _ _ hb]
    have hx : (c ^^^ b) % 2 = 1 ↔ ¬ (c % 2 = b % 2) := by
      rw [Nat.xor_mod_two_eq_one]; omega
    have hd : (c ^^^ b) / 2 = (c / 2) ^^^ (b / 2) := Nat.xor_div_two
    rw [hd]
    by_cases e : c % 2 = b % 2
    · rw [if_neg (fun x => hx.1 x e), if_pos e]
    · rw [if_pos (hx.2 e), if_neg e]
      congr 1
      rw [Nat.xor_assoc, Nat.xor_assoc, Nat.xor_comm (b / 2)]
theorem rr_lt : ∀ (j c b : Nat), c < 4294967296 → rr j c b < 4294967296
  | 0, _, _, h => h
  | j + 1, c, b, h => by
    unfold rr
    refine rr_lt j _ _ ?_
    split
    · omega
    · exact Nat.xor_lt_two_pow (n := 32) (by omega) (by decide)
theorem pp_lt : ∀ (j c : Nat), c < 4294967296 → pp j c < 4294967296
  | 0, _, h => h
  | j + 1, c, h => by
    unfold pp
    refine pp_lt j _ ?_
    split
    · exact Nat.xor_lt_two_pow (n := 32) (by omega) (by decide)
    · omega
/-- The sum's number behind some bytes. -/
def cr (c : Nat) (l : List UInt8) : Nat := l.foldl (fun c b => rr 8 c b.toNat) c
theorem cr_lt : ∀ (l : List UInt8) (c : Nat), c < 4294967296 → cr c l < 4294967296
  | [], _, h => h
  | b :: l, c, h => cr_lt l _ (rr_lt 8 c b.toNat h)
theorem cr_cons (c : Nat) (b : UInt8) (l : List UInt8) : cr c (b :: l) = cr (rr 8 c b.toNat) l := rfl
theorem cr_append (c : Nat) (l m : List UInt8) : cr c (l ++ m) = cr (cr c l) m := by simp [cr, List.foldl_append]
/-- The sum of bytes. -/
def sm (l : List UInt8) : Nat := 4294967295 - cr 4294967295 l
theorem sm_lt (l : List UInt8) : sm l < 4294967296 := by unfold sm; omega
theorem tm2 (c : Nat) : Int.tmod (c : Int) 2 = ((c % 2 : Nat) : Int) := by rw [Int.tmod_eq_emod_of_nonneg (by omega)]; omega
theorem td2 (c : Nat) (h : c < 4294967296) : Int.tdiv (c : Int) 2 % 4294967296 = ((c / 2 : Nat) : Int) := by rw [Int.tdiv_eq_ediv_of_nonneg (by omega)]; omega
theorem td2b (c : Nat) (h : c < 256) : Int.tdiv (c : Int) 2 % 256 = ((c / 2 : Nat) : Int) := by rw [Int.tdiv_eq_ediv_of_nonneg (by omega)]; omega
theorem xpoly (c : Nat) (h : c < 4294967296) : Go.bits .xor .u32 (c : Int) 3988292384 = ((c ^^^ 3988292384 : Nat) : Int) := u32_xor_nat c 3988292384 h (by decide)
theorem ref_l1 (s : ByteArray) (x4 : Int) : ∀ (d j k c b : Nat), j + d = 8 → c < 4294967296 → b < 256 →
    chatelaineref02_Sum.l1 (k + d + 1) s (c : Int) x4 (b : Int) (j : Int) = chatelaineref02_Sum.l0 k s ((rr d c b : Nat) : Int) (wrap64 (x4 + 1)) := by
  intro d
  induction d with
  | zero =>
    intro j k c b hj _ _
    simp only [chatelaineref02_Sum.l1]
    rw [if_neg (by omega)]; rfl
  | succ d ih =>
    intro j k c b hj hc hb
    rw [show k + (d + 1) + 1 = (k + d + 1) + 1 from by omega]
    simp only [chatelaineref02_Sum.l1]
    rw [if_pos (by omega), wi j (by omega), tm2, tm2, td2 c hc, td2b b hb]
    unfold rr
    by_cases e : c % 2 = b % 2
    · rw [if_pos (by omega), if_pos e]; exact ih (j + 1) k _ _ (by omega) (by omega) (by omega)
    · rw [if_neg (by omega), if_neg e, xpoly _ (by omega)]
      exact ih (j + 1) k _ _ (by omega) (Nat.xor_lt_two_pow (n := 32) (by omega) (by decide)) (by omega)
theorem ref_l0 (s : ByteArray) (hs : s.size < 9223372036854775807) : ∀ (d i k c : Nat), i + d = s.size → c < 4294967296 →
    chatelaineref02_Sum.l0 (k + 10 * d + 1) s (c : Int) (i : Int) = some (((4294967295 - cr c ((bs s).drop i) : Nat)) : Int) := by
  intro d
  induction d with
  | zero =>
    intro i k c hi hc
    have e : (bs s).drop i = [] := by rw [List.drop_eq_nil_iff, bs_len]; omega
    simp only [chatelaineref02_Sum.l0]
    rw [if_neg (by omega), e]
    have : cr c [] = c := rfl
    rw [this]; congr 1; omega
  | succ d ih =>
    intro i k c hi hc
    rw [show k + 10 * (d + 1) + 1 = (k + 10 * d + 1 + 8 + 1) + 1 from by omega]
    simp only [chatelaineref02_Sum.l0]
    have hb : ((bs s).getD i 0).toNat < 256 := UInt8.toNat_lt _
    rw [if_pos (by omega), if_pos (by omega), bt_nat s i (by omega), show ((0 : Int)) = ((0 : Nat) : Int) from rfl, ref_l1 s i 8 0 _ c _ (by omega) hc hb, wi i (by omega)]
    rw [ih (i + 1) k _ (by omega) (rr_lt 8 _ _ hc), bs_drop s i (by omega), cr_cons]
theorem ref_sum (s : ByteArray) (hs : s.size < 1000000000) (k : Nat) (hk : 10 * s.size + 1 ≤ k) : chatelaineref02_Sum.f k s = some ((sm (bs s) : Nat) : Int) := by
  unfold chatelaineref02_Sum.f
  have := ref_l0 s (by omega) s.size 0 (k - (10 * s.size + 1)) 4294967295 (by omega) (by decide)
  rw [show k - (10 * s.size + 1) + 10 * s.size + 1 = k from by omega] at this
  simpa [sm] using this
theorem and_one (c : Nat) (h : c < 4294967296) : Go.bits .and .u32 (c : Int) 1 = ((c % 2 : Nat) : Int) := by
  have := u32_and_nat c 1 h (by decide)
  rw [Nat.and_one_is_mod] at this
  exact this
theorem more_l0 : ∀ (d j k c : Nat), j + d = 8 → c < 4294967296 → seal_more.l0 (k + d + 1) (c : Int) (j : Int) = some ((pp d c : Nat) : Int) := by
  intro d
  induction d with
  | zero =>
    intro j k c hj _
    simp only [seal_more.l0]
    rw [if_neg (by omega)]; rfl
  | succ d ih =>
    intro j k c hj hc
    rw [show k + (d + 1) + 1 = (k + d + 1) + 1 from by omega]
    simp only [seal_more.l0]
    rw [if_pos (by omega), wi j (by omega), and_one c hc, show (c : Int) / 2 = ((c / 2 : Nat) : Int) from by omega]
    unfold pp
    by_cases e : c % 2 = 1
    · rw [if_pos (by omega), if_pos e, xpoly _ (by omega)]
      exact ih (j + 1) k _ (by omega) (Nat.xor_lt_two_pow (n := 32) (by omega) (by decide))
    · rw [if_neg (by omega), if_neg e]; exact ih (j + 1) k _ (by omega) (by omega)
theorem more_eq (k c b : Nat) (hk : 9 ≤ k) (hc : c < 4294967296) (hb : b < 256) : seal_more.f k (c : Int) (b : Int) = some ((rr 8 c b : Nat) : Int) := by
  unfold seal_more.f
  rw [show ((b : Int)) % 4294967296 = (b : Int) from by omega, u32_xor_nat c b hc (by omega)]
  have := more_l0 8 0 (k - 9) (c ^^^ b) (by omega) (Nat.xor_lt_two_pow (n := 32) hc (by omega))
  rw [show k - 9 + 8 + 1 = k from by omega] at this
  rw [pp_rr 8 c b (by omega)] at this
  exact this
theorem not32 (c : Nat) (h : c < 4294967296) : Go.bits .xor .u32 4294967295 (c : Int) = ((4294967295 - c : Nat) : Int) := by
  have := u32_xor_nat 4294967295 c (by decide) h
  rw [show ((4294967295 : Nat) : Int) = 4294967295 from rfl] at this
  rw [this]
  congr 1
  have e : (BitVec.allOnes 32 ^^^ BitVec.ofNat 32 c) = ~~~ (BitVec.ofNat 32 c) := BitVec.allOnes_xor
  have e2 := congrArg BitVec.toNat e
  rw [BitVec.toNat_xor, BitVec.toNat_not, BitVec.toNat_allOnes, BitVec.toNat_ofNat, Nat.mod_eq_of_lt (by omega)] at e2
  exact e2
/-- All bytes of some strings. -/
def cat (l : List ByteArray) : List UInt8 := (l.map bs).flatten
theorem sum_l1 (s : ByteArray) (hs : s.size < 9223372036854775807) (l : List ByteArray) (n x9 : Int) : ∀ (d i K c : Nat), i + d = s.size → c < 4294967296 → d + 10 ≤ K →
    seal_Sum.l1 K (c : Int) s l n x9 (s.size : Int) (i : Int) = seal_Sum.l0 (K - (d + 1)) ((cr c ((bs s).drop i) : Nat) : Int) l n (wrap64 (x9 + 1)) := by
  intro d
  induction d with
  | zero =>
    intro i K c hi hc hK
    obtain ⟨k, rfl⟩ : ∃ m, K = m + 1 := ⟨K - 1, by omega⟩
    have e : (bs s).drop i = [] := by rw [List.drop_eq_nil_iff, bs_len]; omega
    have e2 : cr c [] = c := rfl
    simp only [seal_Sum.l1]
    rw [if_neg (by omega), e, e2, show k + 1 - (0 + 1) = k from by omega]
  | succ d ih =>
    intro i K c hi hc hK
    obtain ⟨k, rfl⟩ : ∃ m, K = m + 1 := ⟨K - 1, by omega⟩
    have hb : ((bs s).getD i 0).toNat < 256 := UInt8.toNat_lt _
    have hm := more_eq k c _ (by omega) hc hb
    have hI := ih (i + 1) k (rr 8 c ((bs s).getD i 0).toNat) (by omega) (rr_lt 8 _ _ hc) (by omega)
    rw [bs_drop s i (by omega), cr_cons, show k + 1 - (d + 1 + 1) = k - (d + 1) from by omega, ← hI]
    simp only [seal_Sum.l1]
    rw [if_pos (by omega), if_pos (by omega), if_pos (by omega), bt_nat s i (by omega), hm]
    simp only [Option.bind_some]
    rw [wi i (by omega)]
theorem sum_l0 (l : List ByteArray) (hl : l.length < 1000000) (hs : ∀ s ∈ l, s.size < 9223372036854775807) : ∀ (d i k c : Nat), i + d = l.length → c < 4294967296 →
    seal_Sum.l0 (k + (cat (l.drop i)).length + 2 * d + 12) (c : Int) l (l.length : Int) (i : Int) = some (((4294967295 - cr c (cat (l.drop i)) : Nat)) : Int) := by
  intro d
  induction d with
  | zero =>
    intro i k c hi hc
    have e : l.drop i = [] := by rw [List.drop_eq_nil_iff]; omega
    rw [e]
    show seal_Sum.l0 (k + 0 + 2 * 0 + 11 + 1) _ _ _ _ = _
    simp only [seal_Sum.l0]
    rw [if_neg (by omega), not32 c hc]; rfl
  | succ d ih =>
    intro i k c hi hc
    have hil : i < l.length := by omega
    have e : l.drop i = l[i] :: l.drop (i + 1) := List.drop_eq_getElem_cons hil
    have ec : cat (l.drop i) = bs l[i] ++ cat (l.drop (i + 1)) := by rw [e]; rfl
    rw [ec, List.length_append, bs_len]
    rw [show k + (l[i].size + (cat (l.drop (i + 1))).length) + 2 * (d + 1) + 12 = ((k + (cat (l.drop (i + 1))).length + 2 * d + 12) + l[i].size + 1) + 1 from by omega, seal_Sum.l0]
    have er : rdOf ByteArray.empty l (i : Int) = l[i] := by simp [rdOf, List.getD_eq_getElem?_getD, List.getElem?_eq_getElem hil]
    rw [if_pos (by omega), if_pos (by omega), if_pos (by omega), er, show ((0 : Int)) = ((0 : Nat) : Int) from rfl,
      sum_l1 l[i] (hs _ (List.getElem_mem hil)) l _ _ l[i].size 0 _ c (by omega) hc (by omega), wi i (by omega), List.drop_zero,
      show k + (cat (l.drop (i + 1))).length + 2 * d + 12 + l[i].size + 1 - (l[i].size + 1) = k + (cat (l.drop (i + 1))).length + 2 * d + 12 from by omega, ih (i + 1) k _ (by omega) (cr_lt _ _ hc), cr_append]
theorem sum_eq (l : List ByteArray) (hl : l.length < 1000000) (hs : ∀ s ∈ l, s.size < 9223372036854775807) (k : Nat) (hk : (cat l).length + 2 * l.length + 12 ≤ k) : seal_Sum.f k l = some ((sm (cat l) : Nat) : Int) := by
  unfold seal_Sum.f
  have := sum_l0 l hl hs l.length 0 (k - ((cat l).length + 2 * l.length + 12)) 4294967295 (by omega) (by decide)
  rw [List.drop_zero, show k - ((cat l).length + 2 * l.length + 12) + (cat l).length + 2 * l.length + 12 = k from by omega] at this
  exact this
theorem cut_eq (s : ByteArray) (n : Nat) : chatelainelaw01_Cut.f s (n : Int) = some (if n < s.size then s.extract 0 n else s) := by
  unfold chatelainelaw01_Cut.f
  by_cases h : n < s.size
  · rw [if_pos (by omega), if_pos (by omega), if_pos (by omega), if_pos h]; simp
  · rw [if_neg (by omega), if_neg h]
theorem cut_size (s : ByteArray) (n : Nat) : (if n < s.size then s.extract 0 n else s).size ≤ n := by
  split
  · simp; omega
  · omega
theorem bs_append (a b : ByteArray) : bs (a ++ b) = bs a ++ bs b := by simp [bs]
theorem SealSums : chatelainelaw02_SealSums.Pure := by
  intro a b _ _
  refine ⟨20000, ?_⟩
  have ha : chatelainelaw02_awake.f 20000 = some true := at_rounds (g := chatelainelaw02_awake.f) chatelainelaw02_awake.mono (show 60 ≤ 20000 by decide) (by decide +kernel)
  unfold chatelainelaw02_SealSums.f
  rw [ha]; simp only [Option.bind_some, if_true]
  rw [show (300 : Int) = ((300 : Nat) : Int) from rfl, cut_eq, cut_eq]; simp only [Option.bind_some]
  have sa := cut_size a 300
  have sb := cut_size b 300
  generalize (if 300 < a.size then a.extract 0 300 else a) = x at *
  generalize (if 300 < b.size then b.extract 0 300 else b) = y at *
  have e1 : cat [x, y] = bs (x ++ y) := by simp [cat, bs_append]
  have e2 : cat [x] = bs x := by simp [cat]
  have l1 : (cat [x, y]).length ≤ 600 := by rw [e1, bs_len]; simp; omega
  have l2 : (cat [x]).length ≤ 300 := by rw [e2, bs_len]; omega
  have es : (x ++ y).size = x.size + y.size := by simp
  rw [sum_eq [x, y] (by simp) (by simp; omega) _ (by simp only [List.length_cons, List.length_nil]; omega), sum_eq [x] (by simp) (by simp; omega) _ (by simp only [List.length_cons, List.length_nil]; omega),
    sum_eq [] (by simp) (by simp) _ (by decide), ref_sum (x ++ y) (by omega) _ (by omega), ref_sum x (by omega) _ (by omega), ref_sum ⟨#[]⟩ (by decide) _ (by decide), e1, e2, show cat [] = bs ⟨#[]⟩ from rfl]
  simp only [Option.bind_some, if_true, beq_self_eq_true]
  rw [if_pos (by omega)]

end Go.Proofs.Ytbldphmnpangiaa.Pure
