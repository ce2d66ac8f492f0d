/- Frames that are truncated anywhere: Scan returns the complete ones. -/
import Derived.Test.YtbldphmnpangiaaPSealTornx4
import Derived.Lib.Strings
namespace Go.Proofs.Ytbldphmnpangiaa
open Go.RowKit PSealTorn Go.Proofs.YtbldphmnpangiaaW.PrintWords Go.Proofs.YtbldphmnpangiaaW.PrintLast Go.Proofs.YtbldphmnpangiaaW.PrintMore
theorem w64 {x : Int} (h : -9223372036854775808 ≤ x) (h2 : x ≤ 9223372036854775807) : wrap64 x = x := by unfold wrap64; omega
theorem wi (i : Nat) (h : i < 9223372036854775807) : wrap64 ((i : Int) + 1) = ((i + 1 : Nat) : Int) := by rw [w64 (by omega) (by omega)]; omega
/-- The bytes of a string. -/
def bs (s : ByteArray) : List UInt8 := s.data.toList
theorem bs_len (s : ByteArray) : (bs s).length = s.size := by show s.data.toList.length = s.data.size; simp
theorem bt_nat (s : ByteArray) (i : Nat) (h : i < s.size) : bt s (i : Int) = (((bs s).getD i 0).toNat : Int) := by
  have h' : i < s.data.size := h
  simp [bt, h, bs]
  rfl
theorem bs_drop (s : ByteArray) (i : Nat) (h : i < s.size) : (bs s).drop i = (bs s).getD i 0 :: (bs s).drop (i + 1) := by
  have h' : i < (bs s).length := by rw [bs_len]; exact h
  rw [List.drop_eq_getElem_cons h']
  simp [List.getD_eq_getElem?_getD, List.getElem?_eq_getElem h']
/-- A byte's rounds, by the document. -/
def rr : Nat → Nat → Nat → Nat
  | 0, c, _ => c
  | j + 1, c, b => rr j (if c % 2 = b % 2 then c / 2 else (c / 2) ^^^ 3988292384) (b / 2)
/-- A byte's rounds, by the program. -/
def pp : Nat → Nat → Nat
  | 0, c => c
  | j + 1, c => pp j (if c % 2 = 1 then (c / 2) ^^^ 3988292384 else c / 2)
theorem pp_rr : ∀ (j c b : Nat), b < 2 ^ j → pp j (c ^^^ b) = rr j c b
  | 0, c, b, h => by simp at h; subst h; simp [pp, rr]
  | j + 1, c, b, h => by
    have hb : b / 2 < 2 ^ j := by rw [Nat.pow_succ] at h; omega
    unfold pp rr
    rw [← pp_rr j _ _ hb]
    have hx : (c ^^^ b) % 2 = 1 ↔ ¬ (c % 2 = b % 2) := by
      rw [Nat.xor_mod_two_eq_one]; omega
    have hd : (c ^^^ b) / 2 = (c / 2) ^^^ (b / 2) := Nat.xor_div_two
    rw [hd]
    by_cases e : c % 2 = b % 2
    · rw [if_neg (fun x => hx.1 x e), if_pos e]
    · rw [if_pos (hx.2 e), if_neg e]
      congr 1
      rw [Nat.xor_assoc, Nat.xor_assoc, Nat.xor_comm (b / 2)]
theorem rr_lt : ∀ (j c b : Nat), c < 4294967296 → rr j c b < 4294967296
  | 0, _, _, h => h
  | j + 1, c, b, h => by
    unfold rr
    refine rr_lt j _ _ ?_
    split
    · omega
    · exact Nat.xor_lt_two_pow (n := 32) (by omega) (by decide)
theorem pp_lt : ∀ (j c : Nat), c < 4294967296 → pp j c < 4294967296
  | 0, _, h => h
  | j + 1, c, h => by
    unfold pp
    refine pp_lt j _ ?_
    split
    · exact Nat.xor_lt_two_pow (n := 32) (by omega) (by decide)
    · omega
/-- The sum's number behind some bytes. -/
def cr (c : Nat) (l : List UInt8) : Nat := l.foldl (fun c b => rr 8 c b.toNat) c
theorem cr_lt : ∀ (l : List UInt8) (c : Nat), c < 4294967296 → cr c l < 4294967296
  | [], _, h => h
  | b :: l, c, h => cr_lt l _ (rr_lt 8 c b.toNat h)
theorem cr_cons (c : Nat) (b : UInt8) (l : List UInt8) : cr c (b :: l) = cr (rr 8 c b.toNat) l := rfl
theorem cr_append (c : Nat) (l m : List UInt8) : cr c (l ++ m) = cr (cr c l) m := by simp [cr, List.foldl_append]
/-- The sum of bytes. -/
def sm (l : List UInt8) : Nat := 4294967295 - cr 4294967295 l
theorem sm_lt (l : List UInt8) : sm l < 4294967296 := by unfold sm; omega
theorem tm2 (c : Nat) : Int.tmod (c : Int) 2 = ((c % 2 : Nat) : Int) := by rw [Int.tmod_eq_emod_of_nonneg (by omega)]; omega
theorem td2 (c : Nat) (h : c < 4294967296) : Int.tdiv (c : Int) 2 % 4294967296 = ((c / 2 : Nat) : Int) := by rw [Int.tdiv_eq_ediv_of_nonneg (by omega)]; omega
theorem td2b (c : Nat) (h : c < 256) : Int.tdiv (c : Int) 2 % 256 = ((c / 2 : Nat) : Int) := by rw [Int.tdiv_eq_ediv_of_nonneg (by omega)]; omega
theorem xpoly (c : Nat) (h : c < 4294967296) : Go.bits .xor .u32 (c : Int) 3988292384 = ((c ^^^ 3988292384 : Nat) : Int) := u32_xor_nat c 3988292384 h (by decide)
theorem and_one (c : Nat) (h : c < 4294967296) : Go.bits .and .u32 (c : Int) 1 = ((c % 2 : Nat) : Int) := by
  have := u32_and_nat c 1 h (by decide)
  rw [Nat.and_one_is_mod] at this
  exact this
theorem more_l0 : ∀ (d j k c : Nat), j + d = 8 → c < 4294967296 → seal_more.l0 (k + d + 1) (c : Int) (j : Int) = some ((pp d c : Nat) : Int) := by
  intro d
  induction d with
  | zero =>
    intro j k c hj _
    simp only [seal_more.l0]
    rw [if_neg (by omega)]; rfl
  | succ d ih =>
    intro j k c hj hc
    rw [show k + (d + 1) + 1 = (k + d + 1) + 1 from by omega]
    simp only [seal_more.l0]
    rw [if_pos (by omega), wi j (by omega), and_one c hc, show (c : Int) / 2 = ((c / 2 : Nat) : Int) from by omega]
    unfold pp
    by_cases e : c % 2 = 1
    · rw [if_pos (by omega), if_pos e, xpoly _ (by omega)]
      exact ih (j + 1) k _ (by omega) (Nat.xor_lt_two_pow (n := 32) (by omega) (by decide))
    · rw [if_neg (by omega), if_neg e]; exact ih (j + 1) k _ (by omega) (by omega)
theorem more_eq (k c b : Nat) (hk : 9 ≤ k) (hc : c < 4294967296) (hb : b < 256) : seal_more.f k (c : Int) (b : Int) = some ((rr 8 c b : Nat) : Int) := by
  unfold seal_more.f
  rw [show ((b : Int)) % 4294967296 = (b : Int) from by omega, u32_xor_nat c b hc (by omega)]
  have := more_l0 8 0 (k - 9) (c ^^^ b) (by omega) (Nat.xor_lt_two_pow (n := 32) hc (by omega))
  rw [show k - 9 + 8 + 1 = k from by omega] at this
  rw [pp_rr 8 c b (by omega)] at this
  exact this
theorem not32 (c : Nat) (h : c < 4294967296) : Go.bits .xor .u32 4294967295 (c : Int) = ((4294967295 - c : Nat) : Int) := by
  have := u32_xor_nat 4294967295 c (by decide) h
  rw [show ((4294967295 : Nat) : Int) = 4294967295 from rfl] at this
  rw [this]
  congr 1
  have e : (BitVec.allOnes 32 ^^^ BitVec.ofNat 32 c) = ~~~ (BitVec.ofNat 32 c) := BitVec.allOnes_xor
  have e2 := congrArg BitVec.toNat e
  rw [BitVec.toNat_xor, BitVec.toNat_not, BitVec.toNat_allOnes, BitVec.toNat_ofNat, Nat.mod_eq_of_lt (by omega)] at e2
  exact e2
/-- All bytes of some strings. -/
def cat (l : List ByteArray) : List UInt8 := (l.map bs).flatten
theorem sum_l1 (s : ByteArray) (hs : s.size < 9223372036854775807) (l : List ByteArray) (n x9 : Int) : ∀ (d i K c : Nat), i + d = s.size → c < 4294967296 → d + 10 ≤ K →
    seal_Sum.l1 K (c : Int) s l n x9 (s.size : Int) (i : Int) = seal_Sum.l0 (K - (d + 1)) ((cr c ((bs s).drop i) : Nat) : Int) l n (wrap64 (x9 + 1)) := by
  intro d
  induction d with
  | zero =>
    intro i K c hi hc hK
    obtain ⟨k, rfl⟩ : ∃ m, K = m + 1 := ⟨K - 1, by omega⟩
    have e : (bs s).drop i = [] := by rw [List.drop_eq_nil_iff, bs_len]; omega
    have e2 : cr c [] = c := rfl
    simp only [seal_Sum.l1]
    rw [if_neg (by omega), e, e2, show k + 1 - (0 + 1) = k from by omega]
  | succ d ih =>
    intro i K c hi hc hK
    obtain ⟨k, rfl⟩ : ∃ m, K = m + 1 := ⟨K - 1, by omega⟩
    have hb : ((bs s).getD i 0).toNat < 256 := UInt8.toNat_lt _
    have hm := more_eq k c _ (by omega) hc hb
    have hI := ih (i + 1) k (rr 8 c ((bs s).getD i 0).toNat) (by omega) (rr_lt 8 _ _ hc) (by omega)
    rw [bs_drop s i (by omega), cr_cons, show k + 1 - (d + 1 + 1) = k - (d + 1) from by omega, ← hI]
    simp only [seal_Sum.l1]
    rw [if_pos (by omega), if_pos (by omega), if_pos (by omega), bt_nat s i (by omega), hm]
    simp only [Option.bind_some]
    rw [wi i (by omega)]
theorem sum_l0 (l : List ByteArray) (hl : l.length < 1000000) (hs : ∀ s ∈ l, s.size < 9223372036854775807) : ∀ (d i k c : Nat), i + d = l.length → c < 4294967296 →
    seal_Sum.l0 (k + (cat (l.drop i)).length + 2 * d + 12) (c : Int) l (l.length : Int) (i : Int) = some (((4294967295 - cr c (cat (l.drop i)) : Nat)) : Int) := by
  intro d
  induction d with
  | zero =>
    intro i k c hi hc
    have e : l.drop i = [] := by rw [List.drop_eq_nil_iff]; omega
    rw [e]
    show seal_Sum.l0 (k + 0 + 2 * 0 + 11 + 1) _ _ _ _ = _
    simp only [seal_Sum.l0]
    rw [if_neg (by omega), not32 c hc]; rfl
  | succ d ih =>
    intro i k c hi hc
    have hil : i < l.length := by omega
    have e : l.drop i = l[i] :: l.drop (i + 1) := List.drop_eq_getElem_cons hil
    have ec : cat (l.drop i) = bs l[i] ++ cat (l.drop (i + 1)) := by rw [e]; rfl
    rw [ec, List.length_append, bs_len]
    rw [show k + (l[i].size + (cat (l.drop (i + 1))).length) + 2 * (d + 1) + 12 = ((k + (cat (l.drop (i + 1))).length + 2 * d + 12) + l[i].size + 1) + 1 from by omega, seal_Sum.l0]
    have er : rdOf ByteArray.empty l (i : Int) = l[i] := by simp [rdOf, List.getD_eq_getElem?_getD, List.getElem?_eq_getElem hil]
    rw [if_pos (by omega), if_pos (by omega), if_pos (by omega), er, show ((0 : Int)) = ((0 : Nat) : Int) from rfl,
      sum_l1 l[i] (hs _ (List.getElem_mem hil)) l _ _ l[i].size 0 _ c (by omega) hc (by omega), wi i (by omega), List.drop_zero,
      show k + (cat (l.drop (i + 1))).length + 2 * d + 12 + l[i].size + 1 - (l[i].size + 1) = k + (cat (l.drop (i + 1))).length + 2 * d + 12 from by omega, ih (i + 1) k _ (by omega) (cr_lt _ _ hc), cr_append]
theorem sum_eq (l : List ByteArray) (hl : l.length < 1000000) (hs : ∀ s ∈ l, s.size < 9223372036854775807) (k : Nat) (hk : (cat l).length + 2 * l.length + 12 ≤ k) : seal_Sum.f k l = some ((sm (cat l) : Nat) : Int) := by
  unfold seal_Sum.f
  have := sum_l0 l hl hs l.length 0 (k - ((cat l).length + 2 * l.length + 12)) 4294967295 (by omega) (by decide)
  rw [List.drop_zero, show k - ((cat l).length + 2 * l.length + 12) + (cat l).length + 2 * l.length + 12 = k from by omega] at this
  exact this
theorem cut_eq (s : ByteArray) (n : Nat) : chatelainelaw01_Cut.f s (n : Int) = some (if n < s.size then s.extract 0 n else s) := by
  unfold chatelainelaw01_Cut.f
  by_cases h : n < s.size
  · rw [if_pos (by omega), if_pos (by omega), if_pos (by omega), if_pos h]; simp
  · rw [if_neg (by omega), if_neg h]
theorem cut_size (s : ByteArray) (n : Nat) : (if n < s.size then s.extract 0 n else s).size ≤ n := by
  split
  · simp; omega
  · omega
theorem bs_append (a b : ByteArray) : bs (a ++ b) = bs a ++ bs b := by simp [bs]
/-- A string of bytes. -/
def mkb (l : List UInt8) : ByteArray := ⟨l.toArray⟩
theorem bs_mkb (l : List UInt8) : bs (mkb l) = l := rfl
theorem mkb_bs (s : ByteArray) : mkb (bs s) = s := by cases s; simp [mkb, bs]
theorem mkb_append (a b : List UInt8) : mkb a ++ mkb b = mkb (a ++ b) := by rw [← mkb_bs (mkb a ++ mkb b), bs_append]; rfl
theorem mkb_size (l : List UInt8) : (mkb l).size = l.length := by rw [← bs_len]; rfl
theorem mkb_nil : (⟨#[]⟩ : ByteArray) = mkb [] := rfl
theorem mkb_extract (l : List UInt8) (a b : Nat) : (mkb l).extract a b = mkb ((l.drop a).take (b - a)) := by
  rw [← mkb_bs ((mkb l).extract a b)]
  congr 1
  exact Lib.extract_data (mkb l) a b
theorem mkb_toList (l : List UInt8) : (mkb l).toList = l := by rw [Lib.toList_data]; rfl
def ub (n : Nat) : UInt8 := UInt8.ofNat n
theorem ub_toNat (n : Nat) : (ub n).toNat = n % 256 := by simp [ub]
theorem son (xs : List Int) : strOfNums xs = mkb (xs.map fun n => ub n.toNat) := rfl
/-- A number's digits, the highest first. -/
def d3 (v : Nat) : List UInt8 := [ub (v / 65536 % 256), ub (v / 256 % 256), ub (v % 256)]
def d4 (v : Nat) : List UInt8 := [ub (v / 16777216 % 256), ub (v / 65536 % 256), ub (v / 256 % 256), ub (v % 256)]
theorem d3_len (v : Nat) : (d3 v).length = 3 := rfl
theorem d4_len (v : Nat) : (d4 v).length = 4 := rfl
theorem shr0 (v : Nat) : shr .u32 (v : Int) 0 = (v : Int) := by simp [shr]
theorem shr8 (v : Nat) : shr .u32 (v : Int) 8 = ((v / 256 : Nat) : Int) := by
  have : min (8 : Int).toNat IntKind.u32.bits = 8 := by decide
  unfold shr; rw [this]; omega
theorem shr16 (v : Nat) : shr .u32 (v : Int) 16 = ((v / 65536 : Nat) : Int) := by
  have : min (16 : Int).toNat IntKind.u32.bits = 16 := by decide
  unfold shr; rw [this]; omega
theorem shr24 (v : Nat) : shr .u32 (v : Int) 24 = ((v / 16777216 : Nat) : Int) := by
  have : min (24 : Int).toNat IntKind.u32.bits = 24 := by decide
  unfold shr; rw [this]; omega
theorem m256 (v : Nat) : (((v : Nat) : Int) % 256).toNat = v % 256 := by omega
theorem digits3 (k v : Nat) : seal_digits.f (k + 4) (v : Int) 3 = some (mkb (d3 v)) := by
  unfold seal_digits.f
  rw [if_pos (by decide), if_pos (by decide)]
  simp only [Option.bind_some, show (3 : Int).toNat = 3 from rfl, show List.replicate 3 (0 : Int) = [0, 0, 0] from rfl, seal_digits.l0, List.length_cons, List.length_nil]
  have e1 : ((v : Int) / 65536 % 256).toNat = v / 65536 % 256 := by omega
  have e2 : ((v : Int) / 256 % 256).toNat = v / 256 % 256 := by omega
  simp [wrap64, shr0, shr8, shr16, son, d3, m256, e1, e2]
theorem digits4 (k v : Nat) : seal_digits.f (k + 5) (v : Int) 4 = some (mkb (d4 v)) := by
  unfold seal_digits.f
  rw [if_pos (by decide), if_pos (by decide)]
  simp only [Option.bind_some, show (4 : Int).toNat = 4 from rfl, show List.replicate 4 (0 : Int) = [0, 0, 0, 0] from rfl, seal_digits.l0, List.length_cons, List.length_nil]
  have e0 : ((v : Int) / 16777216 % 256).toNat = v / 16777216 % 256 := by omega
  have e1 : ((v : Int) / 65536 % 256).toNat = v / 65536 % 256 := by omega
  have e2 : ((v : Int) / 256 % 256).toNat = v / 256 % 256 := by omega
  simp [wrap64, shr0, shr8, shr16, shr24, son, d4, m256, e0, e1, e2]
theorem tm256 (v : Nat) : (Int.tmod (v : Int) 256 % 256).toNat = v % 256 := by rw [Int.tmod_eq_emod_of_nonneg (by omega)]; omega
theorem td256 (v : Nat) (h : v < 4294967296) : Int.tdiv (v : Int) 256 % 4294967296 = ((v / 256 : Nat) : Int) := by rw [Int.tdiv_eq_ediv_of_nonneg (by omega)]; omega
/-- A frame, but for its sum. -/
def fb (k : Nat) (l : List UInt8) : List UInt8 := ub k :: (d3 l.length ++ l)
/-- A frame. -/
def fr (k : Nat) (l : List UInt8) : List UInt8 := fb k l ++ d4 (sm (fb k l))
theorem fb_len (k : Nat) (l : List UInt8) : (fb k l).length = l.length + 4 := by simp [fb, d3]
theorem fr_len (k : Nat) (l : List UInt8) : (fr k l).length = l.length + 8 := by simp [fr, fb, d3, d4]
theorem frame_eq (k a : Nat) (s : ByteArray) (hs : s.size ≤ 1048576) (hk : s.size + 30 ≤ k) : seal_Frame.f k (a : Int) s = some (mkb (fr (max a 1) (bs s))) := by
  obtain ⟨k, rfl⟩ : ∃ m, k = m + 5 := ⟨k - 5, by omega⟩
  have hb := bs_len s
  have e1 : mn (s.size : Int) 1048576 = (s.size : Int) := by unfold mn; omega
  have e2 : s.extract 0 s.size = s := by rw [← mkb_bs s, mkb_size, mkb_extract]; simp
  have e3 : mx (a : Int) 1 = ((max a 1 : Nat) : Int) := by unfold mx; omega
  unfold seal_Frame.f
  rw [e1, if_pos (by omega), if_pos (by omega), Int.toNat_natCast, e2, e3]
  simp only [Option.bind_some]
  rw [show ((s.size : Int)) % 4294967296 = (s.size : Int) from by omega, digits3 (k + 1)]
  simp only [Option.bind_some]
  have e4 : strOfNums [((max a 1 : Nat) : Int)] ++ mkb (d3 s.size) ++ s = mkb (fb (max a 1) (bs s)) := by
    rw [son, mkb_append, ← mkb_bs s, mkb_append, bs_mkb, mkb_size]; simp [fb]
  have z1 : (strOfNums [((max a 1 : Nat) : Int)]).size + (mkb (d3 s.size)).size ≤ 9223372036854775807 := by rw [son, mkb_size, mkb_size]; simp [d3]
  have z2 : (strOfNums [((max a 1 : Nat) : Int)] ++ mkb (d3 s.size)).size + s.size ≤ 9223372036854775807 := by rw [son, mkb_append, mkb_size]; simp [d3]; omega
  rw [if_pos z1, if_pos z2, e4]
  have ec : cat [mkb (fb (max a 1) (bs s))] = fb (max a 1) (bs s) := by simp [cat, bs_mkb]
  rw [sum_eq _ (by simp) (by simp [mkb_size, fb_len, hb]; omega) _ (by rw [ec, fb_len]; simp; omega), ec]
  simp only [Option.bind_some]
  rw [digits4 k]
  simp only [Option.bind_some]
  rw [if_pos (by rw [mkb_size, mkb_size, fb_len, d4_len]; omega), mkb_append]
  rfl
/-- A number of bytes, the highest first. -/
def nm (l : List UInt8) : Nat := l.foldl (fun a b => 256 * a + b.toNat) 0
theorem or_add (a b : Nat) (ha : a < 16777216) (hb : b < 256) : Go.bits .or .u32 (((a : Int) * 256) % 4294967296) ((b : Int) % 4294967296) = ((256 * a + b : Nat) : Int) := by
  have e1 : ((a : Int) * 256) % 4294967296 = ((256 * a : Nat) : Int) := by omega
  have e2 : ((b : Int)) % 4294967296 = ((b : Nat) : Int) := by omega
  rw [e1, e2, u32_or_nat _ _ (by omega) (by omega)]
  congr 1
  have := Nat.two_pow_add_eq_or_of_lt (i := 8) (b := b) (by omega) a
  rw [show 2 ^ 8 = 256 from rfl] at this
  exact this.symm
theorem number_step (k a i : Nat) (s : ByteArray) (ha : a < 16777216) (hi : i < s.size) (hs : s.size < 1000) :
    seal_number.l0 (k + 1) s (a : Int) (s.size : Int) (i : Int) = seal_number.l0 k s ((256 * a + ((bs s).getD i 0).toNat : Nat) : Int) (s.size : Int) ((i + 1 : Nat) : Int) := by
  simp only [seal_number.l0]
  rw [if_pos (by omega), if_pos (by omega), if_pos (by omega), bt_nat s i hi, or_add _ _ ha (UInt8.toNat_lt _), wi i (by omega)]
theorem number_end (k a i : Nat) (s : ByteArray) (hi : s.size ≤ i) : seal_number.l0 (k + 1) s (a : Int) (s.size : Int) (i : Int) = some (a : Int) := by
  simp only [seal_number.l0]
  rw [if_neg (by omega)]
theorem number3 (k : Nat) (a b c : UInt8) : seal_number.f (k + 4) (mkb [a, b, c]) = some ((nm [a, b, c] : Nat) : Int) := by
  have ha := UInt8.toNat_lt a
  have hb := UInt8.toNat_lt b
  have hz : (mkb [a, b, c]).size = 3 := rfl
  unfold seal_number.f
  have s1 := number_step (k + 3) 0 0 (mkb [a, b, c]) (by decide) (by rw [hz]; decide) (by rw [hz]; decide)
  have s2 := number_step (k + 2) (256 * 0 + a.toNat) 1 (mkb [a, b, c]) (by omega) (by rw [hz]; decide) (by rw [hz]; decide)
  have s3 := number_step (k + 1) (256 * (256 * 0 + a.toNat) + b.toNat) 2 (mkb [a, b, c]) (by omega) (by rw [hz]; decide) (by rw [hz]; decide)
  have s4 := number_end k (256 * (256 * (256 * 0 + a.toNat) + b.toNat) + c.toNat) 3 (mkb [a, b, c]) (by rw [hz]; decide)
  exact s1.trans (s2.trans (s3.trans s4))
theorem number4 (k : Nat) (a b c d : UInt8) : seal_number.f (k + 5) (mkb [a, b, c, d]) = some ((nm [a, b, c, d] : Nat) : Int) := by
  have ha := UInt8.toNat_lt a
  have hb := UInt8.toNat_lt b
  have hc := UInt8.toNat_lt c
  have hz : (mkb [a, b, c, d]).size = 4 := rfl
  unfold seal_number.f
  have s1 := number_step (k + 4) 0 0 (mkb [a, b, c, d]) (by decide) (by rw [hz]; decide) (by rw [hz]; decide)
  have s2 := number_step (k + 3) (256 * 0 + a.toNat) 1 (mkb [a, b, c, d]) (by omega) (by rw [hz]; decide) (by rw [hz]; decide)
  have s3 := number_step (k + 2) (256 * (256 * 0 + a.toNat) + b.toNat) 2 (mkb [a, b, c, d]) (by omega) (by rw [hz]; decide) (by rw [hz]; decide)
  have s4 := number_step (k + 1) (256 * (256 * (256 * 0 + a.toNat) + b.toNat) + c.toNat) 3 (mkb [a, b, c, d]) (by omega) (by rw [hz]; decide) (by rw [hz]; decide)
  have s5 := number_end k (256 * (256 * (256 * (256 * 0 + a.toNat) + b.toNat) + c.toNat) + d.toNat) 4 (mkb [a, b, c, d]) (by rw [hz]; decide)
  exact s1.trans (s2.trans (s3.trans (s4.trans s5)))
theorem nm3_lt (a b c : UInt8) : nm [a, b, c] < 16777216 := by
  have := UInt8.toNat_lt a; have := UInt8.toNat_lt b; have := UInt8.toNat_lt c
  simp only [nm, List.foldl_cons, List.foldl_nil]; omega
theorem nm4_lt (a b c d : UInt8) : nm [a, b, c, d] < 4294967296 := by
  have := UInt8.toNat_lt a; have := UInt8.toNat_lt b; have := UInt8.toNat_lt c; have := UInt8.toNat_lt d
  simp only [nm, List.foldl_cons, List.foldl_nil]; omega
theorem ub_of (a : UInt8) (n : Nat) (h : n = a.toNat) : ub n = a := by subst h; simp [ub]
theorem d3_nm (a b c : UInt8) : d3 (nm [a, b, c]) = [a, b, c] := by
  have := UInt8.toNat_lt a; have := UInt8.toNat_lt b; have := UInt8.toNat_lt c
  simp only [nm, List.foldl_cons, List.foldl_nil, d3]
  rw [ub_of a _ (by omega), ub_of b _ (by omega), ub_of c _ (by omega)]
theorem d4_nm (a b c d : UInt8) : d4 (nm [a, b, c, d]) = [a, b, c, d] := by
  have := UInt8.toNat_lt a; have := UInt8.toNat_lt b; have := UInt8.toNat_lt c; have := UInt8.toNat_lt d
  simp only [nm, List.foldl_cons, List.foldl_nil, d4]
  rw [ub_of a _ (by omega), ub_of b _ (by omega), ub_of c _ (by omega), ub_of d _ (by omega)]
theorem nm_d4 (v : Nat) (h : v < 4294967296) : nm (d4 v) = v := by
  simp only [nm, List.foldl_cons, List.foldl_nil, d4, ub_toNat]; omega
theorem nm_d3 (v : Nat) (h : v < 16777216) : nm (d3 v) = v := by
  simp only [nm, List.foldl_cons, List.foldl_nil, d3, ub_toNat]; omega
theorem four (l : List UInt8) (h : 4 ≤ l.length) : ∃ a b c d m, l = a :: b :: c :: d :: m := by
  match l, h with
  | a :: b :: c :: d :: m, _ => exact ⟨a, b, c, d, m, rfl⟩
/-- What is in the frame at the beginning of some bytes. -/
def opn (l : List UInt8) : Int × ByteArray × Int :=
  if l.length < 4 then (0, mkb [], 3)
  else if (l.getD 0 0).toNat = 0 then (0, mkb [], 4)
  else if nm ((l.drop 1).take 3) > 1048576 then (0, mkb [], 6)
  else if nm ((l.drop 1).take 3) + 8 > l.length then (0, mkb [], 3)
  else if sm (l.take (4 + nm ((l.drop 1).take 3))) = nm ((l.drop (4 + nm ((l.drop 1).take 3))).take 4) then (((l.getD 0 0).toNat : Int), mkb ((l.drop 4).take (nm ((l.drop 1).take 3))), 0)
  else (0, mkb [], 5)
theorem take4 (l : List UInt8) (n : Nat) (h : n + 4 ≤ l.length) : ∃ a b c d, (l.drop n).take 4 = [a, b, c, d] := by
  obtain ⟨a, b, c, d, m, e⟩ := four (l.drop n) (by simp; omega)
  exact ⟨a, b, c, d, by rw [e]; rfl⟩
theorem open_eq (k : Nat) (l : List UInt8) (hl : l.length < 1000000) (hk : l.length + 30 ≤ k) : seal_Open.f k (mkb l) = some (opn l) := by
  obtain ⟨k, rfl⟩ : ∃ m, k = m + 5 := ⟨k - 5, by omega⟩
  unfold seal_Open.f opn
  rw [mkb_size, mkb_nil]
  by_cases h4 : l.length < 4
  · rw [if_pos (by omega), if_pos h4]
  rw [if_neg (by omega), if_neg h4, if_pos (by decide), if_pos (by omega)]
  obtain ⟨a, b, c, d, m, rfl⟩ := four l (by omega)
  have e1 : (mkb (a :: b :: c :: d :: m)).extract 1 4 = mkb [b, c, d] := by rw [mkb_extract]; rfl
  have e2 : ((a :: b :: c :: d :: m).drop 1).take 3 = [b, c, d] := rfl
  rw [e1, number3 (k + 1), e2]
  simp only [Option.bind_some]
  have hn := nm3_lt b c d
  rw [if_pos (by omega), show ((0 : Int)) = ((0 : Nat) : Int) from rfl, bt_nat _ 0 (by rw [mkb_size]; omega), bs_mkb]
  by_cases h0 : ((a :: b :: c :: d :: m).getD 0 0).toNat = 0
  · rw [if_pos (by omega), if_pos h0]
  rw [if_neg (by omega), if_neg h0]
  generalize hN : nm [b, c, d] = n at *
  rw [w64 (x := (n : Int)) (by omega) (by omega)]
  by_cases h6 : n > 1048576
  · rw [if_pos (by omega), if_pos h6]
  rw [if_neg (by omega), if_neg h6, w64 (x := (n : Int) + 8) (by omega) (by omega), w64 (x := 4 + (n : Int)) (by omega) (by omega)]
  by_cases h8 : n + 8 > (a :: b :: c :: d :: m).length
  · rw [if_pos (by omega), if_pos h8]
  rw [if_neg (by omega), if_neg h8, if_pos (by omega), if_pos (by omega), show (4 + (n : Int)).toNat = 4 + n from by omega, show ((n : Int) + 8).toNat = n + 8 from by omega]
  have e3 : (mkb (a :: b :: c :: d :: m)).extract 0 (4 + n) = mkb ((a :: b :: c :: d :: m).take (4 + n)) := by rw [mkb_extract]; simp
  have ec : cat [mkb ((a :: b :: c :: d :: m).take (4 + n))] = (a :: b :: c :: d :: m).take (4 + n) := by simp [cat, bs_mkb]
  have el : ((a :: b :: c :: d :: m).take (4 + n)).length ≤ (a :: b :: c :: d :: m).length := by rw [List.length_take]; omega
  rw [e3, sum_eq _ (by simp) (by simp only [List.mem_singleton, forall_eq, mkb_size]; omega) _ (by rw [ec]; simp only [List.length_singleton]; omega), ec]
  simp only [Option.bind_some]
  obtain ⟨w, x, y, z, e4⟩ := take4 (a :: b :: c :: d :: m) (4 + n) (by omega)
  have e5 : (mkb (a :: b :: c :: d :: m)).extract (4 + n) (n + 8) = mkb [w, x, y, z] := by rw [mkb_extract, show n + 8 - (4 + n) = 4 from by omega, e4]
  rw [if_pos (by omega), if_pos (by omega), e5, number4 k, e4]
  simp only [Option.bind_some]
  by_cases hs : sm ((a :: b :: c :: d :: m).take (4 + n)) = nm [w, x, y, z]
  · rw [if_pos (by omega), if_pos hs, if_pos (by omega), mkb_extract, show 4 + n - 4 = n from by omega]
  · rw [if_neg (by omega), if_neg hs]
/-- A frame, and whatever behind it, is opened. -/
theorem opn_fr (k : Nat) (l t : List UInt8) (k1 : 1 ≤ k) (k2 : k < 256) (hl : l.length ≤ 1048576) : opn (fr k l ++ t) = ((k : Int), mkb l, 0) := by
  have hz : (fr k l ++ t).length = l.length + 8 + t.length := by rw [List.length_append, fr_len]
  have e0 : (fr k l ++ t).getD 0 0 = ub k := rfl
  have e1 : ((fr k l ++ t).drop 1).take 3 = d3 l.length := rfl
  have en := nm_d3 l.length (by omega)
  have e4 : (fr k l ++ t).take (4 + l.length) = fb k l := by
    show (fb k l ++ d4 (sm (fb k l)) ++ t).take _ = _
    rw [List.append_assoc, List.take_append_of_le_length (by rw [fb_len]; omega), List.take_of_length_le (by rw [fb_len]; omega)]
  have e5 : ((fr k l ++ t).drop (4 + l.length)).take 4 = d4 (sm (fb k l)) := by
    show ((fb k l ++ d4 (sm (fb k l)) ++ t).drop _).take 4 = _
    rw [List.append_assoc, List.drop_append_of_le_length (by rw [fb_len]; omega), List.drop_of_length_le (by rw [fb_len]; omega)]
    rfl
  have e6 : ((fr k l ++ t).drop 4).take l.length = l := by
    have : (fr k l ++ t).drop 4 = l ++ (d4 (sm (fb k l)) ++ t) := by
      show ((ub k :: (d3 l.length ++ l)) ++ d4 (sm (fb k l)) ++ t).drop 4 = _
      simp [d3]
    rw [this, List.take_append_of_le_length (Nat.le_refl _), List.take_of_length_le (Nat.le_refl _)]
  unfold opn
  rw [hz, if_neg (by omega), e0, ub_toNat, if_neg (by omega), e1, en, if_neg (by omega), if_neg (by omega), e4, e5, nm_d4 _ (sm_lt _), if_pos rfl, e6, Nat.mod_eq_of_lt k2]
theorem opn_ok (l : List UInt8) (h : (opn l).2.2 = 0) : (opn l).2.1.size + 8 ≤ l.length := by
  unfold opn at h ⊢
  by_cases h4 : l.length < 4
  · rw [if_pos h4] at h; exact absurd h (by decide)
  rw [if_neg h4] at h ⊢
  by_cases h0 : (l.getD 0 0).toNat = 0
  · rw [if_pos h0] at h; exact absurd h (by decide)
  rw [if_neg h0] at h ⊢
  by_cases h6 : nm ((l.drop 1).take 3) > 1048576
  · rw [if_pos h6] at h; exact absurd h (by decide)
  rw [if_neg h6] at h ⊢
  by_cases h8 : nm ((l.drop 1).take 3) + 8 > l.length
  · rw [if_pos h8] at h; exact absurd h (by decide)
  rw [if_neg h8] at h ⊢
  by_cases hs : sm (l.take (4 + nm ((l.drop 1).take 3))) = nm ((l.drop (4 + nm ((l.drop 1).take 3))).take 4)
  · rw [if_pos hs]; simp only [mkb_size, List.length_take, List.length_drop]; omega
  · rw [if_neg hs] at h; exact absurd h (by decide)
/-- The frames at the beginning of some bytes: what is in them; how many bytes they have. -/
def scn : Nat → List UInt8 → List (Int × ByteArray) × Nat
  | 0, _ => ([], 0)
  | f + 1, l => if (opn l).2.2 = 0 then (((opn l).1, (opn l).2.1) :: (scn f (l.drop ((opn l).2.1.size + 8))).1, (opn l).2.1.size + 8 + (scn f (l.drop ((opn l).2.1.size + 8))).2) else ([], 0)
theorem scn_le : ∀ (f : Nat) (l : List UInt8), (scn f l).2 ≤ l.length ∧ (scn f l).1.length * 8 ≤ (scn f l).2
  | 0, l => by simp [scn]
  | f + 1, l => by
    unfold scn
    by_cases h : (opn l).2.2 = 0
    · rw [if_pos h]
      have a := opn_ok l h
      have b := scn_le f (l.drop ((opn l).2.1.size + 8))
      rw [List.length_drop] at b
      simp only [List.length_cons]; omega
    · rw [if_neg h]; simp
def to48 (p : Int × ByteArray) : S48 := ⟨p.1, p.2⟩
theorem scan_l0 (l : List UInt8) (hl : l.length < 1000000) : ∀ (f at_ K : Nat) (acc : List S48), at_ ≤ l.length → l.length - at_ < f → acc.length + (l.length - at_) < 1000000 → l.length + 40 + f ≤ K →
    seal_Scan.l0 K (mkb l) acc (at_ : Int) = some (acc ++ (scn f (l.drop at_)).1.map to48, ((at_ + (scn f (l.drop at_)).2 : Nat) : Int)) := by
  intro f
  induction f with
  | zero => intro at_ K acc h0 h1; omega
  | succ f ih =>
    intro at_ K acc h0 h1 h2 hK
    obtain ⟨k, rfl⟩ : ∃ m, K = m + 1 := ⟨K - 1, by omega⟩
    have e1 : (mkb l).extract at_ l.length = mkb (l.drop at_) := by rw [mkb_extract, List.take_of_length_le (by simp)]
    have e2 := open_eq k (l.drop at_) (by rw [List.length_drop]; omega) (by rw [List.length_drop]; omega)
    simp only [seal_Scan.l0]
    rw [if_pos (by omega), if_pos (by rw [mkb_size]; omega), Int.toNat_natCast, mkb_size, e1, e2]
    simp only [Option.bind_some]
    by_cases h : (opn (l.drop at_)).2.2 = 0
    · have a := opn_ok _ h
      rw [List.length_drop] at a
      rw [if_pos h, if_pos (by omega), w64 (x := ((opn (l.drop at_)).2.1.size : Int) + 8) (by omega) (by omega), w64 (by omega) (by omega),
        show ((at_ : Int) + (((opn (l.drop at_)).2.1.size : Int) + 8)) = ((at_ + ((opn (l.drop at_)).2.1.size + 8) : Nat) : Int) from by omega,
        ih _ k _ (by omega) (by omega) (by rw [List.length_append, List.length_singleton]; omega) (by omega)]
      have e3 : l.drop (at_ + ((opn (l.drop at_)).2.1.size + 8)) = (l.drop at_).drop ((opn (l.drop at_)).2.1.size + 8) := by rw [List.drop_drop]
      rw [e3]
      conv => rhs; unfold scn
      rw [if_pos h]
      simp only [List.map_cons, List.append_assoc, List.singleton_append, Nat.add_assoc]
      rfl
    · rw [if_neg h]
      conv => rhs; unfold scn
      rw [if_neg h]; simp
theorem scan_eq (l : List UInt8) (hl : l.length < 100000) (k : Nat) (hk : 2 * l.length + 60 ≤ k) : seal_Scan.f k (mkb l) = some ((scn (l.length + 1) l).1.map to48, (((scn (l.length + 1) l).2 : Nat) : Int)) := by
  unfold seal_Scan.f
  have := scan_l0 l (by omega) (l.length + 1) 0 k [] (by omega) (by omega) (by simp; omega) (by omega)
  simpa using this
theorem opn_torn (k : Nat) (l t : List UInt8) (k1 : 1 ≤ k) (k2 : k < 256) (hl : l.length ≤ 1048576) (c : Nat) (hc : c < (fr k l).length) : (opn ((fr k l ++ t).take c)).2.2 ≠ 0 := by
  have hz := fr_len k l
  have hlen : ((fr k l ++ t).take c).length = c := by rw [List.length_take, List.length_append]; omega
  unfold opn
  rw [hlen]
  by_cases h4 : c < 4
  · rw [if_pos h4]; decide
  obtain ⟨c, rfl⟩ : ∃ m, c = m + 4 := ⟨c - 4, by omega⟩
  have e0 : ((fr k l ++ t).take (c + 4)).getD 0 0 = ub k := rfl
  have e1 : (((fr k l ++ t).take (c + 4)).drop 1).take 3 = d3 l.length := rfl
  rw [if_neg h4, e0, ub_toNat, if_neg (by omega), e1, nm_d3 _ (by omega), if_neg (by omega), if_pos (by omega)]
  decide
/-- Frames in a row: kinds and texts. -/
def frs : List (Nat × List UInt8) → List UInt8
  | [] => []
  | p :: ps => fr p.1 p.2 ++ frs ps
/-- How many frames are whole within so many bytes; how many bytes these have. -/
def whl : List (Nat × List UInt8) → Nat → Nat × Nat
  | [], _ => (0, 0)
  | p :: ps, c => if (fr p.1 p.2).length ≤ c then ((whl ps (c - (fr p.1 p.2).length)).1 + 1, (fr p.1 p.2).length + (whl ps (c - (fr p.1 p.2).length)).2) else (0, 0)
def Rt (ps : List (Nat × List UInt8)) : Prop := ∀ p ∈ ps, 1 ≤ p.1 ∧ p.1 < 256 ∧ p.2.length ≤ 1000
theorem scn_frs : ∀ (ps : List (Nat × List UInt8)), Rt ps → ∀ (c f : Nat), c < f → scn f ((frs ps).take c) = ((ps.take (whl ps c).1).map (fun p => ((p.1 : Int), mkb p.2)), (whl ps c).2)
  | [], _, c, f, hf => by
    obtain ⟨f, rfl⟩ : ∃ m, f = m + 1 := ⟨f - 1, by omega⟩
    simp only [frs, List.take_nil, whl]
    unfold scn
    rw [if_neg (by decide)]
    rfl
  | p :: ps, h, c, f, hf => by
    obtain ⟨f, rfl⟩ : ∃ m, f = m + 1 := ⟨f - 1, by omega⟩
    obtain ⟨h1, h2, h3⟩ := h p (by simp)
    have hz := fr_len p.1 p.2
    unfold frs whl scn
    by_cases hc : (fr p.1 p.2).length ≤ c
    · have e1 : (fr p.1 p.2 ++ frs ps).take c = fr p.1 p.2 ++ (frs ps).take (c - (fr p.1 p.2).length) := by
        rw [List.take_append, List.take_of_length_le hc]
      rw [e1, opn_fr _ _ _ h1 h2 (by omega), if_pos rfl, if_pos hc]
      have e2 : (fr p.1 p.2 ++ (frs ps).take (c - (fr p.1 p.2).length)).drop ((mkb p.2).size + 8) = (frs ps).take (c - (fr p.1 p.2).length) := by
        rw [mkb_size, ← hz, List.drop_append_of_le_length (Nat.le_refl _), List.drop_of_length_le (Nat.le_refl _), List.nil_append]
      simp only [e2]
      rw [scn_frs ps (fun q hq => h q (by simp [hq])) _ f (by omega), mkb_size]
      simp only [List.take_succ_cons, List.map_cons, hz]
    · have ht := opn_torn p.1 p.2 (frs ps) h1 h2 (by omega) c (by omega)
      rw [if_neg ht, if_neg hc]; rfl
theorem whl_le : ∀ (ps : List (Nat × List UInt8)) (c : Nat), (whl ps c).1 ≤ ps.length ∧ (whl ps c).2 ≤ c ∧ (whl ps c).2 ≤ (frs ps).length
  | [], c => by simp [whl]
  | p :: ps, c => by
    unfold whl frs
    by_cases hc : (fr p.1 p.2).length ≤ c
    · rw [if_pos hc]; have := whl_le ps (c - (fr p.1 p.2).length); simp only [List.length_cons, List.length_append]; omega
    · rw [if_neg hc]; simp
/-- The frames as strings. -/
def fls (ps : List (Nat × List UInt8)) : List ByteArray := ps.map fun p => mkb (fr p.1 p.2)
theorem rd_fls (ps : List (Nat × List UInt8)) (i : Nat) (h : i < ps.length) : rdOf ByteArray.empty (fls ps) (i : Int) = mkb (fr ps[i].1 ps[i].2) := by
  simp [rdOf, fls, List.getD_eq_getElem?_getD, h]
theorem fls_len (ps : List (Nat × List UInt8)) : (fls ps).length = ps.length := by simp [fls]
/-- What Frames makes. -/
def cutb (s : ByteArray) : ByteArray := if 60 < s.size then s.extract 0 60 else s
def mk (l : List ByteArray) : List (Nat × List UInt8) := ((l.take 10).mapIdx fun i s => (1 + i, bs (cutb s)))
theorem mk_len (l : List ByteArray) : (mk l).length = min l.length 10 := by simp [mk]; omega
theorem mk_get (l : List ByteArray) (i : Nat) (h : i < (mk l).length) (h' : i < l.length) : (mk l)[i] = (1 + i, bs (cutb l[i])) := by simp [mk]
theorem cutb_size (s : ByteArray) : (cutb s).size ≤ 60 := cut_size s 60
theorem mk_rt (l : List ByteArray) : ∀ p ∈ mk l, 1 ≤ p.1 ∧ p.1 < 256 ∧ p.2.length ≤ 60 := by
  intro p hp
  obtain ⟨i, hi, rfl⟩ := List.getElem_of_mem hp
  have hl := mk_len l
  rw [mk_get l i hi (by omega)]
  have := cutb_size (l[i]'(by omega))
  have := bs_len (cutb (l[i]'(by omega)))
  exact ⟨by simp, by simp; omega, by simp only; omega⟩
theorem frames_l0 (l : List ByteArray) : ∀ (d i K : Nat), i + d = (mk l).length → 2 * d + 200 ≤ K →
    chatelainelaw02_Frames.l0 K l (fls ((mk l).take i)) (i : Int) = some (fls (mk l)) := by
  have hl := mk_len l
  intro d
  induction d with
  | zero =>
    intro i K hi hK
    obtain ⟨k, rfl⟩ : ∃ m, K = m + 1 + 1 := ⟨K - 2, by omega⟩
    have e : (mk l).take i = mk l := List.take_of_length_le (by omega)
    simp only [chatelainelaw02_Frames.l0, chatelainelaw02_Frames.j1]
    rw [e]
    by_cases h : (i : Int) < (l.length : Int)
    · rw [if_pos h, decide_eq_false (by omega)]; simp
    · rw [if_neg h]; simp
  | succ d ih =>
    intro i K hi hK
    obtain ⟨k, rfl⟩ : ∃ m, K = m + 1 + 1 := ⟨K - 2, by omega⟩
    have hil : i < l.length := by omega
    have him : i < (mk l).length := by omega
    have er : rdOf ByteArray.empty l (i : Int) = l[i] := by simp [rdOf, List.getD_eq_getElem?_getD, hil]
    have hs := cutb_size l[i]
    have e1 : (wrap64 (1 + (i : Int))) % 256 = ((1 + i : Nat) : Int) := by rw [w64 (by omega) (by omega)]; omega
    simp only [chatelainelaw02_Frames.l0, chatelainelaw02_Frames.j1]
    rw [if_pos (by omega), decide_eq_true (by omega)]
    simp only [if_true]
    rw [if_pos (by omega), if_pos (by omega), er, show (60 : Int) = ((60 : Nat) : Int) from rfl, cut_eq]
    simp only [Option.bind_some]
    have hf := frame_eq k (1 + i) (cutb l[i]) (by omega) (by omega)
    unfold cutb at hf hs
    rw [e1, hf]
    simp only [Option.bind_some]
    rw [if_pos (by rw [fls_len, List.length_take]; omega), wi i (by omega)]
    have e2 : fls ((mk l).take i) ++ [mkb (fr (max (1 + i) 1) (bs (if 60 < l[i].size then l[i].extract 0 60 else l[i])))] = fls ((mk l).take (i + 1)) := by
      rw [List.take_succ_eq_append_getElem him]
      simp only [fls, List.map_append, List.map_cons, List.map_nil]
      rw [mk_get l i him hil, show max (1 + i) 1 = 1 + i from by omega]
      rfl
    rw [e2]
    exact ih (i + 1) k (by omega) (by omega)
theorem frames_eq (l : List ByteArray) (k : Nat) (hk : 300 ≤ k) : chatelainelaw02_Frames.f k l = some (fls (mk l)) := by
  unfold chatelainelaw02_Frames.f
  have hl := mk_len l
  have := frames_l0 l (mk l).length 0 k (by omega) (by omega)
  simpa [fls] using this
theorem frs_append (a b : List (Nat × List UInt8)) : frs (a ++ b) = frs a ++ frs b := by
  induction a with
  | nil => rfl
  | cons p a ih => simp [frs, ih]
theorem frs_bound (ps : List (Nat × List UInt8)) (h : ∀ p ∈ ps, p.2.length ≤ 60) : (frs ps).length ≤ 68 * ps.length := by
  induction ps with
  | nil => simp [frs]
  | cons p ps ih =>
    have := ih (fun q hq => h q (by simp [hq]))
    have := h p (by simp)
    simp only [frs, List.length_append, fr_len, List.length_cons]; omega
theorem are_l0 (ps : List (Nat × List UInt8)) (h : ∀ p ∈ ps, 1 ≤ p.1 ∧ p.1 < 256 ∧ p.2.length ≤ 60) (n : Nat) (hn : n ≤ ps.length) (hn2 : n ≤ 10) : ∀ (d i K : Nat), i + d = n → d + 100 < K →
    chatelainelaw02_are.l0 K ((ps.take n).map fun p => to48 ((p.1 : Int), mkb p.2)) (fls ps) (n : Int) (i : Int) = some true := by
  intro d
  induction d with
  | zero =>
    intro i K hi hK
    obtain ⟨k, rfl⟩ : ∃ m, K = m + 1 := ⟨K - 1, by omega⟩
    simp only [chatelainelaw02_are.l0]
    rw [if_neg (by omega)]
  | succ d ih =>
    intro i K hi hK
    obtain ⟨k, rfl⟩ : ∃ m, K = m + 1 := ⟨K - 1, by omega⟩
    have hil : i < ps.length := by omega
    obtain ⟨h1, h2, h3⟩ := h ps[i] (List.getElem_mem hil)
    have r1 : rd_T48 ((ps.take n).map fun p => to48 ((p.1 : Int), mkb p.2)) (i : Int) = to48 ((ps[i].1 : Int), mkb ps[i].2) := by
      have : i < n := by omega
      simp [rd_T48, List.getD_eq_getElem?_getD, this, hil]
    simp only [chatelainelaw02_are.l0]
    rw [if_pos (by omega), if_pos (by omega), if_pos (by rw [List.length_map, List.length_take]; omega), r1]
    show ((seal_Frame.f k ((ps[i].1 : Nat) : Int) (mkb ps[i].2)).bind _) = _
    rw [frame_eq k _ _ (by rw [mkb_size]; omega) (by rw [mkb_size]; omega)]
    simp only [Option.bind_some]
    rw [if_pos (by rw [fls_len]; omega), rd_fls ps i hil, bs_mkb, show max ps[i].1 1 = ps[i].1 from by omega, if_pos rfl, wi i (by omega)]
    exact ih (i + 1) k (by omega) (by omega)
theorem take_frs (ps : List (Nat × List UInt8)) (i : Nat) (h : i < ps.length) : frs (ps.take (i + 1)) = frs (ps.take i) ++ fr ps[i].1 ps[i].2 := by
  rw [List.take_succ_eq_append_getElem h, frs_append]; simp [frs]
theorem torn_l0 (ps : List (Nat × List UInt8)) (hb : (frs ps).length ≤ 1000) (hp : ps.length ≤ 10) (c : Int) : ∀ (d i K : Nat), i + d = ps.length →
    chatelainelaw02_SealTorn.l0 (K + d + 1) c (fls ps) (mkb (frs (ps.take i))) (fls ps) (ps.length : Int) (i : Int) = chatelainelaw02_SealTorn.l1 K (mx 0 (mn c ((frs ps).length : Int))) (fls ps) (mkb (frs ps)) 0 0 := by
  intro d
  induction d with
  | zero =>
    intro i K hi
    have e : ps.take i = ps := List.take_of_length_le (by omega)
    rw [show K + 0 + 1 = K + 1 from rfl, e]
    simp only [chatelainelaw02_SealTorn.l0]
    rw [if_neg (by omega), mkb_size]
  | succ d ih =>
    intro i K hi
    have hil : i < ps.length := by omega
    have e := take_frs ps i hil
    have hle : (frs (ps.take (i + 1))).length ≤ (frs ps).length := by
      have : frs ps = frs (ps.take (i + 1)) ++ frs (ps.drop (i + 1)) := by rw [← frs_append, List.take_append_drop]
      rw [this, List.length_append]; omega
    rw [e, List.length_append] at hle
    rw [show K + (d + 1) + 1 = (K + d + 1) + 1 from by omega, chatelainelaw02_SealTorn.l0]
    rw [if_pos (by omega), if_pos (by omega), if_pos (by rw [fls_len]; omega), rd_fls ps i hil, if_pos (by rw [mkb_size, mkb_size]; omega), mkb_append, ← e, wi i (by omega)]
    exact ih (i + 1) K (by omega)
/-- Whole frames from the i-th on, within c bytes of which size are gone. -/
theorem torn_l1 (ps : List (Nat × List UInt8)) (h : ∀ p ∈ ps, 1 ≤ p.1 ∧ p.1 < 256 ∧ p.2.length ≤ 60) (hb : (frs ps).length ≤ 1000) (hp : ps.length ≤ 10) (c : Nat) (hc : c ≤ (frs ps).length) :
    ∀ (d i K : Nat), i + d = ps.length → d + 4000 < K → (frs (ps.take i)).length ≤ c →
    whl ps c = (i + (whl (ps.drop i) (c - (frs (ps.take i)).length)).1, (frs (ps.take i)).length + (whl (ps.drop i) (c - (frs (ps.take i)).length)).2) →
    chatelainelaw02_SealTorn.l1 K (c : Int) (fls ps) (mkb (frs ps)) (i : Int) (((frs (ps.take i)).length : Nat) : Int) = some true := by
  have rt : Rt ps := fun p hp => ⟨(h p hp).1, (h p hp).2.1, by have := (h p hp).2.2; omega⟩
  have fin : ∀ (k n z : Nat), 3000 < k → whl ps c = (n, z) →
      ((seal_Scan.f k ((mkb (frs ps)).extract 0 (c : Int).toNat)).bind fun bt => ((chatelainelaw02_are.f k bt.1 (fls ps) (n : Int)).bind fun t => (if t = true then (some (bt.2 == (z : Int))) else (some false)))) = some true := by
    intro k n z hk hw
    have hwl := whl_le ps c
    rw [hw] at hwl
    simp only at hwl
    have e1 : (mkb (frs ps)).extract 0 c = mkb ((frs ps).take c) := by rw [mkb_extract]; simp
    have hl : ((frs ps).take c).length = c := by rw [List.length_take]; omega
    rw [Int.toNat_natCast, e1, scan_eq _ (by omega) _ (by omega), hl, scn_frs ps rt c (c + 1) (by omega), hw]
    simp only [Option.bind_some, List.map_map]
    have ea : chatelainelaw02_are.f k ((ps.take n).map (to48 ∘ fun p => ((p.1 : Int), mkb p.2))) (fls ps) (n : Int) = some true := by
      unfold chatelainelaw02_are.f
      rw [if_pos (by rw [List.length_map, List.length_take]; omega)]
      exact are_l0 ps h n hwl.1 (by omega) n 0 k (by omega) (by omega)
    rw [ea]; simp
  intro d
  induction d with
  | zero =>
    intro i K hi hK hs hw
    obtain ⟨k, rfl⟩ : ∃ m, K = m + 1 := ⟨K - 1, by omega⟩
    have e : ps.drop i = [] := List.drop_eq_nil_iff.2 (by omega)
    rw [e] at hw
    simp only [whl, Nat.add_zero] at hw
    simp only [chatelainelaw02_SealTorn.l1]
    rw [if_neg (by rw [fls_len]; omega), if_pos (by omega), if_pos (by rw [mkb_size]; omega)]
    exact fin k i _ (by omega) hw
  | succ d ih =>
    intro i K hi hK hs hw
    obtain ⟨k, rfl⟩ : ∃ m, K = m + 1 := ⟨K - 1, by omega⟩
    have hil : i < ps.length := by omega
    have e := take_frs ps i hil
    have ed : ps.drop i = ps[i] :: ps.drop (i + 1) := List.drop_eq_getElem_cons hil
    have hle : (frs (ps.take (i + 1))).length ≤ (frs ps).length := by
      have : frs ps = frs (ps.take (i + 1)) ++ frs (ps.drop (i + 1)) := by rw [← frs_append, List.take_append_drop]
      rw [this, List.length_append]; omega
    rw [e, List.length_append] at hle
    simp only [chatelainelaw02_SealTorn.l1]
    rw [if_pos (by rw [fls_len]; omega), if_pos (by omega), rd_fls ps i hil, mkb_size, w64 (x := (((frs (ps.take i)).length : Nat) : Int) + ((fr ps[i].1 ps[i].2).length : Int)) (by omega) (by omega)]
    rw [ed] at hw
    simp only [whl] at hw
    by_cases hcc : (fr ps[i].1 ps[i].2).length ≤ c - (frs (ps.take i)).length
    · rw [if_pos (by omega), wi i (by omega)]
      rw [if_pos hcc] at hw
      have el : (frs (ps.take (i + 1))).length = (frs (ps.take i)).length + (fr ps[i].1 ps[i].2).length := by rw [e, List.length_append]
      have := ih (i + 1) k (by omega) (by omega) (by omega) (by
        rw [el, show c - ((frs (ps.take i)).length + (fr ps[i].1 ps[i].2).length) = c - (frs (ps.take i)).length - (fr ps[i].1 ps[i].2).length from by omega, hw]
        simp only [Prod.mk.injEq]; omega)
      rw [el] at this
      rw [show (((frs (ps.take i)).length : Nat) : Int) + ((fr ps[i].1 ps[i].2).length : Int) = (((frs (ps.take i)).length + (fr ps[i].1 ps[i].2).length : Nat) : Int) from by omega]
      exact this
    · rw [if_neg (by omega), if_pos (by omega), if_pos (by rw [mkb_size]; omega)]
      rw [if_neg hcc] at hw
      simp only [Nat.add_zero] at hw
      exact fin k i _ (by omega) hw
theorem torn_eq (l : List ByteArray) (c : Int) : chatelainelaw02_SealTorn.f 20000 l c = some true := by
  have hk : chatelainelaw02_awake.f 20000 = some true := at_rounds (g := chatelainelaw02_awake.f) chatelainelaw02_awake.mono (show 60 ≤ 20000 by decide) (by decide +kernel)
  have hl := mk_len l
  have hr := mk_rt l
  have hb := frs_bound (mk l) (fun p hp => (hr p hp).2.2)
  unfold chatelainelaw02_SealTorn.f
  rw [hk]; simp only [Option.bind_some, if_true]
  rw [frames_eq l _ (by decide)]
  simp only [Option.bind_some]
  have e0 : (⟨#[]⟩ : ByteArray) = mkb (frs ((mk l).take 0)) := rfl
  rw [e0, fls_len, show (20000 : Nat) = (20000 - (mk l).length - 1) + (mk l).length + 1 from by omega, show ((0 : Int)) = ((0 : Nat) : Int) from rfl, torn_l0 (mk l) (by omega) (by omega) c (mk l).length 0 _ (by omega)]
  obtain ⟨n, hn, hn2⟩ : ∃ n : Nat, mx 0 (mn c ((frs (mk l)).length : Int)) = (n : Int) ∧ n ≤ (frs (mk l)).length := by
    refine ⟨(mx 0 (mn c ((frs (mk l)).length : Int))).toNat, ?_, ?_⟩ <;> (unfold mx mn; omega)
  rw [hn]
  have := torn_l1 (mk l) hr (by omega) (by omega) n hn2 (mk l).length 0 (20000 - (mk l).length - 1) (by omega) (by omega) (by simp [frs]) (by simp [frs])
  simpa [frs] using this

end Go.Proofs.Ytbldphmnpangiaa
