/- The grid functions' answers and the reference's, as numbers, for the law GridQuorums; no conditions beyond those that each theorem names. -/
import Derived.Test.YtbldphmnpangiaaGridMore
import Derived.Test.YtbldphmnpangiaaPGridQuorumsx
import Derived.Laws.BitsAllLaws
namespace Go.Proofs.Ytbldphmnpangiaa.GridRefGridQuorums
open Go.RowKit PGridQuorums Go.Proofs.YtbldphmnpangiaaW.PrintWords Go.Proofs.YtbldphmnpangiaaW.PrintLast Go.Proofs.YtbldphmnpangiaaW.PrintMore
set_option maxRecDepth 10000 in
theorem pop_eq : ∀ i : Nat, i < 256 → bt (⟨#[0, 1, 1, 2, 1, 2, 2, 3, 1, 2, 2, 3, 2, 3, 3, 4, 1, 2, 2, 3, 2, 3, 3, 4, 2, 3, 3, 4, 3, 4, 4, 5, 1, 2, 2, 3, 2, 3, 3, 4, 2, 3, 3, 4, 3, 4, 4, 5, 2, 3, 3, 4, 3, 4, 4, 5, 3, 4, 4, 5, 4, 5, 5, 6, 1, 2, 2, 3, 2, 3, 3, 4, 2, 3, 3, 4, 3, 4, 4, 5, 2, 3, 3, 4, 3, 4, 4, 5, 3, 4, 4, 5, 4, 5, 5, 6, 2, 3, 3, 4, 3, 4, 4, 5, 3, 4, 4, 5, 4, 5, 5, 6, 3, 4, 4, 5, 4, 5, 5, 6, 4, 5, 5, 6, 5, 6, 6, 7, 1, 2, 2, 3, 2, 3, 3, 4, 2, 3, 3, 4, 3, 4, 4, 5, 2, 3, 3, 4, 3, 4, 4, 5, 3, 4, 4, 5, 4, 5, 5, 6, 2, 3, 3, 4, 3, 4, 4, 5, 3, 4, 4, 5, 4, 5, 5, 6, 3, 4, 4, 5, 4, 5, 5, 6, 4, 5, 5, 6, 5, 6, 6, 7, 2, 3, 3, 4, 3, 4, 4, 5, 3, 4, 4, 5, 4, 5, 5, 6, 3, 4, 4, 5, 4, 5, 5, 6, 4, 5, 5, 6, 5, 6, 6, 7, 3, 4, 4, 5, 4, 5, 5, 6, 4, 5, 5, 6, 5, 6, 6, 7, 4, 5, 5, 6, 5, 6, 6, 7, 5, 6, 6, 7, 6, 7, 7, 8]⟩ : ByteArray) (i : Int) = ((bsum 8 i : Nat) : Int) := by decide +kernel
theorem w64 {x : Int} (h : -9223372036854775808 ≤ x) (h2 : x ≤ 9223372036854775807) : wrap64 x = x := by unfold wrap64; omega
theorem wi (i : Nat) (h : i < 9223372036854775807) : wrap64 ((i : Int) + 1) = ((i + 1 : Nat) : Int) := by rw [w64 (by omega) (by omega)]; omega
theorem wadd (a b : Nat) (ha : a ≤ 100) (hb : b ≤ 100) : wrap64 ((a : Int) + (b : Int)) = ((a + b : Nat) : Int) := by rw [w64 (by omega) (by omega)]; omega
theorem wsub (a b : Nat) (ha : a ≤ 200) (hb : b ≤ 200) : wrap64 ((a : Int) - (b : Int)) = (a : Int) - (b : Int) := w64 (by omega) (by omega)
theorem and255 (x : Nat) (h : x < 4294967296) : Go.bits .and .u32 (x : Int) 255 = ((x % 256 : Nat) : Int) := by
  have := u32_and_nat x 255 h (by decide)
  rw [show (255 : Nat) = 2 ^ 8 - 1 from rfl, Nat.and_two_pow_sub_one_eq_mod] at this
  exact this
theorem ones_aux (T : ByteArray) (hT : ∀ i : Nat, i < 256 → bt T (i : Int) = ((bsum 8 i : Nat) : Int)) (a b c d : Nat) (ha : a < 256) (hb : b < 256) (hc : c < 256) (hd : d < 256) :
    (if 0 ≤ (a : Int) then (if (a : Int) < 256 then (if 0 ≤ (b : Int) then (if (b : Int) < 256 then (if 0 ≤ (c : Int) then (if (c : Int) < 256 then (if 0 ≤ (d : Int) then (if (d : Int) < 256 then (some (((((((bt T a) + (bt T b)) % 256) + (bt T c)) % 256) + (bt T d)) % 256)) else (none)) else (none)) else (none)) else (none)) else (none)) else (none)) else (none)) else (none)) = some (((bsum 8 a + bsum 8 b + bsum 8 c + bsum 8 d : Nat)) : Int) := by
  have l0 := bsum_le 8 a
  have l1 := bsum_le 8 b
  have l2 := bsum_le 8 c
  have l3 := bsum_le 8 d
  rw [if_pos (by omega), if_pos (by omega), if_pos (by omega), if_pos (by omega), if_pos (by omega), if_pos (by omega), if_pos (by omega), if_pos (by omega)]
  rw [hT _ ha, hT _ hb, hT _ hc, hT _ hd]
  congr 1
  omega
theorem bsum32 (x : Nat) : bsum 32 x = bsum 8 (x / 16777216) + bsum 8 (x / 65536 % 256) + bsum 8 (x / 256 % 256) + bsum 8 (x % 256) := by
  have e0 : bsum 32 x = bsum 8 x + bsum 24 (x / 256) := bsum_add 8 24 x
  have e1 : bsum 24 (x / 256) = bsum 8 (x / 256) + bsum 16 (x / 256 / 256) := bsum_add 8 16 (x / 256)
  have e2 : bsum 16 (x / 256 / 256) = bsum 8 (x / 256 / 256) + bsum 8 (x / 256 / 256 / 256) := bsum_add 8 8 (x / 256 / 256)
  have m0 : bsum 8 (x % 256) = bsum 8 x := bsum_mod 8 x
  have m1 : bsum 8 (x / 256 % 256) = bsum 8 (x / 256) := bsum_mod 8 (x / 256)
  have m2 : bsum 8 (x / 65536 % 256) = bsum 8 (x / 65536) := bsum_mod 8 (x / 65536)
  have q1 : x / 256 / 256 = x / 65536 := by omega
  have q2 : x / 65536 / 256 = x / 16777216 := by omega
  rw [q1] at e1 e2
  rw [q2] at e2
  rw [e0, e1, e2, m0, m1, m2]
  omega
theorem ones_eq (x : Nat) (h : x < 4294967296) : bits_OnesCount32.f (x : Int) = some ((bsum 32 x : Nat) : Int) := by
  have d1 : (x : Int) / 16777216 = ((x / 16777216 : Nat) : Int) := by omega
  have d2 : (x : Int) / 65536 = ((x / 65536 : Nat) : Int) := by omega
  have d3 : (x : Int) / 256 = ((x / 256 : Nat) : Int) := by omega
  unfold bits_OnesCount32.f
  rw [d1, d2, d3, and255 _ (by omega), and255 _ (by omega), and255 _ (by omega), bsum32]
  exact ones_aux _ pop_eq _ _ _ _ (by omega) (by omega) (by omega) (by omega)
def zn (p r : Nat) : Nat := (2 ^ p - 1) * 2 ^ (r * p)
theorem pow_le16 {n : Nat} (h : n ≤ 16) : 2 ^ n ≤ 65536 := Nat.pow_le_pow_right (by decide) h
theorem zn_lt {p r : Nat} (h : r * p + p ≤ 16) : zn p r < 65536 := by
  have h1 := pow_le16 h
  rw [Nat.add_comm, Nat.pow_add] at h1
  have h2 := Nat.two_pow_pos p
  have h3 := Nat.two_pow_pos (r * p)
  unfold zn
  rw [Nat.sub_mul, Nat.one_mul]; omega
theorem shl_one {n : Nat} (h : n ≤ 16) : shl .u32 1 (n : Int) = ((2 ^ n : Nat) : Int) := by
  have h1 := pow_le16 h
  unfold shl
  rw [Int.toNat_natCast, show min n IntKind.u32.bits = n from Nat.min_eq_left (by simp [IntKind.bits]; omega), Int.one_mul, IntKind.wrap_u32]
  have : ((2 : Int) ^ n) = ((2 ^ n : Nat) : Int) := by simp
  rw [this]
  generalize (2 ^ n : Nat) = m at *
  omega
theorem zone_eq (R P W FZ FN SZ SN : Int) (p r : Nat) (hP : P = (p : Int)) (h : r * p + p ≤ 16) : grid_Config_zone.f R P W FZ FN SZ SN (r : Int) = some ((zn p r : Nat) : Int) := by
  subst hP
  have h1 := pow_le16 (n := p) (by omega)
  have h2 := pow_le16 (n := r * p) (by omega)
  have h3 := Nat.two_pow_pos p
  have hz := zn_lt h
  unfold grid_Config_zone.f
  rw [if_pos (by omega), show ((r : Int) * (p : Int)) = ((r * p : Nat) : Int) from by simp, w64 (by omega) (by omega), if_pos (by omega), shl_one (by omega)]
  have e : ((((2 ^ p : Nat) : Int) - 1) % 4294967296) = ((2 ^ p - 1 : Nat) : Int) := by omega
  rw [e]
  unfold shl
  rw [Int.toNat_natCast, show min (r * p) IntKind.u32.bits = r * p from Nat.min_eq_left (by simp [IntKind.bits]; omega), IntKind.wrap_u32]
  have e2 : ((2 ^ p - 1 : Nat) : Int) * (2 : Int) ^ (r * p) = ((zn p r : Nat) : Int) := by unfold zn; simp
  rw [e2]
  congr 1; omega
theorem and_zone (p r w : Nat) : w &&& zn p r = dg p w r * 2 ^ (r * p) := by
  apply Nat.eq_of_testBit_eq
  intro i
  unfold zn
  rw [Nat.testBit_and, Nat.mul_comm (2 ^ p - 1), Nat.mul_comm (dg p w r), Nat.testBit_two_pow_mul, Nat.testBit_two_pow_mul, dg_bit, Nat.testBit_two_pow_sub_one]
  by_cases h : i ≥ r * p
  · rw [show r * p + (i - r * p) = i from by omega]; simp [h, Bool.and_comm]
  · simp [h]
theorem cnt_eq (p r w : Nat) (hw : w < 4294967296) (h : r * p + p ≤ 16) : bits_OnesCount32.f (Go.bits .and .u32 (w : Int) ((zn p r : Nat) : Int)) = some ((bsum p (dg p w r) : Nat) : Int) := by
  have hz := zn_lt h
  have hle : w &&& zn p r ≤ zn p r := Nat.and_le_right
  have e1 := ones_eq (w &&& zn p r) (by omega)
  have e2 : bsum 32 (w &&& zn p r) = bsum p (dg p w r) := by
    rw [and_zone]
    have e3 := bsum_shift (r * p) (32 - r * p) (dg p w r)
    rw [show r * p + (32 - r * p) = 32 from by omega] at e3
    rw [e3]
    exact bsum_lt (dg_lt _ _ _) (by omega)
  rw [u32_and_nat w _ hw (by omega), e1, e2]
structure Sp (r p w fz fn sz sn : Nat) : Prop where
  r1 : 1 ≤ r
  r4 : r ≤ 4
  p1 : 1 ≤ p
  p4 : p ≤ 4
  n : r * p ≤ 12
  fz1 : 1 ≤ fz
  fzr : fz ≤ r
  fn1 : 1 ≤ fn
  fnp : fn ≤ p
  sz1 : 1 ≤ sz
  szr : sz ≤ r
  sn1 : 1 ≤ sn
  snp : sn ≤ p
  w : w < 2 ^ (r * p)
theorem step_le {r p i : Nat} (h : i < r) : i * p + p ≤ r * p := by
  have := Nat.mul_le_mul_right p h
  rwa [Nat.succ_mul] at this
theorem apart_l0 {r p w fz fn sz sn : Nat} (h : Sp r p w fz fn sz sn) : ∀ d i k, i + d = r → d < k →
    grid_Config_apart.l0 k ((az p fn sn w i : Nat) : Int) (r : Int) (i : Int) (r : Int) (p : Int) (w : Int) (fz : Int) (fn : Int) (sz : Int) (sn : Int) = some ((az p fn sn w r : Nat) : Int) := by
  have hn := h.n
  have hr := h.r4
  have hp := h.p4
  have hfn := h.fnp
  have hsn := h.snp
  have hw : w < 65536 := Nat.lt_of_lt_of_le h.w (pow_le16 (by omega))
  intro d
  induction d with
  | zero =>
    intro i k hi hk
    obtain ⟨k, rfl⟩ : ∃ m, k = m + 1 := ⟨k - 1, by omega⟩
    obtain rfl : i = r := by omega
    simp only [grid_Config_apart.l0]
    rw [if_neg (by omega)]
  | succ d ih =>
    intro i k hi hk
    obtain ⟨k, rfl⟩ : ∃ m, k = m + 1 := ⟨k - 1, by omega⟩
    have hs := step_le (p := p) (show i < r by omega)
    have hb := bsum_le p (dg p w i)
    have ha := az_le p fn sn w i
    simp only [grid_Config_apart.l0]
    rw [if_pos (by omega), zone_eq _ _ _ _ _ _ _ p i rfl (by omega)]
    rw [Option.bind_some]
    rw [cnt_eq p i w (by omega) (by omega)]
    rw [Option.bind_some]
    rw [wadd fn sn (by omega) (by omega), wadd p _ (by omega) (by omega), wi i (by omega)]
    by_cases hc : fn + sn ≤ p + bsum p (dg p w i)
    · rw [if_pos (by omega), wi _ (by omega)]
      have e : az p fn sn w (i + 1) = az p fn sn w i + 1 := by simp only [az]; rw [if_pos hc]
      rw [← e]; exact ih (i + 1) k (by omega) (by omega)
    · rw [if_neg (by omega)]
      have e : az p fn sn w (i + 1) = az p fn sn w i := by simp only [az]; rw [if_neg hc]; rfl
      rw [← e]; exact ih (i + 1) k (by omega) (by omega)
theorem apart_eq {r p w fz fn sz sn : Nat} (h : Sp r p w fz fn sz sn) (k : Nat) (hk : 10 ≤ k) : grid_Config_apart.f k r p w fz fn sz sn = some ((az p fn sn w r : Nat) : Int) := by
  unfold grid_Config_apart.f
  exact apart_l0 h r 0 k (by omega) (by have := h.r4; omega)
theorem shaped_step (k : Nat) (l : List S54) (n i : Nat) (r p w fz fn sz sn : Int) (hn : n = l.length) (h : i < n) (hn2 : n < 10) (x y : Int) (hx : rd_T54 l (i : Int) = ⟨x, y⟩) (x1 : 1 ≤ x) (x2 : x ≤ r) (y1 : 1 ≤ y) (y2 : y ≤ p) :
    grid_Config_shaped.l0 (k + 1) l (n : Int) (i : Int) r p w fz fn sz sn = grid_Config_shaped.l0 k l (n : Int) ((i + 1 : Nat) : Int) r p w fz fn sz sn := by
  rw [grid_Config_shaped.l0]
  rw [if_pos (by omega), if_pos (by omega), if_pos (by omega), hx, if_neg (by simp only; omega), if_neg (by simp only; omega), if_neg (by simp only; omega), if_neg (by simp only; omega), wi i (by omega)]
theorem shaped_yes {r p w fz fn sz sn : Nat} (h : Sp r p w fz fn sz sn) (k : Nat) (hk : 10 ≤ k) : grid_Config_shaped.f k r p w fz fn sz sn = some true := by
  obtain ⟨r1, r4, p1, p4, n, fz1, fzr, fn1, fnp, sz1, szr, sn1, snp, hw⟩ := h
  obtain ⟨k, rfl⟩ : ∃ m, k = m + 4 := ⟨k - 4, by omega⟩
  have e : ((r : Int) * (p : Int)) = ((r * p : Nat) : Int) := by simp
  have hs : shr .u32 (w : Int) ((r * p : Nat) : Int) = 0 := by
    unfold shr
    rw [Int.toNat_natCast, show min (r * p) IntKind.u32.bits = r * p from Nat.min_eq_left (by simp [IntKind.bits]; omega)]
    have : ((2 : Int) ^ (r * p)) = ((2 ^ (r * p) : Nat) : Int) := by simp
    rw [this, Int.ediv_eq_zero_of_lt (by omega) (by omega)]
  unfold grid_Config_shaped.f
  rw [if_neg (by omega), if_neg (by omega), if_neg (by omega), if_neg (by omega), e, w64 (by omega) (by omega), decide_eq_false (by omega)]
  simp only [grid_Config_shaped.j0, Bool.false_eq_true, if_false, Option.bind_some]
  have s1 := shaped_step (k + 2) [(⟨(fz : Int), (fn : Int)⟩ : S54), (⟨(sz : Int), (sn : Int)⟩ : S54)] 2 0 r p w fz fn sz sn rfl (by decide) (by decide) fz fn rfl (by omega) (by omega) (by omega) (by omega)
  have s2 := shaped_step (k + 1) [(⟨(fz : Int), (fn : Int)⟩ : S54), (⟨(sz : Int), (sn : Int)⟩ : S54)] 2 1 r p w fz fn sz sn rfl (by decide) (by decide) sz sn rfl (by omega) (by omega) (by omega) (by omega)
  refine s1.trans (s2.trans ?_)
  rw [grid_Config_shaped.l0]
  rw [if_neg (by decide), e, w64 (by omega) (by omega), if_pos (by omega), hs]
  rfl
theorem check_eq {r p w fz fn sz sn : Nat} (h : Sp r p w fz fn sz sn) (k : Nat) (hk : 10 ≤ k) : grid_Config_Check.f k r p w fz fn sz sn = some (if fz + sz ≤ r + az p fn sn w r then 12 else 0) := by
  have ha := az_le p fn sn w r
  have := h.r4; have := h.fzr; have := h.szr
  unfold grid_Config_Check.f
  rw [shaped_yes h k hk]
  rw [Option.bind_some, if_pos rfl]
  rw [apart_eq h k hk]
  rw [Option.bind_some]
  rw [wadd fz sz (by omega) (by omega), wsub _ r (by omega) (by omega)]
  by_cases hb : fz + sz ≤ r + az p fn sn w r
  · rw [if_pos (by omega), if_pos hb]
  · rw [if_neg (by omega), if_neg hb]
theorem good_eq {r p w fz fn sz sn : Nat} (h : Sp r p w fz fn sz sn) (k : Nat) (hk : 10 ≤ k) : grid_Config_good.f k r p w fz fn sz sn = some (decide (¬ fz + sz ≤ r + az p fn sn w r)) := by
  unfold grid_Config_good.f
  rw [check_eq h k hk]
  simp only [Option.bind_some]
  by_cases hb : fz + sz ≤ r + az p fn sn w r
  · rw [if_pos hb]; simp [hb]
  · rw [if_neg hb]; simp [hb]
theorem meets_l0 {r p w fz fn sz sn : Nat} (h : Sp r p w fz fn sz sn) (x z n : Nat) (hx : x < 4294967296) : ∀ d i k, i + d = r → d < k →
    grid_Config_meets.l0 k (x : Int) ((qz p n x i : Nat) : Int) (r : Int) (i : Int) (r : Int) (p : Int) (w : Int) (fz : Int) (fn : Int) (sz : Int) (sn : Int) (z : Int) (n : Int) = some (decide (z ≤ qz p n x r)) := by
  have hn := h.n
  have hr := h.r4
  have hp := h.p4
  intro d
  induction d with
  | zero =>
    intro i k hi hk
    obtain ⟨k, rfl⟩ : ∃ m, k = m + 1 := ⟨k - 1, by omega⟩
    obtain rfl : i = r := by omega
    simp only [grid_Config_meets.l0]
    rw [if_neg (by omega)]
    congr 1
    exact decide_eq_decide.2 (by omega)
  | succ d ih =>
    intro i k hi hk
    obtain ⟨k, rfl⟩ : ∃ m, k = m + 1 := ⟨k - 1, by omega⟩
    have hs := step_le (p := p) (show i < r by omega)
    have hq := qz_le p n x i
    simp only [grid_Config_meets.l0]
    rw [if_pos (by omega), zone_eq _ _ _ _ _ _ _ p i rfl (by omega)]
    simp only [Option.bind_some]
    rw [cnt_eq p i x hx (by omega)]
    simp only [Option.bind_some]
    rw [wi i (by omega)]
    by_cases hc : n ≤ bsum p (dg p x i)
    · rw [if_pos (by omega), wi _ (by omega)]
      have e : qz p n x (i + 1) = qz p n x i + 1 := by simp only [qz]; rw [if_pos hc]
      rw [← e]; exact ih (i + 1) k (by omega) (by omega)
    · rw [if_neg (by omega)]
      have e : qz p n x (i + 1) = qz p n x i := by simp only [qz]; rw [if_neg hc]; rfl
      rw [← e]; exact ih (i + 1) k (by omega) (by omega)
theorem meets_eq {r p w fz fn sz sn : Nat} (h : Sp r p w fz fn sz sn) (hg : ¬ fz + sz ≤ r + az p fn sn w r) (x z n : Nat) (hx : x < 4294967296) (k : Nat) (hk : 10 ≤ k) :
    grid_Config_meets.f k r p w fz fn sz sn x z n = some (decide (z ≤ qz p n x r)) := by
  unfold grid_Config_meets.f
  rw [good_eq h k hk, decide_eq_true hg]
  simp only [Option.bind_some, if_true]
  exact meets_l0 h x z n hx r 0 k (by omega) (by have := h.r4; omega)
theorem first_eq {r p w fz fn sz sn : Nat} (h : Sp r p w fz fn sz sn) (hg : ¬ fz + sz ≤ r + az p fn sn w r) (x : Nat) (hx : x < 4294967296) (k : Nat) (hk : 10 ≤ k) :
    grid_Config_IsFirst.f k r p w fz fn sz sn x = some (decide (fz ≤ qz p fn x r)) := by
  unfold grid_Config_IsFirst.f; rw [meets_eq h hg x fz fn hx k hk]; rfl
theorem second_eq {r p w fz fn sz sn : Nat} (h : Sp r p w fz fn sz sn) (hg : ¬ fz + sz ≤ r + az p fn sn w r) (x : Nat) (hx : x < 4294967296) (k : Nat) (hk : 10 ≤ k) :
    grid_Config_IsSecond.f k r p w fz fn sz sn x = some (decide (sz ≤ qz p sn x r)) := by
  unfold grid_Config_IsSecond.f; rw [meets_eq h hg x sz sn hx k hk]; rfl
theorem len_eq {r p w fz fn sz sn : Nat} (h : Sp r p w fz fn sz sn) (hg : ¬ fz + sz ≤ r + az p fn sn w r) (k : Nat) (hk : 10 ≤ k) : grid_Config_Len.f k r p w fz fn sz sn = some ((r * p : Nat) : Int) := by
  have := h.n
  unfold grid_Config_Len.f
  rw [good_eq h k hk, decide_eq_true hg]
  simp only [Option.bind_some, if_true]
  rw [show ((r : Int) * (p : Int)) = ((r * p : Nat) : Int) from by simp, w64 (by omega) (by omega)]
theorem all_eq {r p w fz fn sz sn : Nat} (h : Sp r p w fz fn sz sn) (hg : ¬ fz + sz ≤ r + az p fn sn w r) (k : Nat) (hk : 10 ≤ k) : grid_Config_All.f k r p w fz fn sz sn = some ((2 ^ (r * p) - 1 : Nat) : Int) := by
  have hn := h.n
  have h1 := pow_le16 (n := r * p) (by omega)
  have h2 := Nat.two_pow_pos (r * p)
  unfold grid_Config_All.f
  rw [len_eq h hg k hk]
  simp only [Option.bind_some]
  rw [if_pos (by omega), shl_one (by omega)]
  congr 1; omega
theorem has_l0 (n : Nat) (hn : n < 1000) : ∀ d i k x : Nat, i + d = n → d < k → x < 4294967296 → chatelaineref07_Has.l0 k (x : Int) (n : Int) (i : Int) = some (x.testBit d) := by
  intro d
  induction d with
  | zero =>
    intro i k x hi hk hx
    obtain ⟨k, rfl⟩ : ∃ m, k = m + 1 := ⟨k - 1, by omega⟩
    rw [chatelaineref07_Has.l0, if_neg (by omega), Nat.testBit_zero, Int.tmod_eq_emod_of_nonneg (by omega)]
    congr 1
    rw [Bool.eq_iff_iff]; simp; omega
  | succ d ih =>
    intro i k x hi hk hx
    obtain ⟨k, rfl⟩ : ∃ m, k = m + 1 := ⟨k - 1, by omega⟩
    rw [chatelaineref07_Has.l0, if_pos (by omega), wi i (by omega), Int.natCast_tdiv_eq_ediv, show ((x : Int) / 2) % 4294967296 = ((x / 2 : Nat) : Int) from by omega, ih (i + 1) k (x / 2) (by omega) (by omega) (by omega), Nat.testBit_succ]
theorem has_eq (x n k : Nat) (hx : x < 4294967296) (hn : n < 1000) (hk : n < k) : chatelaineref07_Has.f k (x : Int) (n : Int) = some (x.testBit n) := by
  unfold chatelaineref07_Has.f; exact has_l0 n hn n 0 k x (by omega) hk hx
theorem wback (j : Nat) (h : j < 1000) : wrap64 ((j : Int) - 1) = (j : Int) - 1 := w64 (by omega) (by omega)
theorem rest_l0 (x : Nat) (hx : x < 4294967296) : ∀ j o k : Nat, j ≤ 16 → (o + 1) * 2 ^ j ≤ 4294967296 → j + 40 ≤ k →
    chatelaineref07_rest.l0 k (x : Int) (o : Int) ((j : Int) - 1) = some ((o * 2 ^ j + ofb (fun n => !x.testBit n) j : Nat) : Int) := by
  intro j
  induction j with
  | zero =>
    intro o k hj ho hk
    obtain ⟨k, rfl⟩ : ∃ m, k = m + 1 := ⟨k - 1, by omega⟩
    rw [chatelaineref07_rest.l0, if_neg (by omega)]; simp [ofb]
  | succ j ih =>
    intro o k hj ho hk
    obtain ⟨k, rfl⟩ : ∃ m, k = m + 1 := ⟨k - 1, by omega⟩
    have hp := Nat.two_pow_pos j
    have e1 : o * 2 ^ (j + 1) = 2 * o * 2 ^ j := by rw [Nat.pow_succ, Nat.mul_comm (2 ^ j) 2, ← Nat.mul_assoc, Nat.mul_comm o 2]
    have e2 : (o + 1) * 2 ^ (j + 1) = 2 * o * 2 ^ j + 2 * 2 ^ j := by rw [Nat.succ_mul, e1, Nat.pow_succ]; omega
    have e3 : (2 * o + 1) * 2 ^ j = 2 * o * 2 ^ j + 2 ^ j := by rw [Nat.succ_mul]
    have e4 : (2 * o + 1 + 1) * 2 ^ j = 2 * o * 2 ^ j + 2 ^ j + 2 ^ j := by rw [Nat.succ_mul, e3]
    have hle : 2 * o * 1 ≤ 2 * o * 2 ^ j := Nat.mul_le_mul_left _ hp
    rw [chatelaineref07_rest.l0, if_pos (by omega), show (((j + 1 : Nat) : Int) - 1) = (j : Int) from by omega, has_eq x j k hx (by omega) (by omega), Option.bind_some, wback j (by omega)]
    cases hb : x.testBit j with
    | true =>
      rw [if_pos rfl, show (2 * (o : Int)) % 4294967296 = ((2 * o : Nat) : Int) from by omega, ih (2 * o) k (by omega) (by omega) (by omega), ofb, hb, e1]
      simp
    | false =>
      rw [if_neg (by decide), show ((2 * (o : Int)) % 4294967296 + 1) % 4294967296 = ((2 * o + 1 : Nat) : Int) from by omega, ih (2 * o + 1) k (by omega) (by omega) (by omega), ofb, hb, e1, e3]
      simp only [Bool.not_false, Bool.toNat_true, Nat.mul_one]
      congr 2; omega
theorem both_l0 (x y : Nat) (hx : x < 4294967296) (hy : y < 4294967296) : ∀ j o k : Nat, j ≤ 16 → (o + 1) * 2 ^ j ≤ 4294967296 → j + 40 ≤ k →
    chatelaineref07_both.l0 k (x : Int) (y : Int) (o : Int) ((j : Int) - 1) = some ((o * 2 ^ j + ofb (fun n => x.testBit n && y.testBit n) j : Nat) : Int) := by
  intro j
  induction j with
  | zero =>
    intro o k hj ho hk
    obtain ⟨k, rfl⟩ : ∃ m, k = m + 1 := ⟨k - 1, by omega⟩
    rw [chatelaineref07_both.l0, if_neg (by omega)]; simp [ofb]
  | succ j ih =>
    intro o k hj ho hk
    obtain ⟨k, rfl⟩ : ∃ m, k = m + 1 := ⟨k - 1, by omega⟩
    have hp := Nat.two_pow_pos j
    have e1 : o * 2 ^ (j + 1) = 2 * o * 2 ^ j := by rw [Nat.pow_succ, Nat.mul_comm (2 ^ j) 2, ← Nat.mul_assoc, Nat.mul_comm o 2]
    have e2 : (o + 1) * 2 ^ (j + 1) = 2 * o * 2 ^ j + 2 * 2 ^ j := by rw [Nat.succ_mul, e1, Nat.pow_succ]; omega
    have e3 : (2 * o + 1) * 2 ^ j = 2 * o * 2 ^ j + 2 ^ j := by rw [Nat.succ_mul]
    have e4 : (2 * o + 1 + 1) * 2 ^ j = 2 * o * 2 ^ j + 2 ^ j + 2 ^ j := by rw [Nat.succ_mul, e3]
    have hle : 2 * o * 1 ≤ 2 * o * 2 ^ j := Nat.mul_le_mul_left _ hp
    have n1 : (2 * (o : Int)) % 4294967296 = ((2 * o : Nat) : Int) := by omega
    have n2 : ((2 * (o : Int)) % 4294967296 + 1) % 4294967296 = ((2 * o + 1 : Nat) : Int) := by omega
    have h1 := ih (2 * o) k (by omega) (by omega) (by omega)
    have h2 := ih (2 * o + 1) k (by omega) (by omega) (by omega)
    rw [chatelaineref07_both.l0, if_pos (by omega), show (((j + 1 : Nat) : Int) - 1) = (j : Int) from by omega, has_eq x j k hx (by omega) (by omega), Option.bind_some, wback j (by omega), n2, n1, h1, h2, has_eq y j k hy (by omega) (by omega), Option.bind_some, ofb, e1, e3]
    cases hb : x.testBit j <;> cases hc : y.testBit j <;> simp
    omega
theorem shape_wrap (r p : Nat) (h : r * p ≤ 16) : wrap64 (wrap64 ((r : Int) * (p : Int)) - 1) = ((r * p : Nat) : Int) - 1 := by
  rw [show ((r : Int) * (p : Int)) = ((r * p : Nat) : Int) from by simp, w64 (x := ((r * p : Nat) : Int)) (by omega) (by omega), w64 (by omega) (by omega)]
theorem rest_eq (r p x k : Nat) (hx : x < 4294967296) (h : r * p ≤ 16) (hk : 60 ≤ k) (w fz fn sz sn : Int) :
    chatelaineref07_rest.f k r p w fz fn sz sn x = some ((ofb (fun n => !x.testBit n) (r * p) : Nat) : Int) := by
  have := pow_le16 h
  unfold chatelaineref07_rest.f
  rw [shape_wrap r p h]
  have := rest_l0 x hx (r * p) 0 k h (by omega) (by omega)
  rw [Nat.zero_mul, Nat.zero_add] at this
  exact this
theorem both_eq (r p x y k : Nat) (hx : x < 4294967296) (hy : y < 4294967296) (h : r * p ≤ 16) (hk : 60 ≤ k) (w fz fn sz sn : Int) :
    chatelaineref07_both.f k r p w fz fn sz sn x y = some ((ofb (fun n => x.testBit n && y.testBit n) (r * p) : Nat) : Int) := by
  have := pow_le16 h
  unfold chatelaineref07_both.f
  rw [shape_wrap r p h]
  have := both_l0 x y hx hy (r * p) 0 k h (by omega) (by omega)
  rw [Nat.zero_mul, Nat.zero_add] at this
  exact this
theorem ofb16 (f : Nat → Bool) {m : Nat} (h : m ≤ 16) : ofb f m < 4294967296 := by
  have := ofb_lt f m; have := pow_le16 h; omega
theorem with_eq (r p w x k : Nat) (hw : w < 4294967296) (h : r * p ≤ 16) (hk : 60 ≤ k) (v fz fn sz sn : Int) :
    chatelaineref07_with.f k r p v fz fn sz sn ((ofb (fun n => !x.testBit n) (r * p) : Nat) : Int) w = some ((oth (r * p) w x : Nat) : Int) := by
  unfold chatelaineref07_with.f
  have r0 := rest_eq r p 0 k (by omega) h hk v fz fn sz sn
  rw [Int.natCast_zero] at r0
  rw [r0, Option.bind_some, rest_eq r p _ k (ofb16 _ h) h hk, Option.bind_some, rest_eq r p w k hw h hk, Option.bind_some, both_eq r p _ _ k (ofb16 _ h) (ofb16 _ h) h hk, Option.bind_some, ofb_all]
  have e := with_math (r * p) w x
  have hl := ofb_lt (fun n => (ofb (fun n => !(ofb (fun n => !x.testBit n) (r * p)).testBit n) (r * p)).testBit n && (ofb (fun n => !w.testBit n) (r * p)).testBit n) (r * p)
  revert e hl
  generalize ofb (fun n => (ofb (fun n => !(ofb (fun n => !x.testBit n) (r * p)).testBit n) (r * p)).testBit n && (ofb (fun n => !w.testBit n) (r * p)).testBit n) (r * p) = y
  intro e hl
  have := pow_le16 h
  rw [← e]
  congr 1; omega
theorem quorum_l1 (x z i r p : Nat) (v fz fn sz sn : Int) (Z n : Int) (hx : x < 4294967296) (hi : i * p + p ≤ 16) : ∀ d j k c : Nat, j + d = p → d + 60 ≤ k → c + d ≤ 16 →
    chatelaineref07_Quorum.l1 k (x : Int) (z : Int) (i : Int) (c : Int) (j : Int) (r : Int) (p : Int) v fz fn sz sn Z n
    = if n ≤ ((c + bsum d (x / 2 ^ (i * p + j)) : Nat) : Int) then chatelaineref07_Quorum.l0 (k - d - 1) (x : Int) (wrap64 ((z : Int) + 1)) (wrap64 ((i : Int) + 1)) (r : Int) (p : Int) v fz fn sz sn Z n else chatelaineref07_Quorum.l0 (k - d - 1) (x : Int) (z : Int) (wrap64 ((i : Int) + 1)) (r : Int) (p : Int) v fz fn sz sn Z n := by
  intro d
  induction d with
  | zero =>
    intro j k c hj hk hc
    obtain ⟨k, rfl⟩ : ∃ m, k = m + 1 := ⟨k - 1, by omega⟩
    rw [chatelaineref07_Quorum.l1, if_neg (by omega)]
    simp only [bsum, Nat.add_zero, Nat.sub_zero, Nat.add_sub_cancel, ge_iff_le]
  | succ d ih =>
    intro j k c hj hk hc
    obtain ⟨k, rfl⟩ : ∃ m, k = m + 1 := ⟨k - 1, by omega⟩
    rw [chatelaineref07_Quorum.l1, if_pos (by omega), show ((i : Int) * (p : Int)) = ((i * p : Nat) : Int) from by simp, w64 (x := ((i * p : Nat) : Int)) (by omega) (by omega), w64 (x := ((i * p : Nat) : Int) + (j : Int)) (by omega) (by omega), show ((i * p : Nat) : Int) + (j : Int) = ((i * p + j : Nat) : Int) from by omega]
    rw [has_eq x (i * p + j) k hx (by omega) (by omega), Option.bind_some, wi j (by omega), wi c (by omega), ih (j + 1) k (c + 1) (by omega) (by omega) (by omega), ih (j + 1) k c (by omega) (by omega) (by omega)]
    have e : x / 2 ^ (i * p + (j + 1)) = x / 2 ^ (i * p + j) / 2 := by rw [← Nat.add_assoc, Nat.pow_succ, Nat.div_div_eq_div_mul]
    have e2 : bsum (d + 1) (x / 2 ^ (i * p + j)) = x / 2 ^ (i * p + j) % 2 + bsum d (x / 2 ^ (i * p + j) / 2) := rfl
    have e3 : k + 1 - (d + 1) - 1 = k - d - 1 := by omega
    rw [e, e2, e3, Nat.testBit_eq_decide_div_mod_eq]
    by_cases hb : x / 2 ^ (i * p + j) % 2 = 1
    · rw [if_pos (by simp [hb]), hb, show c + 1 + bsum d (x / 2 ^ (i * p + j) / 2) = c + (1 + bsum d (x / 2 ^ (i * p + j) / 2)) from by omega]
    · rw [if_neg (by simp [hb]), show x / 2 ^ (i * p + j) % 2 = 0 from by omega, Nat.zero_add]
theorem quorum_l0 (x r p : Nat) (v fz fn sz sn : Int) (Z n : Nat) (hx : x < 4294967296) (hr : r ≤ 4) (hp : p ≤ 4) : ∀ d i k : Nat, i + d = r → 8 * d + 70 ≤ k →
    chatelaineref07_Quorum.l0 k (x : Int) ((qz p n x i : Nat) : Int) (i : Int) (r : Int) (p : Int) v fz fn sz sn (Z : Int) (n : Int) = some (decide (Z ≤ qz p n x r)) := by
  intro d
  induction d with
  | zero =>
    intro i k hi hk
    obtain ⟨k, rfl⟩ : ∃ m, k = m + 1 := ⟨k - 1, by omega⟩
    obtain rfl : i = r := by omega
    rw [chatelaineref07_Quorum.l0, if_neg (by omega)]
    congr 1
    exact decide_eq_decide.2 (by omega)
  | succ d ih =>
    intro i k hi hk
    obtain ⟨k, rfl⟩ : ∃ m, k = m + 1 := ⟨k - 1, by omega⟩
    have hs := step_le (p := p) (show i < r by omega)
    have hm := Nat.mul_le_mul hr hp
    have hq := qz_le p n x i
    have h1 := quorum_l1 x (qz p n x i) i r p v fz fn sz sn (Z : Int) (n : Int) hx (by omega) p 0 k 0 (by omega) (by omega) (by omega)
    rw [chatelaineref07_Quorum.l0, if_pos (by omega)]
    refine h1.trans ?_
    rw [Nat.zero_add, Nat.add_zero, ← bsum_dg, wi i (by omega), wi _ (by omega)]
    by_cases hc : n ≤ bsum p (dg p x i)
    · have e : qz p n x (i + 1) = qz p n x i + 1 := by simp only [qz]; rw [if_pos hc]
      rw [if_pos (by omega), ← e]; exact ih (i + 1) _ (by omega) (by omega)
    · have e : qz p n x (i + 1) = qz p n x i := by simp only [qz]; rw [if_neg hc]; rfl
      rw [if_neg (by omega), ← e]; exact ih (i + 1) _ (by omega) (by omega)
theorem quorum_eq (x r p k : Nat) (v fz fn sz sn : Int) (Z n : Nat) (hx : x < 4294967296) (hr : r ≤ 4) (hp : p ≤ 4) (hk : 120 ≤ k) :
    chatelaineref07_Quorum.f k r p v fz fn sz sn x Z n = some (decide (Z ≤ qz p n x r)) := by
  unfold chatelaineref07_Quorum.f
  exact quorum_l0 x r p v fz fn sz sn Z n hx hr hp r 0 k (by omega) (by omega)
theorem between_yes {a b c : Nat} (h1 : b ≤ a) (h2 : a ≤ c) : chatelaineref07_between.f a b c = some true := by
  unfold chatelaineref07_between.f
  rw [if_pos (by omega), decide_eq_true (by omega)]
theorem rshaped_l0 {r p w : Nat} (v1 v2 v3 v4 v5 v6 : Int) (hw : w < 2 ^ (r * p)) (hm : r * p ≤ 16) : ∀ d i k : Nat, i + d = 32 → r * p ≤ i → d + 40 ≤ k →
    chatelaineref07_Shaped.l0 k (i : Int) v1 v2 (w : Int) v3 v4 v5 v6 = some true := by
  have h16 := pow_le16 hm
  intro d
  induction d with
  | zero =>
    intro i k hi hr hk
    obtain ⟨k, rfl⟩ : ∃ m, k = m + 1 := ⟨k - 1, by omega⟩
    rw [chatelaineref07_Shaped.l0, if_neg (by omega)]
  | succ d ih =>
    intro i k hi hr hk
    obtain ⟨k, rfl⟩ : ∃ m, k = m + 1 := ⟨k - 1, by omega⟩
    have hb : w.testBit i = false := Nat.testBit_lt_two_pow (Nat.lt_of_lt_of_le hw (Nat.pow_le_pow_right (by decide) hr))
    rw [chatelaineref07_Shaped.l0, if_pos (by omega), has_eq w i k (by omega) (by omega) (by omega), Option.bind_some, hb, if_neg (by decide), wi i (by omega)]
    exact ih (i + 1) k (by omega) (by omega) (by omega)
theorem rshaped_eq {r p w fz fn sz sn : Nat} (h : Sp r p w fz fn sz sn) (k : Nat) (hk : 120 ≤ k) : chatelaineref07_Shaped.f k r p w fz fn sz sn = some true := by
  obtain ⟨r1, r4, p1, p4, n, fz1, fzr, fn1, fnp, sz1, szr, sn1, snp, hw⟩ := h
  obtain ⟨k, rfl⟩ : ∃ m, k = m + 2 := ⟨k - 2, by omega⟩
  have f1 : ¬ (((r * p : Nat) : Int) > 12) := by omega
  have f2 : r * p ≤ 16 := by omega
  have f3 : r * p + (32 - r * p) = 32 := by omega
  have f4 : 32 - r * p + 40 ≤ k := by omega
  have b1 : chatelaineref07_between.f r 1 4 = some true := between_yes (b := 1) (c := 4) r1 r4
  have b2 : chatelaineref07_between.f p 1 4 = some true := between_yes (b := 1) (c := 4) p1 p4
  have b3 : chatelaineref07_between.f fz 1 r = some true := between_yes (b := 1) fz1 fzr
  have b4 : chatelaineref07_between.f sz 1 r = some true := between_yes (b := 1) sz1 szr
  have b5 : chatelaineref07_between.f fn 1 p = some true := between_yes (b := 1) fn1 fnp
  have b6 : chatelaineref07_between.f sn 1 p = some true := between_yes (b := 1) sn1 snp
  have e : wrap64 ((r : Int) * (p : Int)) = ((r * p : Nat) : Int) := by rw [show ((r : Int) * (p : Int)) = ((r * p : Nat) : Int) from by simp, w64 (by omega) (by omega)]
  unfold chatelaineref07_Shaped.f
  rw [b1, Option.bind_some, if_pos rfl, b2, Option.bind_some, if_pos rfl, e, decide_eq_false f1, chatelaineref07_Shaped.j0, if_neg (by decide), b3, Option.bind_some, if_pos rfl, b4, Option.bind_some, if_pos rfl, b5, Option.bind_some, if_pos rfl, b6, Option.bind_some, chatelaineref07_Shaped.j1, if_neg (by decide), e]
  exact rshaped_l0 _ _ _ _ _ _ hw f2 (32 - r * p) (r * p) k f3 (Nat.le_refl _) f4
theorem rgood_l0 {r p w fz fn sz sn : Nat} (h : Sp r p w fz fn sz sn) : ∀ d i k : Nat, i + d = 2 ^ (r * p) → d + 300 ≤ k →
    chatelaineref07_Good.l0 k ((2 ^ (r * p) - 1 : Nat) : Int) (i : Int) r p w fz fn sz sn = some (!anyb (both2 r p w fz fn sz sn) d i) := by
  obtain ⟨r1, r4, p1, p4, n, fz1, fzr, fn1, fnp, sz1, szr, sn1, snp, hw⟩ := h
  have h16 := pow_le16 (n := r * p) (by omega)
  have hpos := Nat.two_pow_pos (r * p)
  intro d
  induction d with
  | zero =>
    intro i k hi hk
    obtain ⟨k, rfl⟩ : ∃ m, k = m + 1 := ⟨k - 1, by omega⟩
    rw [chatelaineref07_Good.l0, if_neg (by omega)]; rfl
  | succ d ih =>
    intro i k hi hk
    obtain ⟨k, rfl⟩ : ∃ m, k = m + 1 := ⟨k - 1, by omega⟩
    have ho : oth (r * p) w i < 4294967296 := by
      have : oth (r * p) w i < 2 ^ (r * p) := by
        unfold oth
        have h1 : w % 2 ^ (r * p) < 2 ^ (r * p) := Nat.mod_lt _ hpos
        exact Nat.or_lt_two_pow (by omega) h1
      omega
    rw [chatelaineref07_Good.l0, if_pos (by omega), quorum_eq i r p k _ _ _ _ _ fz fn (by omega) r4 p4 (by omega), Option.bind_some, rest_eq r p i k (by omega) (by omega) (by omega), Option.bind_some, with_eq r p w i k (by omega) (by omega) (by omega), Option.bind_some, quorum_eq _ r p k _ _ _ _ _ sz sn ho r4 p4 (by omega), Option.bind_some, show ((i : Int) + 1) % 4294967296 = ((i + 1 : Nat) : Int) from by omega, ih (i + 1) k (by omega) (by omega), anyb]
    unfold both2
    by_cases h1 : fz ≤ qz p fn i r
    · by_cases h2 : sz ≤ qz p sn (oth (r * p) w i) r
      · simp [h1, h2]
      · simp [h1, h2]
    · simp [h1]
theorem rgood_eq {r p w fz fn sz sn : Nat} (h : Sp r p w fz fn sz sn) (k : Nat) (hk : 5000 ≤ k) : chatelaineref07_Good.f k r p w fz fn sz sn = some (decide (¬ fz + sz ≤ r + az p fn sn w r)) := by
  have hn := h.n
  have h12 : 2 ^ (r * p) ≤ 2 ^ 12 := Nat.pow_le_pow_right (by decide) hn
  unfold chatelaineref07_Good.f
  have r0 := rest_eq r p 0 k (by omega) (by omega) (by omega) w fz fn sz sn
  rw [Int.natCast_zero] at r0
  rw [rshaped_eq h k (by omega), Option.bind_some, if_pos rfl, r0, Option.bind_some, ofb_all]
  have := rgood_l0 h (2 ^ (r * p)) 0 k (by omega) (by omega)
  refine this.trans ?_
  rw [both2_any h.p1 h.p4 h.fzr h.szr h.fnp h.snp, decide_not]
theorem i64_and15 (n : Int) : bits .and .i64 n 15 = n % 16 := by
  have h127 : (BitVec.ofInt 64 15).toNat = 2 ^ 4 - 1 := by decide
  have key : (BitVec.ofInt 64 n &&& BitVec.ofInt 64 15).toNat = (n % ((2 ^ 64 : Nat) : Int)).toNat % 2 ^ 4 := by
    rw [BitVec.toNat_and, BitVec.toNat_ofInt, h127, Nat.and_two_pow_sub_one_eq_mod]
  show IntKind.i64.wrap ((BitVec.ofInt 64 n &&& BitVec.ofInt 64 15).toNat : Nat) = n % 16
  rw [key, IntKind.wrap_i64]
  omega
theorem small_arg (n : Int) (q : Nat) (h1 : 1 ≤ q) (h2 : q ≤ 16) : ∃ m : Nat, 1 ≤ m ∧ m ≤ q ∧ wrap64 (1 + Int.tmod (bits .and .i64 n 15) (q : Int)) = (m : Int) := by
  rw [i64_and15, Int.tmod_eq_emod_of_nonneg (by omega)]
  have a1 : 0 ≤ n % 16 % (q : Int) := Int.emod_nonneg _ (by omega)
  have a2 : n % 16 % (q : Int) < q := Int.emod_lt_of_pos _ (by omega)
  refine ⟨1 + (n % 16 % (q : Int)).toNat, by omega, by omega, ?_⟩
  rw [w64 (by omega) (by omega)]; omega
theorem small_eq (a0 a1 a3 a4 a5 a6 : Int) (a2 : Nat) (h2 : a2 < 4294967296) : ∃ r p w fz fn sz sn : Nat, Sp r p w fz fn sz sn ∧ r ≤ 3 ∧ p ≤ 3 ∧
    chatelainelaw07_Small.f a0 a1 a2 a3 a4 a5 a6 = some ((r : Int), (p : Int), (w : Int), (fz : Int), (fn : Int), (sz : Int), (sn : Int)) := by
  obtain ⟨r, r1, r3, hr⟩ := small_arg a0 3 (by decide) (by decide)
  obtain ⟨p, p1, p3, hp⟩ := small_arg a1 3 (by decide) (by decide)
  obtain ⟨fz, fz1, fz3, hfz⟩ := small_arg a3 r (by omega) (by omega)
  obtain ⟨fn, fn1, fn3, hfn⟩ := small_arg a4 p (by omega) (by omega)
  obtain ⟨sz, sz1, sz3, hsz⟩ := small_arg a5 r (by omega) (by omega)
  obtain ⟨sn, sn1, sn3, hsn⟩ := small_arg a6 p (by omega) (by omega)
  have hm := Nat.mul_le_mul r3 p3
  have h16 := pow_le16 (n := r * p) (by omega)
  have hpos := Nat.two_pow_pos (r * p)
  refine ⟨r, p, a2 % 2 ^ (r * p), fz, fn, sz, sn, ⟨r1, by omega, p1, by omega, by omega, fz1, fz3, fn1, fn3, sz1, sz3, sn1, sn3, Nat.mod_lt _ hpos⟩, r3, p3, ?_⟩
  have hr' : wrap64 (1 + Int.tmod (bits .and .i64 a0 15) 3) = (r : Int) := hr
  have hp' : wrap64 (1 + Int.tmod (bits .and .i64 a1 15) 3) = (p : Int) := hp
  unfold chatelainelaw07_Small.f
  rw [hr', hp', hfz, hfn, hsz, hsn, show ((r : Int) * (p : Int)) = ((r * p : Nat) : Int) from by simp, w64 (by omega) (by omega), if_pos (by omega), if_neg (by omega), if_neg (by omega), shl_one (by omega), show (((2 ^ (r * p) : Nat) : Int) - 1) % 4294967296 = ((2 ^ (r * p) - 1 : Nat) : Int) from by omega, u32_and_nat _ _ h2 (by omega), Nat.and_two_pow_sub_one_eq_mod]
theorem sp_all {r p w fz fn sz sn : Nat} (h : Sp r p w fz fn sz sn) : Sp r p 0 r p 1 1 :=
  ⟨h.r1, h.r4, h.p1, h.p4, h.n, h.r1, Nat.le_refl _, h.p1, Nat.le_refl _, Nat.le_refl _, h.r1, Nat.le_refl _, h.p1, Nat.two_pow_pos _⟩
theorem right_eq (a0 a1 a3 a4 a5 a6 : Int) (a2 : Nat) (h2 : a2 < 4294967296) (k : Nat) (hk : 5000 ≤ k) : ∃ r p w fz fn sz sn : Nat, Sp r p w fz fn sz sn ∧ r ≤ 3 ∧ p ≤ 3 ∧ (¬ fz + sz ≤ r + az p fn sn w r) ∧
    chatelainelaw07_Right.f k a0 a1 a2 a3 a4 a5 a6 = some ((r : Int), (p : Int), (w : Int), (fz : Int), (fn : Int), (sz : Int), (sn : Int)) := by
  obtain ⟨r, p, w, fz, fn, sz, sn, h, r3, p3, e⟩ := small_eq a0 a1 a3 a4 a5 a6 a2 h2
  have hg := rgood_eq h k hk
  unfold chatelainelaw07_Right.f
  rw [e, Option.bind_some, hg, Option.bind_some]
  by_cases hb : fz + sz ≤ r + az p fn sn w r
  · rw [decide_eq_false (by omega), if_neg (by decide)]
    refine ⟨r, p, 0, r, p, 1, 1, sp_all h, r3, p3, ?_, rfl⟩
    rw [az_oh p p 1 (by omega)]; omega
  · rw [decide_eq_true hb, if_pos rfl]
    exact ⟨r, p, w, fz, fn, sz, sn, h, r3, p3, hb, rfl⟩
theorem law_true (a0 a1 a3 a4 a5 a6 : Int) (a2 : Nat) (h2 : a2 < 4294967296) (x : Nat) (hx : x < 4294967296) (y : Nat) (hy : y < 4294967296) (k : Nat) (hk : 6000 ≤ k) : chatelainelaw07_GridQuorums.f k a0 a1 a2 a3 a4 a5 a6 x y = some true := by
  have hk' : chatelainelaw07_awake.f k = some true := at_rounds (g := chatelainelaw07_awake.f) chatelainelaw07_awake.mono (show 60 ≤ k by omega) (by decide +kernel)
  obtain ⟨r, p, w, fz, fn, sz, sn, h, r3, p3, hg, e⟩ := right_eq a0 a1 a3 a4 a5 a6 a2 h2 k (by omega)
  have hn := h.n
  have h16 := pow_le16 (n := r * p) (by omega)
  have hpos := Nat.two_pow_pos (r * p)
  have f0 : 120 ≤ k := by omega
  unfold chatelainelaw07_GridQuorums.f
  rw [hk', Option.bind_some, if_pos rfl, e, Option.bind_some]
  unfold chatelainelaw07_Own.f
  rw [Option.bind_some, first_eq h hg x hx k (by omega), Option.bind_some, quorum_eq x r p k _ _ _ _ _ fz fn hx h.r4 h.p4 f0, Option.bind_some, if_neg (by simp), second_eq h hg x hx k (by omega), Option.bind_some, quorum_eq x r p k _ _ _ _ _ sz sn hx h.r4 h.p4 f0, Option.bind_some]
  rw [show (decide (sz ≤ qz p sn x r) != decide (sz ≤ qz p sn x r)) = false from by simp]
  obtain ⟨k, rfl⟩ : ∃ m, k = m + 1 := ⟨k - 1, by omega⟩
  have f1 : 10 ≤ k := by omega
  have hor : x ||| y < 4294967296 := Nat.or_lt_two_pow (n := 32) hx hy
  have mono1 : ∀ n, qz p n x r ≤ qz p n (x ||| y) r := fun n => qz_mono p n x (x ||| y) r (fun i _ hb => by rw [Nat.testBit_or, hb]; rfl)
  have full : ∀ n, n ≤ p → qz p n (2 ^ (r * p) - 1) r = r := fun n hn => qz_full p n _ hn r (fun i hi => by rw [Nat.testBit_two_pow_sub_one]; simp [hi])
  have none0 : ∀ n, 1 ≤ n → qz p n 0 r = 0 := fun n hn => qz_none p n 0 hn r (fun i _ => by simp)
  have m1 := mono1 fn
  have m2 := mono1 sn
  have b1 := first_eq h hg (x ||| y) hor k f1
  have b2 := second_eq h hg (x ||| y) hor k f1
  have c1 := first_eq h hg (2 ^ (r * p) - 1) (by omega) k f1
  have c2 := second_eq h hg (2 ^ (r * p) - 1) (by omega) k f1
  have d1 := first_eq h hg 0 (by omega) k f1
  have d2 := second_eq h hg 0 (by omega) k f1
  rw [full fn h.fnp, decide_eq_true h.fzr] at c1
  rw [full sn h.snp, decide_eq_true h.szr] at c2
  rw [none0 fn h.fn1, decide_eq_false (by have := h.fz1; omega)] at d1
  rw [none0 sn h.sn1, decide_eq_false (by have := h.sz1; omega)] at d2
  rw [Int.natCast_zero] at d1 d2
  rw [chatelainelaw07_GridQuorums.j0, if_neg (by decide), first_eq h hg x hx k f1, Option.bind_some, u32_or_nat x y hx hy, second_eq h hg x hx k f1, all_eq h hg k f1, b1, b2]
  by_cases q1 : fz ≤ qz p fn x r
  · rw [decide_eq_true q1, if_pos rfl, decide_eq_true (show fz ≤ qz p fn (x ||| y) r by omega), Option.bind_some, if_pos rfl, Option.bind_some]
    by_cases q2 : sz ≤ qz p sn x r
    · rw [decide_eq_true q2, if_pos rfl, decide_eq_true (show sz ≤ qz p sn (x ||| y) r by omega), Option.bind_some, if_pos rfl, Option.bind_some, c1, Option.bind_some, if_pos rfl, Option.bind_some, c2, Option.bind_some, if_pos rfl, d1, Option.bind_some, if_neg (by decide), d2]; rfl
    · rw [decide_eq_false q2, if_neg (by decide), Option.bind_some, c1, Option.bind_some, if_pos rfl, Option.bind_some, c2, Option.bind_some, if_pos rfl, d1, Option.bind_some, if_neg (by decide), d2]; rfl
  · rw [decide_eq_false q1, if_neg (by decide), Option.bind_some]
    by_cases q2 : sz ≤ qz p sn x r
    · rw [decide_eq_true q2, if_pos rfl, decide_eq_true (show sz ≤ qz p sn (x ||| y) r by omega), Option.bind_some, if_pos rfl, Option.bind_some, c1, Option.bind_some, if_pos rfl, Option.bind_some, c2, Option.bind_some, if_pos rfl, d1, Option.bind_some, if_neg (by decide), d2]; rfl
    · rw [decide_eq_false q2, if_neg (by decide), Option.bind_some, c1, Option.bind_some, if_pos rfl, Option.bind_some, c2, Option.bind_some, if_pos rfl, d1, Option.bind_some, if_neg (by decide), d2]; rfl

end Go.Proofs.Ytbldphmnpangiaa.GridRefGridQuorums
