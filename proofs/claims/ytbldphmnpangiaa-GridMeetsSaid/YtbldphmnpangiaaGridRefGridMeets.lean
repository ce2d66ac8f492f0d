/- The grid functions' answers and the reference's, as numbers, for the law GridMeets; no conditions beyond those that each theorem names. -/
import Derived.Test.YtbldphmnpangiaaGridMore
import Derived.Test.YtbldphmnpangiaaPGridMeetsx
import Derived.Laws.BitsAllLaws
namespace Go.Proofs.Ytbldphmnpangiaa.GridRefGridMeets
open Go.RowKit PGridMeets Go.Proofs.YtbldphmnpangiaaW.PrintWords Go.Proofs.YtbldphmnpangiaaW.PrintLast Go.Proofs.YtbldphmnpangiaaW.PrintMore
set_option maxRecDepth 10000 in
theorem pop_eq : ∀ i : Nat, i < 256 → bt (⟨#[0, 1, 1, 2, 1, 2, 2, 3, 1, 2, 2, 3, 2, 3, 3, 4, 1, 2, 2, 3, 2, 3, 3, 4, 2, 3, 3, 4, 3, 4, 4, 5, 1, 2, 2, 3, 2, 3, 3, 4, 2, 3, 3, 4, 3, 4, 4, 5, 2, 3, 3, 4, 3, 4, 4, 5, 3, 4, 4, 5, 4, 5, 5, 6, 1, 2, 2, 3, 2, 3, 3, 4, 2, 3, 3, 4, 3, 4, 4, 5, 2, 3, 3, 4, 3, 4, 4, 5, 3, 4, 4, 5, 4, 5, 5, 6, 2, 3, 3, 4, 3, 4, 4, 5, 3, 4, 4, 5, 4, 5, 5, 6, 3, 4, 4, 5, 4, 5, 5, 6, 4, 5, 5, 6, 5, 6, 6, 7, 1, 2, 2, 3, 2, 3, 3, 4, 2, 3, 3, 4, 3, 4, 4, 5, 2, 3, 3, 4, 3, 4, 4, 5, 3, 4, 4, 5, 4, 5, 5, 6, 2, 3, 3, 4, 3, 4, 4, 5, 3, 4, 4, 5, 4, 5, 5, 6, 3, 4, 4, 5, 4, 5, 5, 6, 4, 5, 5, 6, 5, 6, 6, 7, 2, 3, 3, 4, 3, 4, 4, 5, 3, 4, 4, 5, 4, 5, 5, 6, 3, 4, 4, 5, 4, 5, 5, 6, 4, 5, 5, 6, 5, 6, 6, 7, 3, 4, 4, 5, 4, 5, 5, 6, 4, 5, 5, 6, 5, 6, 6, 7, 4, 5, 5, 6, 5, 6, 6, 7, 5, 6, 6, 7, 6, 7, 7, 8]⟩ : ByteArray) (i : Int) = ((bsum 8 i : Nat) : Int) := by decide +kernel
theorem w64 {x : Int} (h : -9223372036854775808 ≤ x) (h2 : x ≤ 9223372036854775807) : wrap64 x = x := by unfold wrap64; omega
theorem wi (i : Nat) (h : i < 9223372036854775807) : wrap64 ((i : Int) + 1) = ((i + 1 : Nat) : Int) := by rw [w64 (by omega) (by omega)]; omega
theorem wadd (a b : Nat) (ha : a ≤ 100) (hb : b ≤ 100) : wrap64 ((a : Int) + (b : Int)) = ((a + b : Nat) : Int) := by rw [w64 (by omega) (by omega)]; omega
theorem wsub (a b : Nat) (ha : a ≤ 200) (hb : b ≤ 200) : wrap64 ((a : Int) - (b : Int)) = (a : Int) - (b : Int) := w64 (by omega) (by omega)
theorem and255 (x : Nat) (h : x < 4294967296) : Go.bits .and .u32 (x : Int) 255 = ((x % 256 : Nat) : Int) := by
  have := u32_and_nat x 255 h (by decide)
  rw [show (255 : Nat) = 2 ^ 8 - 1 from rfl, Nat.and_two_pow_sub_one_eq_mod] at this
  exact this
theorem ones_aux (T : ByteArray) (hT : ∀ i : Nat, i < 256 → bt T (i : Int) = ((bsum 8 i : Nat) : Int)) (a b c d : Nat) (ha : a < 256) (hb : b < 256) (hc : c < 256) (hd : d < 256) :
    (if 0 ≤ (a : Int) then (if (a : Int) < 256 then (if 0 ≤ (b : Int) then (if (b : Int) < 256 then (if 0 ≤ (c : Int) then (if (c : Int) < 256 then (if 0 ≤ (d : Int) then (if (d : Int) < 256 then (some (((((((bt T a) + (bt T b)) % 256) + (bt T c)) % 256) + (bt T d)) % 256)) else (none)) else (none)) else (none)) else (none)) else (none)) else (none)) else (none)) else (none)) = some (((bsum 8 a + bsum 8 b + bsum 8 c + bsum 8 d : Nat)) : Int) := by
  have l0 := bsum_le 8 a
  have l1 := bsum_le 8 b
  have l2 := bsum_le 8 c
  have l3 := bsum_le 8 d
  rw [if_pos (by omega), if_pos (by omega), if_pos (by omega), if_pos (by omega), if_pos (by omega), if_pos (by omega), if_pos (by omega), if_pos (by omega)]
  rw [hT _ ha, hT _ hb, hT _ hc, hT _ hd]
  congr 1
  omega
theorem bsum32 (x : Nat) : bsum 32 x = bsum 8 (x / 16777216) + bsum 8 (x / 65536 % 256) + bsum 8 (x / 256 % 256) + bsum 8 (x % 256) := by
  have e0 : bsum 32 x = bsum 8 x + bsum 24 (x / 256) := bsum_add 8 24 x
  have e1 : bsum 24 (x / 256) = bsum 8 (x / 256) + bsum 16 (x / 256 / 256) := bsum_add 8 16 (x / 256)
  have e2 : bsum 16 (x / 256 / 256) = bsum 8 (x / 256 / 256) + bsum 8 (x / 256 / 256 / 256) := bsum_add 8 8 (x / 256 / 256)
  have m0 : bsum 8 (x % 256) = bsum 8 x := bsum_mod 8 x
  have m1 : bsum 8 (x / 256 % 256) = bsum 8 (x / 256) := bsum_mod 8 (x / 256)
  have m2 : bsum 8 (x / 65536 % 256) = bsum 8 (x / 65536) := bsum_mod 8 (x / 65536)
  have q1 : x / 256 / 256 = x / 65536 := by omega
  have q2 : x / 65536 / 256 = x / 16777216 := by omega
  rw [q1] at e1 e2
  rw [q2] at e2
  rw [e0, e1, e2, m0, m1, m2]
  omega
theorem ones_eq (x : Nat) (h : x < 4294967296) : bits_OnesCount32.f (x : Int) = some ((bsum 32 x : Nat) : Int) := by
  have d1 : (x : Int) / 16777216 = ((x / 16777216 : Nat) : Int) := by omega
  have d2 : (x : Int) / 65536 = ((x / 65536 : Nat) : Int) := by omega
  have d3 : (x : Int) / 256 = ((x / 256 : Nat) : Int) := by omega
  unfold bits_OnesCount32.f
  rw [d1, d2, d3, and255 _ (by omega), and255 _ (by omega), and255 _ (by omega), bsum32]
  exact ones_aux _ pop_eq _ _ _ _ (by omega) (by omega) (by omega) (by omega)
/-- The nodes of region r, as a mask. -/
def zn (p r : Nat) : Nat := (2 ^ p - 1) * 2 ^ (r * p)
theorem pow_le16 {n : Nat} (h : n ≤ 16) : 2 ^ n ≤ 65536 := Nat.pow_le_pow_right (by decide) h
theorem zn_lt {p r : Nat} (h : r * p + p ≤ 16) : zn p r < 65536 := by
  have h1 := pow_le16 h
  rw [Nat.add_comm, Nat.pow_add] at h1
  have h2 := Nat.two_pow_pos p
  have h3 := Nat.two_pow_pos (r * p)
  unfold zn
  rw [Nat.sub_mul, Nat.one_mul]; omega
theorem shl_one {n : Nat} (h : n ≤ 16) : shl .u32 1 (n : Int) = ((2 ^ n : Nat) : Int) := by
  have h1 := pow_le16 h
  unfold shl
  rw [Int.toNat_natCast, show min n IntKind.u32.bits = n from Nat.min_eq_left (by simp [IntKind.bits]; omega), Int.one_mul, IntKind.wrap_u32]
  have : ((2 : Int) ^ n) = ((2 ^ n : Nat) : Int) := by simp
  rw [this]
  generalize (2 ^ n : Nat) = m at *
  omega
theorem zone_eq (R P W FZ FN SZ SN : Int) (p r : Nat) (hP : P = (p : Int)) (h : r * p + p ≤ 16) : grid_Config_zone.f R P W FZ FN SZ SN (r : Int) = some ((zn p r : Nat) : Int) := by
  subst hP
  have h1 := pow_le16 (n := p) (by omega)
  have h2 := pow_le16 (n := r * p) (by omega)
  have h3 := Nat.two_pow_pos p
  have hz := zn_lt h
  unfold grid_Config_zone.f
  rw [if_pos (by omega), show ((r : Int) * (p : Int)) = ((r * p : Nat) : Int) from by simp, w64 (by omega) (by omega), if_pos (by omega), shl_one (by omega)]
  have e : ((((2 ^ p : Nat) : Int) - 1) % 4294967296) = ((2 ^ p - 1 : Nat) : Int) := by omega
  rw [e]
  unfold shl
  rw [Int.toNat_natCast, show min (r * p) IntKind.u32.bits = r * p from Nat.min_eq_left (by simp [IntKind.bits]; omega), IntKind.wrap_u32]
  have e2 : ((2 ^ p - 1 : Nat) : Int) * (2 : Int) ^ (r * p) = ((zn p r : Nat) : Int) := by unfold zn; simp
  rw [e2]
  congr 1; omega
theorem and_zone (p r w : Nat) : w &&& zn p r = dg p w r * 2 ^ (r * p) := by
  apply Nat.eq_of_testBit_eq
  intro i
  unfold zn
  rw [Nat.testBit_and, Nat.mul_comm (2 ^ p - 1), Nat.mul_comm (dg p w r), Nat.testBit_two_pow_mul, Nat.testBit_two_pow_mul, dg_bit, Nat.testBit_two_pow_sub_one]
  by_cases h : i ≥ r * p
  · rw [show r * p + (i - r * p) = i from by omega]; simp [h, Bool.and_comm]
  · simp [h]
theorem cnt_eq (p r w : Nat) (hw : w < 4294967296) (h : r * p + p ≤ 16) : bits_OnesCount32.f (Go.bits .and .u32 (w : Int) ((zn p r : Nat) : Int)) = some ((bsum p (dg p w r) : Nat) : Int) := by
  have hz := zn_lt h
  have hle : w &&& zn p r ≤ zn p r := Nat.and_le_right
  have e1 := ones_eq (w &&& zn p r) (by omega)
  have e2 : bsum 32 (w &&& zn p r) = bsum p (dg p w r) := by
    rw [and_zone]
    have e3 := bsum_shift (r * p) (32 - r * p) (dg p w r)
    rw [show r * p + (32 - r * p) = 32 from by omega] at e3
    rw [e3]
    exact bsum_lt (dg_lt _ _ _) (by omega)
  rw [u32_and_nat w _ hw (by omega), e1, e2]
/-- A shape that may be, its numbers as natural ones. -/
structure Sp (r p w fz fn sz sn : Nat) : Prop where
  r1 : 1 ≤ r
  r4 : r ≤ 4
  p1 : 1 ≤ p
  p4 : p ≤ 4
  n : r * p ≤ 12
  fz1 : 1 ≤ fz
  fzr : fz ≤ r
  fn1 : 1 ≤ fn
  fnp : fn ≤ p
  sz1 : 1 ≤ sz
  szr : sz ≤ r
  sn1 : 1 ≤ sn
  snp : sn ≤ p
  w : w < 2 ^ (r * p)
theorem step_le {r p i : Nat} (h : i < r) : i * p + p ≤ r * p := by
  have := Nat.mul_le_mul_right p h
  rwa [Nat.succ_mul] at this
theorem apart_l0 {r p w fz fn sz sn : Nat} (h : Sp r p w fz fn sz sn) : ∀ d i k, i + d = r → d < k →
    grid_Config_apart.l0 k ((az p fn sn w i : Nat) : Int) (r : Int) (i : Int) (r : Int) (p : Int) (w : Int) (fz : Int) (fn : Int) (sz : Int) (sn : Int) = some ((az p fn sn w r : Nat) : Int) := by
  have hn := h.n
  have hr := h.r4
  have hp := h.p4
  have hfn := h.fnp
  have hsn := h.snp
  have hw : w < 65536 := Nat.lt_of_lt_of_le h.w (pow_le16 (by omega))
  intro d
  induction d with
  | zero =>
    intro i k hi hk
    obtain ⟨k, rfl⟩ : ∃ m, k = m + 1 := ⟨k - 1, by omega⟩
    obtain rfl : i = r := by omega
    simp only [grid_Config_apart.l0]
    rw [if_neg (by omega)]
  | succ d ih =>
    intro i k hi hk
    obtain ⟨k, rfl⟩ : ∃ m, k = m + 1 := ⟨k - 1, by omega⟩
    have hs := step_le (p := p) (show i < r by omega)
    have hb := bsum_le p (dg p w i)
    have ha := az_le p fn sn w i
    simp only [grid_Config_apart.l0]
    rw [if_pos (by omega), zone_eq _ _ _ _ _ _ _ p i rfl (by omega)]
    rw [Option.bind_some]
    rw [cnt_eq p i w (by omega) (by omega)]
    rw [Option.bind_some]
    rw [wadd fn sn (by omega) (by omega), wadd p _ (by omega) (by omega), wi i (by omega)]
    by_cases hc : fn + sn ≤ p + bsum p (dg p w i)
    · rw [if_pos (by omega), wi _ (by omega)]
      have e : az p fn sn w (i + 1) = az p fn sn w i + 1 := by simp only [az]; rw [if_pos hc]
      rw [← e]; exact ih (i + 1) k (by omega) (by omega)
    · rw [if_neg (by omega)]
      have e : az p fn sn w (i + 1) = az p fn sn w i := by simp only [az]; rw [if_neg hc]; rfl
      rw [← e]; exact ih (i + 1) k (by omega) (by omega)
theorem apart_eq {r p w fz fn sz sn : Nat} (h : Sp r p w fz fn sz sn) (k : Nat) (hk : 10 ≤ k) : grid_Config_apart.f k r p w fz fn sz sn = some ((az p fn sn w r : Nat) : Int) := by
  unfold grid_Config_apart.f
  exact apart_l0 h r 0 k (by omega) (by have := h.r4; omega)
theorem shaped_step (k : Nat) (l : List S54) (n i : Nat) (r p w fz fn sz sn : Int) (hn : n = l.length) (h : i < n) (hn2 : n < 10) (x y : Int) (hx : rd_T54 l (i : Int) = ⟨x, y⟩) (x1 : 1 ≤ x) (x2 : x ≤ r) (y1 : 1 ≤ y) (y2 : y ≤ p) :
    grid_Config_shaped.l0 (k + 1) l (n : Int) (i : Int) r p w fz fn sz sn = grid_Config_shaped.l0 k l (n : Int) ((i + 1 : Nat) : Int) r p w fz fn sz sn := by
  rw [grid_Config_shaped.l0]
  rw [if_pos (by omega), if_pos (by omega), if_pos (by omega), hx, if_neg (by simp only; omega), if_neg (by simp only; omega), if_neg (by simp only; omega), if_neg (by simp only; omega), wi i (by omega)]
theorem shaped_yes {r p w fz fn sz sn : Nat} (h : Sp r p w fz fn sz sn) (k : Nat) (hk : 10 ≤ k) : grid_Config_shaped.f k r p w fz fn sz sn = some true := by
  obtain ⟨r1, r4, p1, p4, n, fz1, fzr, fn1, fnp, sz1, szr, sn1, snp, hw⟩ := h
  obtain ⟨k, rfl⟩ : ∃ m, k = m + 4 := ⟨k - 4, by omega⟩
  have e : ((r : Int) * (p : Int)) = ((r * p : Nat) : Int) := by simp
  have hs : shr .u32 (w : Int) ((r * p : Nat) : Int) = 0 := by
    unfold shr
    rw [Int.toNat_natCast, show min (r * p) IntKind.u32.bits = r * p from Nat.min_eq_left (by simp [IntKind.bits]; omega)]
    have : ((2 : Int) ^ (r * p)) = ((2 ^ (r * p) : Nat) : Int) := by simp
    rw [this, Int.ediv_eq_zero_of_lt (by omega) (by omega)]
  unfold grid_Config_shaped.f
  rw [if_neg (by omega), if_neg (by omega), if_neg (by omega), if_neg (by omega), e, w64 (by omega) (by omega), decide_eq_false (by omega)]
  simp only [grid_Config_shaped.j0, Bool.false_eq_true, if_false, Option.bind_some]
  have s1 := shaped_step (k + 2) [(⟨(fz : Int), (fn : Int)⟩ : S54), (⟨(sz : Int), (sn : Int)⟩ : S54)] 2 0 r p w fz fn sz sn rfl (by decide) (by decide) fz fn rfl (by omega) (by omega) (by omega) (by omega)
  have s2 := shaped_step (k + 1) [(⟨(fz : Int), (fn : Int)⟩ : S54), (⟨(sz : Int), (sn : Int)⟩ : S54)] 2 1 r p w fz fn sz sn rfl (by decide) (by decide) sz sn rfl (by omega) (by omega) (by omega) (by omega)
  refine s1.trans (s2.trans ?_)
  rw [grid_Config_shaped.l0]
  rw [if_neg (by decide), e, w64 (by omega) (by omega), if_pos (by omega), hs]
  rfl
/-- Is there a quorum of each kind that miss one another but for witnesses? -/
def Bad (r p w fz fn sz sn : Nat) : Prop := fz + sz ≤ r + az p fn sn w r
theorem check_eq {r p w fz fn sz sn : Nat} (h : Sp r p w fz fn sz sn) (k : Nat) (hk : 10 ≤ k) : grid_Config_Check.f k r p w fz fn sz sn = some (if fz + sz ≤ r + az p fn sn w r then 12 else 0) := by
  have ha := az_le p fn sn w r
  have := h.r4; have := h.fzr; have := h.szr
  unfold grid_Config_Check.f
  rw [shaped_yes h k hk]
  rw [Option.bind_some, if_pos rfl]
  rw [apart_eq h k hk]
  rw [Option.bind_some]
  rw [wadd fz sz (by omega) (by omega), wsub _ r (by omega) (by omega)]
  by_cases hb : fz + sz ≤ r + az p fn sn w r
  · rw [if_pos (by omega), if_pos hb]
  · rw [if_neg (by omega), if_neg hb]
theorem good_eq {r p w fz fn sz sn : Nat} (h : Sp r p w fz fn sz sn) (k : Nat) (hk : 10 ≤ k) : grid_Config_good.f k r p w fz fn sz sn = some (decide (¬ fz + sz ≤ r + az p fn sn w r)) := by
  unfold grid_Config_good.f
  rw [check_eq h k hk]
  simp only [Option.bind_some]
  by_cases hb : fz + sz ≤ r + az p fn sn w r
  · rw [if_pos hb]; simp [hb]
  · rw [if_neg hb]; simp [hb]
theorem meets_l0 {r p w fz fn sz sn : Nat} (h : Sp r p w fz fn sz sn) (x z n : Nat) (hx : x < 4294967296) : ∀ d i k, i + d = r → d < k →
    grid_Config_meets.l0 k (x : Int) ((qz p n x i : Nat) : Int) (r : Int) (i : Int) (r : Int) (p : Int) (w : Int) (fz : Int) (fn : Int) (sz : Int) (sn : Int) (z : Int) (n : Int) = some (decide (z ≤ qz p n x r)) := by
  have hn := h.n
  have hr := h.r4
  have hp := h.p4
  intro d
  induction d with
  | zero =>
    intro i k hi hk
    obtain ⟨k, rfl⟩ : ∃ m, k = m + 1 := ⟨k - 1, by omega⟩
    obtain rfl : i = r := by omega
    simp only [grid_Config_meets.l0]
    rw [if_neg (by omega)]
    congr 1
    exact decide_eq_decide.2 (by omega)
  | succ d ih =>
    intro i k hi hk
    obtain ⟨k, rfl⟩ : ∃ m, k = m + 1 := ⟨k - 1, by omega⟩
    have hs := step_le (p := p) (show i < r by omega)
    have hq := qz_le p n x i
    simp only [grid_Config_meets.l0]
    rw [if_pos (by omega), zone_eq _ _ _ _ _ _ _ p i rfl (by omega)]
    simp only [Option.bind_some]
    rw [cnt_eq p i x hx (by omega)]
    simp only [Option.bind_some]
    rw [wi i (by omega)]
    by_cases hc : n ≤ bsum p (dg p x i)
    · rw [if_pos (by omega), wi _ (by omega)]
      have e : qz p n x (i + 1) = qz p n x i + 1 := by simp only [qz]; rw [if_pos hc]
      rw [← e]; exact ih (i + 1) k (by omega) (by omega)
    · rw [if_neg (by omega)]
      have e : qz p n x (i + 1) = qz p n x i := by simp only [qz]; rw [if_neg hc]; rfl
      rw [← e]; exact ih (i + 1) k (by omega) (by omega)
theorem meets_eq {r p w fz fn sz sn : Nat} (h : Sp r p w fz fn sz sn) (hg : ¬ fz + sz ≤ r + az p fn sn w r) (x z n : Nat) (hx : x < 4294967296) (k : Nat) (hk : 10 ≤ k) :
    grid_Config_meets.f k r p w fz fn sz sn x z n = some (decide (z ≤ qz p n x r)) := by
  unfold grid_Config_meets.f
  rw [good_eq h k hk, decide_eq_true hg]
  simp only [Option.bind_some, if_true]
  exact meets_l0 h x z n hx r 0 k (by omega) (by have := h.r4; omega)
theorem meets_no {r p w fz fn sz sn : Nat} (h : Sp r p w fz fn sz sn) (hg : fz + sz ≤ r + az p fn sn w r) (x z n : Int) (k : Nat) (hk : 10 ≤ k) :
    grid_Config_meets.f k r p w fz fn sz sn x z n = some false := by
  unfold grid_Config_meets.f
  rw [good_eq h k hk, decide_eq_false (by omega)]
  simp
theorem first_eq {r p w fz fn sz sn : Nat} (h : Sp r p w fz fn sz sn) (hg : ¬ fz + sz ≤ r + az p fn sn w r) (x : Nat) (hx : x < 4294967296) (k : Nat) (hk : 10 ≤ k) :
    grid_Config_IsFirst.f k r p w fz fn sz sn x = some (decide (fz ≤ qz p fn x r)) := by
  unfold grid_Config_IsFirst.f; rw [meets_eq h hg x fz fn hx k hk]; rfl
theorem second_eq {r p w fz fn sz sn : Nat} (h : Sp r p w fz fn sz sn) (hg : ¬ fz + sz ≤ r + az p fn sn w r) (x : Nat) (hx : x < 4294967296) (k : Nat) (hk : 10 ≤ k) :
    grid_Config_IsSecond.f k r p w fz fn sz sn x = some (decide (sz ≤ qz p sn x r)) := by
  unfold grid_Config_IsSecond.f; rw [meets_eq h hg x sz sn hx k hk]; rfl
theorem len_eq {r p w fz fn sz sn : Nat} (h : Sp r p w fz fn sz sn) (hg : ¬ fz + sz ≤ r + az p fn sn w r) (k : Nat) (hk : 10 ≤ k) : grid_Config_Len.f k r p w fz fn sz sn = some ((r * p : Nat) : Int) := by
  have := h.n
  unfold grid_Config_Len.f
  rw [good_eq h k hk, decide_eq_true hg]
  simp only [Option.bind_some, if_true]
  rw [show ((r : Int) * (p : Int)) = ((r * p : Nat) : Int) from by simp, w64 (by omega) (by omega)]
theorem all_eq {r p w fz fn sz sn : Nat} (h : Sp r p w fz fn sz sn) (hg : ¬ fz + sz ≤ r + az p fn sn w r) (k : Nat) (hk : 10 ≤ k) : grid_Config_All.f k r p w fz fn sz sn = some ((2 ^ (r * p) - 1 : Nat) : Int) := by
  have hn := h.n
  have h1 := pow_le16 (n := r * p) (by omega)
  have h2 := Nat.two_pow_pos (r * p)
  unfold grid_Config_All.f
  rw [len_eq h hg k hk]
  simp only [Option.bind_some]
  rw [if_pos (by omega), shl_one (by omega)]
  congr 1; omega
theorem wit_eq {r p w fz fn sz sn : Nat} (h : Sp r p w fz fn sz sn) (hg : ¬ fz + sz ≤ r + az p fn sn w r) (k : Nat) (hk : 10 ≤ k) : grid_Config_Witnesses.f k r p w fz fn sz sn = some (w : Int) := by
  unfold grid_Config_Witnesses.f
  rw [good_eq h k hk, decide_eq_true hg]
  simp
theorem i64_and15 (n : Int) : bits .and .i64 n 15 = n % 16 := by
  have h127 : (BitVec.ofInt 64 15).toNat = 2 ^ 4 - 1 := by decide
  have key : (BitVec.ofInt 64 n &&& BitVec.ofInt 64 15).toNat = (n % ((2 ^ 64 : Nat) : Int)).toNat % 2 ^ 4 := by
    rw [BitVec.toNat_and, BitVec.toNat_ofInt, h127, Nat.and_two_pow_sub_one_eq_mod]
  show IntKind.i64.wrap ((BitVec.ofInt 64 n &&& BitVec.ofInt 64 15).toNat : Nat) = n % 16
  rw [key, IntKind.wrap_i64]
  omega
theorem small_arg (n : Int) (q : Nat) (h1 : 1 ≤ q) (h2 : q ≤ 16) : ∃ m : Nat, 1 ≤ m ∧ m ≤ q ∧ wrap64 (1 + Int.tmod (bits .and .i64 n 15) (q : Int)) = (m : Int) := by
  rw [i64_and15, Int.tmod_eq_emod_of_nonneg (by omega)]
  have a1 : 0 ≤ n % 16 % (q : Int) := Int.emod_nonneg _ (by omega)
  have a2 : n % 16 % (q : Int) < q := Int.emod_lt_of_pos _ (by omega)
  refine ⟨1 + (n % 16 % (q : Int)).toNat, by omega, by omega, ?_⟩
  rw [w64 (by omega) (by omega)]; omega
theorem small_eq (a0 a1 a3 a4 a5 a6 : Int) (a2 : Nat) (h2 : a2 < 4294967296) : ∃ r p w fz fn sz sn : Nat, Sp r p w fz fn sz sn ∧ r ≤ 3 ∧ p ≤ 3 ∧
    chatelainelaw07_Small.f a0 a1 a2 a3 a4 a5 a6 = some ((r : Int), (p : Int), (w : Int), (fz : Int), (fn : Int), (sz : Int), (sn : Int)) := by
  obtain ⟨r, r1, r3, hr⟩ := small_arg a0 3 (by decide) (by decide)
  obtain ⟨p, p1, p3, hp⟩ := small_arg a1 3 (by decide) (by decide)
  obtain ⟨fz, fz1, fz3, hfz⟩ := small_arg a3 r (by omega) (by omega)
  obtain ⟨fn, fn1, fn3, hfn⟩ := small_arg a4 p (by omega) (by omega)
  obtain ⟨sz, sz1, sz3, hsz⟩ := small_arg a5 r (by omega) (by omega)
  obtain ⟨sn, sn1, sn3, hsn⟩ := small_arg a6 p (by omega) (by omega)
  have hm := Nat.mul_le_mul r3 p3
  have h16 := pow_le16 (n := r * p) (by omega)
  have hpos := Nat.two_pow_pos (r * p)
  refine ⟨r, p, a2 % 2 ^ (r * p), fz, fn, sz, sn, ⟨r1, by omega, p1, by omega, by omega, fz1, fz3, fn1, fn3, sz1, sz3, sn1, sn3, Nat.mod_lt _ hpos⟩, r3, p3, ?_⟩
  have hr' : wrap64 (1 + Int.tmod (bits .and .i64 a0 15) 3) = (r : Int) := hr
  have hp' : wrap64 (1 + Int.tmod (bits .and .i64 a1 15) 3) = (p : Int) := hp
  unfold chatelainelaw07_Small.f
  rw [hr', hp', hfz, hfn, hsz, hsn, show ((r : Int) * (p : Int)) = ((r * p : Nat) : Int) from by simp, w64 (by omega) (by omega), if_pos (by omega), if_neg (by omega), if_neg (by omega), shl_one (by omega), show (((2 ^ (r * p) : Nat) : Int) - 1) % 4294967296 = ((2 ^ (r * p) - 1 : Nat) : Int) from by omega, u32_and_nat _ _ h2 (by omega), Nat.and_two_pow_sub_one_eq_mod]
theorem law_true (a0 a1 a3 a4 a5 a6 : Int) (a2 : Nat) (h2 : a2 < 4294967296) (a : Nat) (ha : a < 4294967296) (b : Nat) (hb : b < 4294967296) (k : Nat) (hk : 6000 ≤ k) : chatelainelaw07_GridMeets.f k a0 a1 a2 a3 a4 a5 a6 a b = some true := by
  obtain ⟨r, p, w, fz, fn, sz, sn, h, r3, p3, e⟩ := small_eq a0 a1 a3 a4 a5 a6 a2 h2
  have hn := h.n
  have h16 := pow_le16 (n := r * p) (by omega)
  have hpos := Nat.two_pow_pos (r * p)
  have hw : w < 2 ^ 32 := by have := h.w; omega
  have hk' : chatelainelaw07_awake.f k = some true := at_rounds (g := chatelainelaw07_awake.f) chatelainelaw07_awake.mono (show 60 ≤ k by omega) (by decide +kernel)
  have f1 : 10 ≤ k := by omega
  have f2 : r * p ≤ 16 := by omega
  unfold chatelainelaw07_GridMeets.f
  rw [hk', Option.bind_some, if_pos rfl, e, Option.bind_some]
  unfold chatelainelaw07_Own.f
  rw [Option.bind_some, check_eq h k f1, Option.bind_some]
  by_cases hg : fz + sz ≤ r + az p fn sn w r
  · rw [if_pos hg, if_neg (by decide)]
    unfold grid_Config_IsFirst.f
    rw [meets_no h hg _ _ _ k f1]; rfl
  · rw [if_neg hg, if_pos rfl, first_eq h hg a ha k f1, Option.bind_some, second_eq h hg b hb k f1, Option.bind_some]
    by_cases h1 : fz ≤ qz p fn a r
    · rw [decide_eq_true h1, if_pos rfl]
      by_cases h3 : sz ≤ qz p sn b r
      · have hm := meets_math h.p1 h.p4 f2 hw hg h1 h3
        have l1 : a &&& b ≤ a := Nat.and_le_left
        have l2 : a &&& b &&& (2 ^ (r * p) - 1) ≤ a &&& b := Nat.and_le_left
        rw [decide_eq_true h3, if_pos rfl, all_eq h hg k f1, Option.bind_some, wit_eq h hg k f1, Option.bind_some, u32_and_nat a b ha hb, u32_and_nat _ _ (by omega) (by omega), u32_andNot_nat _ _ (by omega) (by omega)]
        congr 1
        exact bne_iff_ne.2 (by omega)
      · rw [decide_eq_false h3, if_neg (by decide)]
    · rw [decide_eq_false h1, if_neg (by decide)]

end Go.Proofs.Ytbldphmnpangiaa.GridRefGridMeets
