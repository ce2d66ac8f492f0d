/- The contracts of the drift functions (Check, Longer, Shorter, Fits, Near, awake) at all arguments; no conditions beyond those that each theorem names. -/
import Derived.Test.YtllagimocmdldaaPDriftRisesx1
import Derived.Lib.Hide
namespace Go.Proofs.Ytllagimocmdldaa
open Go.RowKit PDriftRises Go.Proofs.YtllagimocmdldaaW.PrintWords Go.Proofs.YtllagimocmdldaaW.PrintMore
/-- A block of this call's own, as it stands. -/
def Bx (w : World) (B : Nat) (cs : List Value) : Prop := B < w.heap.size ∧ ∀ i v, cs[i]? = some v → w.cell? ⟨B, i, none⟩ = some v
theorem Bx.keep {w w' : World} {B : Nat} {cs : List Value} (h : Bx w B cs) (hb : Below w.heap.size w w') : Bx w' B cs :=
  ⟨Nat.lt_of_lt_of_le h.1 hb.size, fun i v hi => (hb.cell (p := ⟨B, i, none⟩) h.1).trans (h.2 i v hi)⟩
theorem Bx.alloc {w : World} {B : Nat} {cs : List Value} (h : Bx w B cs) (o : Obj) : Bx (w.alloc o) B cs :=
  h.keep ((Below.refl _ _).alloc (Nat.le_refl _) o)
theorem Bx.at {w : World} {B : Nat} {cs : List Value} (h : Bx w B cs) (i : Nat) {v : Value} (hi : cs[i]? = some v) : w.cell? ⟨B, i, none⟩ = some v := h.2 i v hi
theorem Bx.mk' {w : World} {cs : Array Value} {t : TypeId} : Bx (w.alloc (.cells cs t)) w.heap.size cs.toList :=
  ⟨by simp, fun i v hi => by rw [World.cell?_alloc_at _ _ _ _ rfl]; simpa using hi⟩
theorem bstep {w a b : World} (h : Below w.heap.size w a) (k : Below a.heap.size a b) : Below w.heap.size w b := h.trans (k.mono h.size)
theorem balloc {w a : World} (h : Below w.heap.size w a) (o : Obj) : Below w.heap.size w (a.alloc o) := h.alloc h.size o
theorem ofDrawn {P : Program} {f : FuncId} {as_ : Array Value} {r : Ending} {w : World} (h : Calls P f as_ w fun e w' => e = r ∧ Drawn0 w w') : Calls P f as_ w fun e w' => e = r ∧ Below w.heap.size w w' :=
  h.mono fun e w' ⟨a, b⟩ => ⟨a, by obtain ⟨n, hn⟩ := b.out; rw [hn]; exact pw_below_drewN (Below.refl _ _) n⟩
/-- A call that hands back just that value, whatever the world, and turns nothing that was there. -/
def Gives (P : Program) (f : FuncId) (as_ : Array Value) (v : Value) : Prop := ∀ w : World, Calls P f as_ w fun e w' => e = .returned v ∧ Below w.heap.size w w'
theorem Gives.at {P : Program} {f : FuncId} {as_ : Array Value} {v : Value} (h : Gives P f as_ v) (w : World) : Calls P f as_ w fun e w' => e = .returned v ∧ Below w.heap.size w w' := h w
theorem Gives.of {P : Program} {f : FuncId} {as_ : Array Value} {v v' : Value} (h : Gives P f as_ v) (e : v = v') : Gives P f as_ v' := e ▸ h
theorem mxmn (x c : Int) (hc : 0 ≤ c) : ∃ m t : Int, (if c < x then c else x) = m ∧ (if 0 < m then m else 0) = t ∧ 0 ≤ t ∧ t ≤ c ∧ (0 ≤ x → x ≤ c → t = x) ∧ (x ≤ 0 → t = 0) ∧ (c ≤ x → t = c) := by
  refine ⟨_, _, rfl, rfl, ?_⟩
  repeat' split
  all_goals omega
/-- What is kept over a region that draws: nothing of old has turned; one block of the call's own. -/
def Trk (w0 : World) (B : Nat) (cs : List Value) (w' : World) : Prop := Below w0.heap.size w0 w' ∧ Bx w' B cs
theorem Trk.keep {w0 w w' : World} {B : Nat} {cs : List Value} (h : Trk w0 B cs w) (hb : Below w.heap.size w w') : Trk w0 B cs w' := ⟨bstep h.1 hb, h.2.keep hb⟩
theorem Trk.at {w0 w : World} {B : Nat} {cs : List Value} (h : Trk w0 B cs w) (i : Nat) {v : Value} (hi : cs[i]? = some v) : w.cell? ⟨B, i, none⟩ = some v := h.2.at i hi
theorem Trk.drew {w0 w : World} {B : Nat} {cs : List Value} (h : Trk w0 B cs w) : Trk w0 B cs w.drew := h.keep (Below.refl _ _).drew
/-- What is kept over a walk: nothing of old has turned; blocks of the call's own. -/
def Tk (w0 : World) (bs : List (Nat × List Value)) (w : World) : Prop := Below w0.heap.size w0 w ∧ ∀ b, b ∈ bs → Bx w b.1 b.2
theorem Tk.start (w : World) : Tk w [] w := ⟨Below.refl _ _, fun _ h => by simp at h⟩
theorem Tk.keep {w0 w w' : World} {bs : List (Nat × List Value)} (h : Tk w0 bs w) (hb : Below w.heap.size w w') : Tk w0 bs w' := ⟨bstep h.1 hb, fun b m => (h.2 b m).keep hb⟩
theorem Tk.skip {w0 w : World} {bs : List (Nat × List Value)} (h : Tk w0 bs w) (o : Obj) : Tk w0 bs (w.alloc o) := h.keep ((Below.refl _ _).alloc (Nat.le_refl _) o)
theorem Tk.drewN {w0 w : World} {bs : List (Nat × List Value)} (h : Tk w0 bs w) (n : Nat) : Tk w0 bs (w.drewN n) := h.keep (pw_below_drewN (Below.refl _ _) n)
theorem Tk.drew {w0 w : World} {bs : List (Nat × List Value)} (h : Tk w0 bs w) : Tk w0 bs w.drew := h.keep (Below.refl _ _).drew
theorem Tk.alloc {w0 w : World} {bs : List (Nat × List Value)} (h : Tk w0 bs w) (cs : Array Value) (t : TypeId) : Tk w0 ((w.heap.size, cs.toList) :: bs) (w.alloc (.cells cs t)) :=
  ⟨(h.skip _).1, fun b m => by
    rcases List.mem_cons.1 m with rfl | m
    · exact Bx.mk'
    · exact (h.skip _).2 b m⟩
theorem Tk.at {w0 w : World} {bs : List (Nat × List Value)} (h : Tk w0 bs w) (j i : Nat) {B : Nat} {cs : List Value} {v : Value} (hj : bs[j]? = some (B, cs)) (hi : cs[i]? = some v) : w.cell? ⟨B, i, none⟩ = some v :=
  (h.2 (B, cs) (List.mem_of_getElem? hj)).at i hi
theorem w64 {x : Int} (h : -9223372036854775808 ≤ x) (h2 : x ≤ 9223372036854775807) : wrap64 x = x := by unfold wrap64; omega
theorem mul_bd {a b A B : Int} (h0 : 0 ≤ a) (h1 : a ≤ A) (k0 : 0 ≤ b) (k1 : b ≤ B) : 0 ≤ a * b ∧ a * b ≤ A * B :=
  ⟨Int.mul_nonneg h0 k0, Int.mul_le_mul h1 k1 k0 (Int.le_trans h0 h1)⟩
def wn (t : Int) : Int := mx 0 (mn t 1099511627776)
theorem wn_lo (t : Int) : 0 ≤ wn t := by unfold wn mx mn; omega
theorem wn_hi (t : Int) : wn t ≤ 1099511627776 := by unfold wn mx mn; omega
theorem wn_id {t : Int} (h0 : 0 ≤ t) (h1 : t ≤ 1099511627776) : wn t = t := by unfold wn mx mn; omega
theorem within_eq (t : Int) : drift_within.f t = some (wn t) := rfl
/-- A rate that may be. -/
structure Gd (p q : Int) : Prop where
  q1 : 1 ≤ q
  pq : q ≤ p
  p1 : p ≤ 1000
  p4 : p ≤ 4 * q
theorem check_yes {p q : Int} (h : Gd p q) : drift_Rate_Check.f p q = some 0 := by
  obtain ⟨a, b, c, d⟩ := h
  unfold drift_Rate_Check.f
  rw [if_neg (by omega), if_neg (by omega), if_neg (by omega), if_neg (by rw [w64 (by omega) (by omega)]; omega)]
theorem check_no {p q : Int} (h : ¬ Gd p q) : drift_Rate_Check.f p q = some 12 := by
  unfold drift_Rate_Check.f
  by_cases a : q < 1
  · rw [if_pos a]
  rw [if_neg a]
  by_cases b : p < q
  · rw [if_pos b]
  rw [if_neg b]
  by_cases c : p > 1000
  · rw [if_pos c]
  rw [if_neg c, w64 (by omega) (by omega)]
  by_cases d : p > 4 * q
  · rw [if_pos d]
  · exact absurd ⟨by omega, by omega, by omega, by omega⟩ h
theorem longer_yes {p q : Int} (h : Gd p q) (t : Int) : drift_Rate_Longer.f p q t = some ((wn t * p + q - 1) / q) := by
  have hc := check_yes h
  obtain ⟨a, b, c, d⟩ := h
  have h0 := wn_lo t
  have h1 := wn_hi t
  obtain ⟨m0, m1⟩ := mul_bd h0 h1 (b := p) (B := 1000) (by omega) c
  unfold drift_Rate_Longer.f
  rw [within_eq]; simp only [Option.bind_some]
  rw [hc]; simp only [Option.bind_some, if_true]
  rw [if_neg (by omega), w64 (x := wn t * p) (by omega) (by omega), w64 (x := wn t * p + q) (by omega) (by omega), w64 (x := wn t * p + q - 1) (by omega) (by omega),
    Int.tdiv_eq_ediv_of_nonneg (by omega)]
  have e0 : 0 ≤ (wn t * p + q - 1) / q := Int.ediv_nonneg (by omega) (by omega)
  have e1 : (wn t * p + q - 1) / q ≤ wn t * p + q - 1 := Int.ediv_le_self _ (by omega)
  rw [w64 (by omega) (by omega)]
theorem longer_no {p q : Int} (h : ¬ Gd p q) (t : Int) : drift_Rate_Longer.f p q t = some (wn t) := by
  unfold drift_Rate_Longer.f
  rw [within_eq]; simp only [Option.bind_some]
  rw [check_no h]; simp only [Option.bind_some]
  rw [if_neg (by decide)]
theorem shorter_yes {p q : Int} (h : Gd p q) (t : Int) : drift_Rate_Shorter.f p q t = some (wn t * q / p) := by
  have hc := check_yes h
  obtain ⟨a, b, c, d⟩ := h
  have h0 := wn_lo t
  have h1 := wn_hi t
  obtain ⟨m0, m1⟩ := mul_bd h0 h1 (b := q) (B := 1000) (by omega) (by omega)
  unfold drift_Rate_Shorter.f
  rw [within_eq]; simp only [Option.bind_some]
  rw [hc]; simp only [Option.bind_some, if_true]
  rw [if_neg (by omega), w64 (x := wn t * q) (by omega) (by omega), Int.tdiv_eq_ediv_of_nonneg (by omega)]
  have e0 : 0 ≤ wn t * q / p := Int.ediv_nonneg (by omega) (by omega)
  have e1 : wn t * q / p ≤ wn t * q := Int.ediv_le_self _ (by omega)
  rw [w64 (by omega) (by omega)]
theorem shorter_no {p q : Int} (h : ¬ Gd p q) (t : Int) : drift_Rate_Shorter.f p q t = some (wn t) := by
  unfold drift_Rate_Shorter.f
  rw [within_eq]; simp only [Option.bind_some]
  rw [check_no h]; simp only [Option.bind_some]
  rw [if_neg (by decide)]
theorem c15 (w : World) : Calls Try.prog 15 #[] w fun e w' => e = .returned (.bool true) ∧ Below w.heap.size w w' := chatelainelaw04_awake.calls true w (by decide +kernel)
theorem c16y {p q : Int} (h : Gd p q) (w : World) : Calls Try.prog 16 #[.agg #[.int .i64 p, .int .i64 q]] w fun e w' => e = .returned (.int .i64 0) ∧ Below w.heap.size w w' := drift_Rate_Check.calls p q 0 w (check_yes h)
theorem c16n {p q : Int} (h : ¬ Gd p q) (w : World) : Calls Try.prog 16 #[.agg #[.int .i64 p, .int .i64 q]] w fun e w' => e = .returned (.int .i64 12) ∧ Below w.heap.size w w' := drift_Rate_Check.calls p q 12 w (check_no h)
theorem c18y {p q : Int} (h : Gd p q) (t : Int) (w : World) : Calls Try.prog 18 #[.agg #[.int .i64 p, .int .i64 q], .int .i64 t] w fun e w' => e = .returned (.int .i64 ((wn t * p + q - 1) / q)) ∧ Below w.heap.size w w' := drift_Rate_Longer.calls p q t _ w (longer_yes h t)
theorem c18n {p q : Int} (h : ¬ Gd p q) (t : Int) (w : World) : Calls Try.prog 18 #[.agg #[.int .i64 p, .int .i64 q], .int .i64 t] w fun e w' => e = .returned (.int .i64 (wn t)) ∧ Below w.heap.size w w' := drift_Rate_Longer.calls p q t _ w (longer_no h t)
theorem c20y {p q : Int} (h : Gd p q) (t : Int) (w : World) : Calls Try.prog 20 #[.agg #[.int .i64 p, .int .i64 q], .int .i64 t] w fun e w' => e = .returned (.int .i64 (wn t * q / p)) ∧ Below w.heap.size w w' := drift_Rate_Shorter.calls p q t _ w (shorter_yes h t)
theorem c20n {p q : Int} (h : ¬ Gd p q) (t : Int) (w : World) : Calls Try.prog 20 #[.agg #[.int .i64 p, .int .i64 q], .int .i64 t] w fun e w' => e = .returned (.int .i64 (wn t)) ∧ Below w.heap.size w w' := drift_Rate_Shorter.calls p q t _ w (shorter_no h t)

end Go.Proofs.Ytllagimocmdldaa
