/- The machine's heap and the model's world: which stands for which; no conditions. -/
import Derived.Test.YtgekngfnhhdamaaM3
import Derived.Deep.MidRow
import Derived.Deep.AppendSrc
set_option linter.unusedVariables false
set_option linter.unusedSimpArgs false
namespace Go.Proofs.YtgekngfnhhdamaaM
open Go

/-- Where a block lies: the model's block, from where on, how many cells are its own. -/
structure Pl where
  blk : Nat
  off : Nat
  room : Nat
abbrev Mp := Id → Option Pl
def at_ (b o : Nat) : Addr := ⟨b, o, none⟩
mutual
def VR (μ : Mp) : AV → Value → Prop
  | .und, _ => True
  | .bool b, v => v = .bool b
  | .int k n, v => v = .int k n
  | .str s, v => v = .string s
  | .nilp, v => v = .pointer none
  | .ptr i o, v => ∃ p, μ i = some p ∧ v = .pointer (some (at_ p.blk (p.off + o)))
  | .nils, v => v = .slice none 0 0
  | .slc i o n sz, v => ∃ p a cap, μ i = some p ∧ v = .slice (some a) n cap ∧ n ≤ cap ∧ o + cap * sz ≤ p.room ∧ (a = at_ p.blk (p.off + o) ∨ cap = 0)
  | .slk i o n sz c x, v => ∃ p a cap, μ i = some p ∧ v = .slice (some a) n cap ∧ n ≤ cap ∧ o + cap * sz ≤ p.room ∧ (a = at_ p.blk (p.off + o) ∨ cap = 0) ∧ c ≤ cap ∧ (x = true → cap = c)
  | .agg l, v => ∃ cs : Array Value, v = .agg cs ∧ VRs μ l cs.toList
  | .tup l, v => ∃ cs : Array Value, v = .tuple cs ∧ VRs μ l cs.toList
  | .nilI, v => v = .nilIface
  | .iface t x, v => ∃ y, v = .iface t y ∧ VR μ x y
  | .nilF, v => v = .nilFunc
  | .func f a b, v => ∃ c d : Array Value, v = .func (.func f) c d ∧ VRs μ a c.toList ∧ VRs μ b d.toList
def VRs (μ : Mp) : List AV → List Value → Prop
  | [], l => l = []
  | a :: as, l => ∃ v vs, l = v :: vs ∧ VR μ a v ∧ VRs μ as vs
end
def Ext (μ μ' : Mp) : Prop := ∀ i p, μ i = some p → μ' i = some p
theorem Ext.refl (μ : Mp) : Ext μ μ := fun _ _ h => h
theorem Ext.trans {a b c : Mp} (h : Ext a b) (h' : Ext b c) : Ext a c := fun i p e => h' i p (h i p e)
mutual
theorem VR.ext {μ μ' : Mp} (he : Ext μ μ') : ∀ {a : AV} {v : Value}, VR μ a v → VR μ' a v
  | .und, _, h => by simp only [VR] at h ⊢
  | .bool _, _, h => by simp only [VR] at h ⊢; exact h
  | .int _ _, _, h => by simp only [VR] at h ⊢; exact h
  | .str _, _, h => by simp only [VR] at h ⊢; exact h
  | .nilp, _, h => by simp only [VR] at h ⊢; exact h
  | .nils, _, h => by simp only [VR] at h ⊢; exact h
  | .nilI, _, h => by simp only [VR] at h ⊢; exact h
  | .nilF, _, h => by simp only [VR] at h ⊢; exact h
  | .ptr i o, _, h => by simp only [VR] at h ⊢; obtain ⟨p, h1, h2⟩ := h; exact ⟨p, he _ _ h1, h2⟩
  | .slc _ _ _ _, _, h => by simp only [VR] at h ⊢; obtain ⟨p, a, cap, h1, h2⟩ := h; exact ⟨p, a, cap, he _ _ h1, h2⟩
  | .slk _ _ _ _ _ _, _, h => by simp only [VR] at h ⊢; obtain ⟨p, a, cap, h1, h2⟩ := h; exact ⟨p, a, cap, he _ _ h1, h2⟩
  | .agg l, _, h => by simp only [VR] at h ⊢; obtain ⟨cs, h1, h2⟩ := h; exact ⟨cs, h1, VRs.ext he h2⟩
  | .tup l, _, h => by simp only [VR] at h ⊢; obtain ⟨cs, h1, h2⟩ := h; exact ⟨cs, h1, VRs.ext he h2⟩
  | .iface t x, _, h => by simp only [VR] at h ⊢; obtain ⟨y, h1, h2⟩ := h; exact ⟨y, h1, VR.ext he h2⟩
  | .func f a b, _, h => by simp only [VR] at h ⊢; obtain ⟨c, d, h1, h2, h3⟩ := h; exact ⟨c, d, h1, VRs.ext he h2, VRs.ext he h3⟩
theorem VRs.ext {μ μ' : Mp} (he : Ext μ μ') : ∀ {a : List AV} {v : List Value}, VRs μ a v → VRs μ' a v
  | [], _, h => by simp only [VRs] at h ⊢; exact h
  | a :: as, _, h => by simp only [VRs] at h ⊢; obtain ⟨v, vs, h1, h2, h3⟩ := h; exact ⟨v, vs, h1, VR.ext he h2, VRs.ext he h3⟩
end
section
variable {μ : Mp}
theorem VRs.nil : VRs μ [] [] := by simp [VRs]
theorem VRs.cons {a : AV} {v : Value} {as : List AV} {vs : List Value} (h : VR μ a v) (h' : VRs μ as vs) : VRs μ (a :: as) (v :: vs) := by simp only [VRs]; exact ⟨v, vs, rfl, h, h'⟩
theorem VRs.cons_inv {a : AV} {as : List AV} {l : List Value} (h : VRs μ (a :: as) l) : ∃ v vs, l = v :: vs ∧ VR μ a v ∧ VRs μ as vs := by simpa only [VRs] using h
theorem VRs.nil_inv {l : List Value} (h : VRs μ [] l) : l = [] := by simpa only [VRs] using h
theorem VRs.length : ∀ {as : List AV} {vs : List Value}, VRs μ as vs → as.length = vs.length
  | [], _, h => by rw [h.nil_inv]; rfl
  | a :: as, _, h => by obtain ⟨v, vs, rfl, _, h3⟩ := h.cons_inv; simp [VRs.length h3]
theorem VRs.append : ∀ {as bs : List AV} {us vs : List Value}, VRs μ as us → VRs μ bs vs → VRs μ (as ++ bs) (us ++ vs)
  | [], _, _, _, h, h' => by rw [h.nil_inv]; exact h'
  | a :: as, _, _, _, h, h' => by obtain ⟨v, vs, rfl, h2, h3⟩ := h.cons_inv; exact .cons h2 (VRs.append h3 h')
theorem VRs.drop : ∀ {as : List AV} {vs : List Value} (n : Nat), VRs μ as vs → VRs μ (as.drop n) (vs.drop n)
  | as, vs, 0, h => by simpa using h
  | [], _, n + 1, h => by rw [h.nil_inv]; exact .nil
  | a :: as, _, n + 1, h => by obtain ⟨v, vs, rfl, h2, h3⟩ := h.cons_inv; exact VRs.drop n h3
theorem VRs.take : ∀ {as : List AV} {vs : List Value} (n : Nat), VRs μ as vs → VRs μ (as.take n) (vs.take n)
  | as, vs, 0, h => by simpa using VRs.nil
  | [], _, n + 1, h => by rw [h.nil_inv]; exact .nil
  | a :: as, _, n + 1, h => by obtain ⟨v, vs, rfl, h2, h3⟩ := h.cons_inv; exact .cons h2 (VRs.take n h3)
theorem VRs.get : ∀ {as : List AV} {vs : List Value} {i : Nat} {a : AV}, VRs μ as vs → as[i]? = some a → ∃ v, vs[i]? = some v ∧ VR μ a v
  | [], _, _, _, h, e => by simp at e
  | a :: as, _, 0, _, h, e => by obtain ⟨v, vs, rfl, h2, h3⟩ := h.cons_inv; simp at e; subst e; exact ⟨v, rfl, h2⟩
  | a :: as, _, i + 1, _, h, e => by obtain ⟨v, vs, rfl, h2, h3⟩ := h.cons_inv; simp at e; simpa using VRs.get h3 e
theorem VRs.set : ∀ {as : List AV} {vs : List Value} {a : AV} {v : Value} (i : Nat), VRs μ as vs → VR μ a v → VRs μ (as.set i a) (vs.set i v)
  | [], _, _, _, _, h, e => by rw [h.nil_inv]; exact .nil
  | a :: as, _, _, _, 0, h, e => by obtain ⟨v, vs, rfl, h2, h3⟩ := h.cons_inv; exact .cons e h3
  | a :: as, _, _, _, i + 1, h, e => by obtain ⟨v, vs, rfl, h2, h3⟩ := h.cons_inv; exact .cons h2 (VRs.set i h3 e)
theorem VRs.replicate {a : AV} {v : Value} (h : VR μ a v) : ∀ n, VRs μ (List.replicate n a) (List.replicate n v)
  | 0 => .nil
  | n + 1 => .cons h (VRs.replicate h n)
theorem VRs.map {α : Type} {f : α → AV} {g : α → Value} (h : ∀ x, VR μ (f x) (g x)) : ∀ l : List α, VRs μ (l.map f) (l.map g)
  | [] => .nil
  | x :: l => .cons (h x) (VRs.map h l)
theorem VR.und (v : Value) : VR μ .und v := by simp [VR]
theorem VR.undef : VR μ (.tup []) undef := by simp only [VR]; exact ⟨#[], rfl, .nil⟩
theorem VR.scalar {a : AV} {v : Value} (h : VR μ a v) (hs : a.scalar = true) : v.oneCell' = true := by
  cases a <;> simp only [VR] at h <;> simp only [AV.scalar, Bool.false_eq_true, Bool.true_eq_false] at hs
  all_goals first
    | (subst h; rfl)
    | (obtain ⟨_, _, h⟩ := h; subst h; rfl)
    | (obtain ⟨_, h, _⟩ := h; subst h; rfl)
    | (obtain ⟨_, _, _, _, h, _⟩ := h; subst h; rfl)
    | (obtain ⟨_, _, h, _⟩ := h; subst h; rfl)
theorem VR.fg {a : AV} {v : Value} (h : VR μ a v) : VR μ a.fg v := by
  cases a <;> first | exact h | skip
  simp only [AV.fg, VR] at h ⊢
  obtain ⟨p, a, cap, h1, h2, h3, h4, h5, _⟩ := h
  exact ⟨p, a, cap, h1, h2, h3, h4, h5⟩
theorem VRs.scalars : ∀ {as : List AV} {vs : List Value}, VRs μ as vs → as.all AV.scalar = true → ∀ v ∈ vs, v.oneCell' = true
  | [], _, h, _ => by rw [h.nil_inv]; simp
  | a :: as, _, h, e => by
    obtain ⟨v, vs, rfl, h2, h3⟩ := h.cons_inv
    simp at e
    intro x hx
    rcases List.mem_cons.1 hx with rfl | hx
    · exact VR.scalar h2 e.1
    · exact VRs.scalars h3 (by simpa using e.2) x hx
theorem VR.cells {a : AV} {v : Value} (h : VR μ a v) (hs : a.cells.all AV.scalar = true) : VRs μ a.cells v.cells.toList := by
  cases a with
  | agg l => simp only [VR] at h; obtain ⟨cs, rfl, h2⟩ := h; exact h2
  | _ =>
    simp only [AV.cells] at hs ⊢
    have h1 := h.scalar (by simpa using hs)
    have : v.cells = #[v] := by cases v <;> simp_all [Value.cells, Value.oneCell']
    rw [this]
    exact .cons h .nil
theorem VRs.putL : ∀ {ls : List AV} {us : List Value} {as : List AV} {vs : List Value} (o : Nat), VRs μ as vs → VRs μ ls us → ∃ ws, ws = putL vs o us ∧ VRs μ (putL as o ls) ws ∧ ws.length = vs.length ∧ (∀ j, j < o ∨ o + us.length ≤ j → ws[j]? = vs[j]?) ∧ (∀ j, o + j < vs.length → j < us.length → ws[o + j]? = us[j]?)
  | [], _, as, vs, o, h, h' => by rw [h'.nil_inv]; exact ⟨vs, rfl, h, rfl, fun _ _ => rfl, fun j _ hj => absurd hj (by simp)⟩
  | a :: ls, _, as, vs, o, h, h' => by
    obtain ⟨v, us, rfl, h2, h3⟩ := h'.cons_inv
    obtain ⟨ws, k0, k1, k2, k3, k4⟩ := VRs.putL (o + 1) (h.set o h2) h3
    refine ⟨ws, k0, k1, by simpa using k2, fun j hj => ?_, fun j hj hl => ?_⟩
    · simp only [List.length_cons] at hj
      rw [k3 j (by omega), List.getElem?_set_ne (by omega)]
    · cases j with
      | zero =>
        have hj0 : o < vs.length := by omega
        rw [k3 (o + 0) (.inl (by omega))]; simp [hj0]
      | succ j =>
        have := k4 j (by simp; omega) (by simpa using hl)
        rw [show o + (j + 1) = o + 1 + j by omega, this]; simp
end
theorem putL_length {α : Type} : ∀ (l cs : List α) (o : Nat), (putL cs o l).length = cs.length
  | [], _, _ => rfl
  | a :: l, cs, o => by simp [putL, putL_length l]

theorem cells_ne {μ : Mp} {cells : List AV} {vs : List Value} (h : VRs μ cells vs) {j : Nat} {v : Value} (hv : vs[j]? = some v) : cells ≠ [] := fun e => by
  rw [e] at h; rw [h.nil_inv] at hv; cases hv
structure Lies (w0 : World) (μ : Mp) (w : World) (p : Pl) (b : Blk) : Prop where
  lt : (b.own = true ∨ b.cells ≠ []) → p.blk < w.heap.size
  vs : ∃ vs, VRs μ b.cells vs ∧ w.rangeAt p.blk p.off vs
  len : b.cells.length ≤ p.room
  own : b.own = true → w0.heap.size ≤ p.blk ∧ w.there p.blk p.off p.room
  ro : b.own = false → b.cells ≠ [] → p.blk < w0.heap.size
def Off (p q : Pl) : Prop := p.blk ≠ q.blk ∨ p.off + p.room ≤ q.off ∨ q.off + q.room ≤ p.off
structure Rel (w0 : World) (μ : Mp) (h : AH) (w : World) : Prop where
  below : RowKit.Below w0.heap.size w0 w
  blk : ∀ i p b, μ i = some p → h i = some b → Lies w0 μ w p b
  sep : ∀ i j p q b c, i ≠ j → μ i = some p → μ j = some q → h i = some b → h j = some c → b.own = true → c.own = true → Off p q
  tot : ∀ i, μ i = none → h i = none
/-- The world, some answers having been drawn. -/
theorem Lies.drew {w0 w : World} {μ : Mp} {p : Pl} {b : Blk} (h : Lies w0 μ w p b) : Lies w0 μ w.drew p b := ⟨h.lt, h.vs, h.len, h.own, h.ro⟩
theorem Rel.drew {w0 w : World} {μ : Mp} {h : AH} (r : Rel w0 μ h w) : Rel w0 μ h w.drew :=
  ⟨r.below.drew, fun i p b h1 h2 => (r.blk i p b h1 h2).drew, r.sep, r.tot⟩
/-- A new name for a place. -/
def Mp.set (μ : Mp) (i : Id) (p : Pl) : Mp := fun j => if j = i then some p else μ j
theorem Mp.set_ext {μ : Mp} {i : Id} {p : Pl} (h : μ i = none) : Ext μ (μ.set i p) := fun j q e => by
  simp only [Mp.set]
  split
  · rename_i hj; subst hj; rw [h] at e; cases e
  · exact e
/-- No name that 'i' may take is taken. -/
def MFree (i : Id) (μ : Mp) : Prop := ∀ j, i <:+ j → μ j = none
def MDom (i : Id) (μ μ' : Mp) : Prop := ∀ j, μ' j ≠ none → μ j ≠ none ∨ i <:+ j
theorem MDom.refl (i : Id) (μ : Mp) : MDom i μ μ := fun _ h => .inl h
theorem MDom.set (i : Id) (μ : Mp) (p : Pl) : MDom i μ (μ.set i p) := fun j hj => by
  simp only [Mp.set] at hj
  split at hj
  · rename_i e; subst e; exact .inr (List.suffix_refl _)
  · exact .inl hj
/-- The model makes a block. -/
theorem Rel.alloc {w0 w : World} {μ : Mp} {h : AH} (r : Rel w0 μ h w) {i : Id} (hi : μ i = none) (cs : Array Value) (e : TypeId) (fz : Nat × Nat) (hfz : fz = (0, 0) ∨ cs.size ≤ fz.1) {cells : List AV} {vs : List Value} (hv : VRs μ cells vs) (hl : vs.length ≤ cs.size) (hcs : ∀ (j : Nat) v, vs[j]? = some v → cs[j]? = some v) :
    Rel w0 (μ.set i ⟨w.heap.size, 0, cs.size⟩) (h.set i (some ⟨true, cells⟩)) (w.alloc (.cells cs e fz)) := by
  have hx := Mp.set_ext (p := ⟨w.heap.size, 0, cs.size⟩) hi
  have hold : ∀ j, j < w.heap.size → (w.alloc (.cells cs e fz)).heap[j]? = w.heap[j]? := fun j hj => RowKit.Below.heap_alloc w _ j hj
  have hnew : (w.alloc (.cells cs e fz)).heap[w.heap.size]? = some (.cells cs e fz) := by show (w.heap.push _)[w.heap.size]? = _; simp
  refine ⟨r.below.alloc r.below.size _, fun j p b h1 h2 => ?_, fun j k p q b c hjk h1 h2 h3 h4 hb hc => ?_, fun j hj => ?_⟩
  rotate_left 2
  · simp only [Mp.set] at hj; simp only [AH.set]; split at hj
    · cases hj
    · rename_i e1; rw [if_neg e1]; exact r.tot _ hj
  · simp only [Mp.set] at h1
    simp only [AH.set] at h2
    split at h1
    · rename_i hj
      rw [if_pos hj] at h2
      cases h1; cases h2
      refine ⟨fun _ => by show w.heap.size < (w.heap.push _).size; simp, ⟨vs, hv.ext hx, fun j v hv' => ?_⟩, ?_, fun _ => ⟨r.below.size, fun j hj => ?_⟩, fun h => by cases h⟩
      · show World.cell? _ _ = _
        simp only [World.cell?, hnew, Nat.zero_add]
        exact hcs j v hv'
      · rw [hv.length]; exact hl
      · simp only [World.cell?, World.frozen?, hnew, Nat.zero_add]
        have hj' : j < cs.size := hj
        refine ⟨by simp [hj'], ?_⟩
        obtain ⟨lo, hi⟩ := fz
        rcases hfz with e | e
        · cases e; simp
        · simp only at e; simp; omega
    · rename_i hj
      rw [if_neg hj] at h2
      have l := r.blk j p b h1 h2
      obtain ⟨vs', k1, k2⟩ := l.vs
      have hc : (b.own = true ∨ b.cells ≠ []) → ∀ o, (w.alloc (.cells cs e fz)).cell? ⟨p.blk, o, none⟩ = w.cell? ⟨p.blk, o, none⟩ := fun hh o => World.cell?_of_block (w := w) (hold p.blk (l.lt hh))
      have hf : (b.own = true ∨ b.cells ≠ []) → ∀ o, (w.alloc (.cells cs e fz)).frozen? ⟨p.blk, o, none⟩ = w.frozen? ⟨p.blk, o, none⟩ := fun hh o => World.frozen?_of_block (w := w) (hold p.blk (l.lt hh))
      refine ⟨fun hh => by have := l.lt hh; show p.blk < (w.heap.push _).size; simp; omega, ⟨vs', k1.ext hx, fun j v hv' => by rw [hc (.inr (cells_ne k1 hv'))]; exact k2 j v hv'⟩, l.len, fun ho => ⟨(l.own ho).1, fun j hj => by rw [hc (.inl ho), hf (.inl ho)]; exact (l.own ho).2 j hj⟩, l.ro⟩
  · simp only [Mp.set] at h1 h2
    simp only [AH.set] at h3 h4
    split at h1
    · rename_i e1
      rw [if_neg (fun e2 => hjk (e1.trans e2.symm))] at h2 h4
      cases h1
      exact .inl (Nat.ne_of_gt ((r.blk _ _ _ h2 h4).lt (.inl hc)))
    · rename_i e1
      rw [if_neg e1] at h3
      split at h2
      · rename_i e2
        rw [if_pos e2] at h4
        cases h2
        exact .inl (Nat.ne_of_lt ((r.blk _ _ _ h1 h3).lt (.inl hb)))
      · rename_i e2
        rw [if_neg e2] at h4
        exact r.sep _ _ _ _ _ _ hjk h1 h2 h3 h4 hb hc
/-- A block that is forgotten. -/
theorem Rel.kill {w0 w : World} {μ : Mp} {h : AH} (r : Rel w0 μ h w) (i : Id) : Rel w0 μ (h.set i none) w := by
  refine ⟨r.below, fun j p b h1 h2 => ?_, fun j k p q b c hjk h1 h2 h3 h4 hb hc => ?_, fun j hj => ?_⟩
  rotate_left 2
  · simp only [AH.set]; split
    · rfl
    · exact r.tot _ hj
  · simp only [AH.set] at h2
    split at h2
    · cases h2
    · exact r.blk j p b h1 h2
  · simp only [AH.set] at h3 h4
    split at h3
    · cases h3
    · split at h4
      · cases h4
      · exact r.sep _ _ _ _ _ _ hjk h1 h2 h3 h4 hb hc
theorem below_setCells {B b : Nat} {a : World} (hB : B ≤ b) : ∀ (vs : List Value) (o : Nat) {w : World}, RowKit.Below B a w → RowKit.Below B a (w.setCells b o vs)
  | [], _, _, h => h
  | v :: r, o, w, h => below_setCells hB r (o + 1) (h.setCell (p := ⟨b, o, none⟩) hB v)
theorem setCells_size (b : Nat) : ∀ (vs : List Value) (o : Nat) (w : World), (w.setCells b o vs).heap.size = w.heap.size
  | [], _, _ => rfl
  | v :: r, o, w => by rw [World.setCells, setCells_size b r]; simp [World.setCell]
/-- A store into a block of the machine's own. -/
theorem Rel.put {w0 w : World} {μ : Mp} {h h' : AH} (r : Rel w0 μ h w) {i : Id} {o : Nat} {l : List AV} {us : List Value} {p : Pl} (hp : μ i = some p) (hu : VRs μ l us) (e : h.put i o l = some h') :
    w.there p.blk (p.off + o) us.length ∧ Rel w0 μ h' (w.setCells p.blk (p.off + o) us) := by
  unfold AH.put at e
  split at e
  case h_2 => cases e
  rename_i b hb
  split at e
  case isFalse => cases e
  rename_i hk
  obtain ⟨ho, hlen, hsc⟩ := hk
  cases e
  have L := r.blk i p b hp hb
  have T := (L.own ho).2
  have hlu := hu.length
  have hth : w.there p.blk (p.off + o) us.length := fun j hj => by
    have := T (o + j) (by have := L.len; omega)
    rwa [← Nat.add_assoc] at this
  refine ⟨hth, ?_⟩
  have hin := World.cell?_setCells_in p.blk us (p.off + o) w (fun j hj => (hth j hj).1)
  have hsz : (w.setCells p.blk (p.off + o) us).heap.size = w.heap.size := setCells_size _ _ _ _
  have hcell : ∀ b' o', (b' ≠ p.blk ∨ o' < p.off + o ∨ p.off + o + us.length ≤ o') → (w.setCells p.blk (p.off + o) us).cell? ⟨b', o', none⟩ = w.cell? ⟨b', o', none⟩ := fun b' o' hh => World.cell?_setCells_out _ _ _ _ _ (fun h1 _ => by simp at h1; subst h1; simpa using hh)
  have hfro : ∀ b' o', (w.setCells p.blk (p.off + o) us).frozen? ⟨b', o', none⟩ = w.frozen? ⟨b', o', none⟩ := fun b' o' => World.frozen?_setCells _ _ _ _ _
  have hsome : ∀ b' o', (w.cell? ⟨b', o', none⟩).isSome = true → ((w.setCells p.blk (p.off + o) us).cell? ⟨b', o', none⟩).isSome = true := fun b' o' hh => World.isSome_setCells _ _ _ _ _ hh
  refine ⟨?_, fun j q c h1 h2 => ?_, fun j k q q' c d hjk h1 h2 h3 h4 hc hd => ?_, fun j hj => ?_⟩
  rotate_left 3
  · simp only [AH.set]; split
    · rename_i e1; rw [e1, hp] at hj; cases hj
    · exact r.tot _ hj
  · exact below_setCells (L.own ho).1 _ _ r.below
  · simp only [AH.set] at h2
    split at h2
    · rename_i hj
      subst hj
      rw [hp] at h1
      cases h1; cases h2
      obtain ⟨vs, k1, k2⟩ := L.vs
      obtain ⟨ws, _, m1, m2, m3, m4⟩ := k1.putL o hu
      refine ⟨fun _ => by rw [hsz]; exact L.lt (.inl ho), ⟨ws, m1, fun j v hv => ?_⟩, by rw [putL_length]; exact L.len, fun _ => ⟨(L.own ho).1, fun j hj => ⟨hsome _ _ (T j hj).1, by rw [hfro]; exact (T j hj).2⟩⟩, fun hf => by cases hf⟩
      by_cases hc : j < o ∨ o + us.length ≤ j
      · rw [m3 j hc] at hv
        rw [hcell _ _ (by omega)]; exact k2 j v hv
      · have hj : j < ws.length := (List.getElem?_eq_some_iff.1 hv).1
        have := m4 (j - o) (by omega) (by omega)
        rw [show o + (j - o) = j by omega, hv] at this
        rw [show p.off + j = p.off + o + (j - o) by omega, hin _ (by omega)]
        rw [List.getElem?_eq_getElem (by omega : j - o < us.length)] at this
        exact this.symm
    · have L' := r.blk j q c h1 h2
      obtain ⟨vs, k1, k2⟩ := L'.vs
      refine ⟨fun hh => by rw [hsz]; exact L'.lt hh, ⟨vs, k1, fun x v hv => ?_⟩, L'.len, fun hcw => ⟨(L'.own hcw).1, fun x hx => ⟨hsome _ _ ((L'.own hcw).2 x hx).1, by rw [hfro]; exact ((L'.own hcw).2 x hx).2⟩⟩, L'.ro⟩
      rename_i hj
      rw [hcell]
      · exact k2 x v hv
      · have hx : x < vs.length := (List.getElem?_eq_some_iff.1 hv).1
        have hxl := k1.length
        cases hcw : c.own with
        | true =>
          have := r.sep _ _ _ _ _ _ hj h1 hp h2 hb hcw ho
          have := L.len; have := L'.len
          unfold Off at *
          omega
        | false =>
          have := L'.ro hcw (cells_ne k1 hv); have := (L.own ho).1
          omega
  · simp only [AH.set] at h3 h4
    have g3 : ∃ c', h j = some c' ∧ c'.own = c.own := by
      split at h3
      · rename_i hj; subst hj; cases h3; exact ⟨b, hb, ho⟩
      · exact ⟨c, h3, rfl⟩
    have g4 : ∃ c', h k = some c' ∧ c'.own = d.own := by
      split at h4
      · rename_i hj; subst hj; cases h4; exact ⟨b, hb, ho⟩
      · exact ⟨d, h4, rfl⟩
    obtain ⟨c', g31, g32⟩ := g3
    obtain ⟨d', g41, g42⟩ := g4
    exact r.sep _ _ _ _ _ _ hjk h1 h2 g31 g41 (g32.trans hc) (g42.trans hd)
end Go.Proofs.YtgekngfnhhdamaaM
