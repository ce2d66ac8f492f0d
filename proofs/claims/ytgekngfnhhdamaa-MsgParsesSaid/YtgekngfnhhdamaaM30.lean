/- Words for writers and readers of bytes: what they hold, beside a heap that stays; no conditions beyond those that each theorem names. -/
import Derived.Test.YtgekngfnhhdamaaM29
set_option linter.unusedVariables false
set_option linter.unusedSimpArgs false
namespace Go.Proofs.YtgekngfnhhdamaaM
open Go
theorem nei {h : AH} {i j : List Nat} {b : Blk} (hi : h i = some b) (hj : h j = none) : i ≠ j := fun e => by rw [e, hj] at hi; cases hi
theorem nei' {h : AH} {i j : List Nat} {b : Blk} (hi : h i = some b) (hj : h j = none) : j ≠ i := fun e => nei hi hj e.symm
/-- Bytes as cells. -/
def bc (l : List UInt8) : List AV := l.map fun b => .int .u8 b.toNat
theorem bc_length (l : List UInt8) : (bc l).length = l.length := by simp [bc]
theorem bc_append (l m : List UInt8) : bc (l ++ m) = bc l ++ bc m := by simp [bc]
theorem bc_scalar (l : List UInt8) : (bc l).all AV.scalar = true := by simp [bc, AV.scalar]
theorem bc_one (x : Int) (b : UInt8) (h : x = b.toNat) : [AV.int .u8 x] = bc [b] := by simp [bc, h]
theorem abytes_bc : ∀ l : List UInt8, abytes (bc l) = some l
  | [] => rfl
  | b :: l => by
    show (abytes (bc l)).map (UInt8.ofNat ((b.toNat : Int)).toNat :: ·) = _
    rw [abytes_bc l]; simp
/-- All that is in a heap is in the other one too. -/
def Sub (h0 h : AH) : Prop := ∀ x b, h0 x = some b → h x = some b
theorem Sub.no {h0 h : AH} (hs : Sub h0 h) {x : List Nat} (e : h x = none) : h0 x = none := by
  cases c : h0 x with
  | none => rfl
  | some b => rw [hs x b c] at e; cases e
theorem Sub.set {h0 h : AH} (hs : Sub h0 h) {x : List Nat} (e : h0 x = none) {b : Option Blk} : Sub h0 (h.set x b) := fun y c hy => by
  rw [set_ne (nei hy e)]; exact hs y c hy
theorem Sub.both {h0 h : AH} (hs : Sub h0 h) {x : List Nat} {b : Option Blk} : Sub (h0.set x b) (h.set x b) := fun y c hy => by
  by_cases e : y = x
  · subst e; rw [set_same] at hy ⊢; exact hy
  · rw [set_ne e] at hy ⊢; exact hs y c hy
/-- A slice of bytes (or of none), whose block is not in the base heap and is not p. -/
def Sl (h0 : AH) (p : List Nat) (h : AH) (S : AV) (l : List UInt8) : Prop :=
  S = .nils ∧ l = [] ∨ ∃ i, h0 i = none ∧ i ≠ p ∧ S = .slc i 0 l.length 1 ∧ h i = some ⟨true, bc l⟩
/-- A writer. -/
def Wr (h0 : AH) (p : List Nat) (h : AH) (l : List UInt8) : Prop := Sub h0 h ∧ h0 p = none ∧ ∃ S, h p = some ⟨true, [S]⟩ ∧ Sl h0 p h S l
theorem Wr.start {h0 h : AH} {p : List Nat} (hs : Sub h0 h) (hp : h p = none) : Wr h0 p (h.set p (some ⟨true, [.nils]⟩)) [] :=
  ⟨hs.set (hs.no hp), hs.no hp, _, set_same, .inl ⟨rfl, rfl⟩⟩
theorem Wr.new {h0 h : AH} {p q : List Nat} {l : List UInt8} {b : Option Blk} (hw : Wr h0 p h l) (hq : h q = none) : Wr (h0.set q b) p (h.set q b) l := by
  obtain ⟨hs, hp0, S, hp, hS⟩ := hw
  refine ⟨hs.both, by rw [set_ne (nei hp hq)]; exact hp0, S, by rw [set_ne (nei hp hq)]; exact hp, ?_⟩
  rcases hS with ⟨rfl, rfl⟩ | ⟨i, i1, i2, rfl, i4⟩
  · exact .inl ⟨rfl, rfl⟩
  · exact .inr ⟨i, by rw [set_ne (nei i4 hq)]; exact i1, i2, rfl, by rw [set_ne (nei i4 hq)]; exact i4⟩
/-- A block more that nobody needs. -/
theorem Wr.more {h0 h : AH} {p q : List Nat} {l : List UInt8} {b : Option Blk} (hw : Wr h0 p h l) (hq : h q = none) : Wr h0 p (h.set q b) l := by
  obtain ⟨hs, hp0, S, hp, hS⟩ := hw
  refine ⟨hs.set (hs.no hq), hp0, S, by rw [set_ne (nei hp hq)]; exact hp, ?_⟩
  rcases hS with ⟨rfl, rfl⟩ | ⟨i, i1, i2, rfl, i4⟩
  · exact .inl ⟨rfl, rfl⟩
  · exact .inr ⟨i, i1, i2, rfl, by rw [set_ne (nei i4 hq)]; exact i4⟩
theorem Wr.weak {h0 h1 h : AH} {p : List Nat} {l : List UInt8} (hw : Wr h1 p h l) (hs : Sub h0 h1) : Wr h0 p h l := by
  obtain ⟨h1s, hp0, S, hp, hS⟩ := hw
  refine ⟨fun x b e => h1s x b (hs x b e), hs.no hp0, S, hp, ?_⟩
  rcases hS with h | ⟨i, i1, i2, i3, i4⟩
  · exact .inl h
  · exact .inr ⟨i, hs.no i1, i2, i3, i4⟩
theorem Wr.drop {h0 h : AH} {p q : List Nat} {l : List UInt8} {b : Option Blk} (hw : Wr (h0.set q b) p h l) (hq : h0 q = none) : Wr h0 p h l :=
  hw.weak fun x c e => by rw [set_ne (nei e hq)]; exact e
theorem Wr.get {h0 h : AH} {p x : List Nat} {l : List UInt8} {b : Blk} (hw : Wr h0 p h l) (e : h0 x = some b) : h x = some b := hw.1 x b e
theorem Wr.ne {h0 h : AH} {p x : List Nat} {l : List UInt8} {b : Blk} (hw : Wr h0 p h l) (e : h0 x = some b) : x ≠ p := nei e hw.2.1
/-- What an append leaves, the list being nil. -/
theorem Wr.appN {h0 h h1 : AH} {p i2 : List Nat} {m : List UInt8} (hw : Wr h0 p h []) (hu : ∀ x b, h x = some b → h1 x = some b) (h2 : h1 i2 = none) (cs : List AV) (n : Nat) (hc : cs = bc m) (hn : n = m.length) :
    Wr h0 p ((h1.set i2 (some ⟨true, cs⟩)).set p (some ⟨true, [.slc i2 0 n 1]⟩)) m := by
  obtain ⟨hs, hp0, S, hp, hS⟩ := hw
  have hsn : Sub h0 h1 := fun x b e => hu x b (hs x b e)
  have hpi : p ≠ i2 := nei (hu _ _ hp) h2
  refine ⟨(hsn.set (hsn.no h2)).set hp0, hp0, _, set_same, .inr ⟨i2, hsn.no h2, hpi.symm, by rw [hn], by rw [set_ne hpi.symm, set_same, hc]⟩⟩
/-- What an append leaves, the list's block being i. -/
theorem Wr.appS {h0 h h1 : AH} {p i i2 : List Nat} {l m : List UInt8} (hs : Sub h0 h) (hp0 : h0 p = none) (hp : h p = some ⟨true, [.slc i 0 l.length 1]⟩) (hi0 : h0 i = none) (hip : i ≠ p) (hu : ∀ x b, h x = some b → h1 x = some b) (h2 : h1 i2 = none) (cs : List AV) (n : Nat) (hc : cs = bc l ++ bc m) (hn : n = l.length + m.length) :
    Wr h0 p (((h1.set i none).set i2 (some ⟨true, cs⟩)).set p (some ⟨true, [.slc i2 0 n 1]⟩)) (l ++ m) := by
  have hsn : Sub h0 h1 := fun x b e => hu x b (hs x b e)
  have hpi : p ≠ i2 := nei (hu _ _ hp) h2
  refine ⟨((hsn.set hi0).set (hsn.no h2)).set hp0, hp0, _, set_same, .inr ⟨i2, hsn.no h2, hpi.symm, by rw [hn, List.length_append], by rw [set_ne hpi.symm, set_same, hc, bc_append]⟩⟩
theorem Sl.cells {h0 h : AH} {p : List Nat} {S : AV} {l : List UInt8} (hS : Sl h0 p h S l) : S.cells = [S] ∧ S.scalar = true := by
  rcases hS with ⟨rfl, rfl⟩ | ⟨i, i1, i2, rfl, i4⟩ <;> exact ⟨rfl, rfl⟩
/-- What an append does to a writer's list. -/
theorem app_step {h0 h h1 : AH} {p id : List Nat} {S : AV} {l m : List UInt8} (hw : Wr h0 p h l) (hp : h p = some ⟨true, [S]⟩) (hS : Sl h0 p h S l) (hu : Up h h1) (hid : h1 id = none) (hm : m ≠ []) (hr : l.length + m.length ≤ roomMost) :
    ∃ h2, aapp h1 id 1 1 S m.length (bc m) = some (.slc id 0 (l.length + m.length) 1, h2) ∧ h2 p = some ⟨true, [S]⟩ ∧ Wr h0 p (h2.set p (some ⟨true, [.slc id 0 (l.length + m.length) 1]⟩)) (l ++ m) := by
  have hw' := hw
  obtain ⟨hs, hp0, _, _, _⟩ := hw'
  have hpi : p ≠ id := nei (hu _ _ hp) hid
  have hm0 : m.length ≠ 0 := fun e => hm (List.length_eq_zero_iff.1 e)
  rcases hS with ⟨rfl, rfl⟩ | ⟨i, i1, i2, rfl, i4⟩
  · have e0 : ([] : List UInt8).length + m.length = m.length := by simp
    refine ⟨h1.set id (some ⟨true, bc m⟩), ?_, by rw [set_ne hpi]; exact hu _ _ hp, Wr.appN hw hu hid _ _ rfl e0⟩
    unfold aapp
    rw [if_neg hm0, if_pos (bc_scalar m)]
    have : (bc m).length = m.length * 1 ∧ m.length * 1 ≤ roomMost := ⟨by rw [bc_length]; omega, by omega⟩
    simp only [this, and_self, if_true, e0]
  · have hi1 := hu _ _ i4
    refine ⟨(h1.set i none).set id (some ⟨true, ((bc l).drop 0).take (l.length * 1) ++ bc m⟩), ?_, by rw [set_ne hpi, set_ne i2.symm]; exact hu _ _ hp, Wr.appS hs hp0 hp i1 i2 hu hid _ _ (by rw [List.drop_zero, List.take_of_length_le (by rw [bc_length]; omega)]) rfl⟩
    unfold aapp
    rw [if_neg hm0, if_pos (bc_scalar m)]
    have : 0 + l.length * 1 ≤ (bc l).length ∧ (bc m).length = m.length * 1 ∧ (l.length + m.length) * 1 ≤ roomMost := ⟨by rw [bc_length]; omega, by rw [bc_length]; omega, by omega⟩
    simp only [hi1, this, and_self, if_true]
/-- A number's bytes, the highest first. -/
def be (v : Nat) : Nat → List UInt8
  | 0 => []
  | n + 1 => UInt8.ofNat (v / 256 ^ n) :: be v n
theorem be_length (v : Nat) : ∀ n, (be v n).length = n
  | 0 => rfl
  | n + 1 => by simp [be, be_length v n]
def hd (v : Nat) : Nat × Nat := if v < 252 then (v, 0) else if v < 65536 then (252, 2) else if v < 4294967296 then (253, 4) else (254, 8)
def encU (v : Nat) : List UInt8 := UInt8.ofNat (hd v).1 :: be v (hd v).2
def encN (n : Int) : List UInt8 := encU n.toNat
def encB (b : Bool) : List UInt8 := [if b then 1 else 0]
def encS (s : List UInt8) : List UInt8 := encN s.length ++ s
theorem encU_length (v : Nat) : (encU v).length ≤ 9 := by
  unfold encU hd; simp only [List.length_cons, be_length]; split <;> (try split) <;> (try split) <;> simp
end Go.Proofs.YtgekngfnhhdamaaM
