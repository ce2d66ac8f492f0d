/- Words for the logic: heaps that are written; no conditions. -/
import Derived.Test.YtdehmopdlbdmfaaM25
set_option linter.unusedVariables false
set_option linter.unusedSimpArgs false
namespace Go.Proofs.YtdehmopdlbdmfaaM
open Go

theorem set_same {h : AH} {i : Id} {b : Option Blk} : h.set i b i = b := by simp [AH.set]
theorem set_ne {h : AH} {i j : Id} {b : Option Blk} (hj : j ≠ i) : h.set i b j = h j := by simp [AH.set, hj]
theorem set_none_iff {h : AH} {i j : Id} {b : Blk} : h.set i (some b) j = none ↔ j ≠ i ∧ h j = none := by
  simp only [AH.set]
  split
  · rename_i e; simp [e]
  · rename_i e; simp [e]
theorem cell_same {h : AH} {i : Id} {b : Blk} {o : Nat} : (h.set i (some b)).cell i o = b.cells[o]? := by simp [AH.cell, set_same]
theorem cell_ne {h : AH} {i j : Id} {b : Option Blk} {o : Nat} (hj : j ≠ i) : (h.set i b).cell j o = h.cell j o := by simp [AH.cell, set_ne hj]
theorem cell_of {h : AH} {i : Id} {b : Blk} {o : Nat} (e : h i = some b) : h.cell i o = b.cells[o]? := by simp [AH.cell, e]
theorem cellsAt_of {h : AH} {i : Id} {b : Blk} {o n : Nat} (e : h i = some b) (hl : o + n ≤ b.cells.length) : h.cellsAt i o n = some ((b.cells.drop o).take n) := by simp [AH.cellsAt, e, hl]
theorem cellsAt_same {h : AH} {i : Id} {b : Blk} {o n : Nat} : (h.set i (some b)).cellsAt i o n = if o + n ≤ b.cells.length then some ((b.cells.drop o).take n) else none := by simp [AH.cellsAt, set_same]
theorem cellsAt_ne {h : AH} {i j : Id} {b : Option Blk} {o n : Nat} (hj : j ≠ i) : (h.set i b).cellsAt j o n = h.cellsAt j o n := by simp [AH.cellsAt, set_ne hj]
theorem put_of {h : AH} {i : Id} {cs : List AV} {o : Nat} {l : List AV} (e : h i = some ⟨true, cs⟩) (hl : o + l.length ≤ cs.length) (hs : l.all AV.scalar = true) : h.put i o l = some (h.set i (some ⟨true, putL cs o l⟩)) := by
  simp [AH.put, e, hl]; simpa using hs
theorem put_same {h : AH} {i : Id} {cs : List AV} {o : Nat} {l : List AV} : (h.set i (some ⟨true, cs⟩)).put i o l = if o + l.length ≤ cs.length ∧ l.all AV.scalar then some ((h.set i (some ⟨true, cs⟩)).set i (some ⟨true, putL cs o l⟩)) else none := by
  simp [AH.put, set_same]
theorem set_set {h : AH} {i : Id} {b c : Option Blk} : (h.set i b).set i c = h.set i c := by
  funext j; simp only [AH.set]; split <;> rfl
theorem set_comm {h : AH} {i j : Id} {b c : Option Blk} (hj : j ≠ i) : (h.set i b).set j c = (h.set j c).set i b := by
  funext k; simp only [AH.set]
  by_cases h1 : k = j
  · subst h1; simp [hj]
  · simp [h1]
/-- What was there stays. -/
def Up (h h' : AH) : Prop := ∀ x b, h x = some b → h' x = some b
theorem Up.refl (h : AH) : Up h h := fun _ _ e => e
theorem Up.trans {a b c : AH} (h : Up a b) (h' : Up b c) : Up a c := fun x v e => h' x v (h x v e)
theorem Up.new {h h' : AH} {i : Id} {b : Option Blk} (hu : Up h h') (hi : h i = none) : Up h (h'.set i b) := fun x v e => by
  have : x ≠ i := fun e' => by rw [e', hi] at e; cases e
  rw [set_ne this]; exact hu x v e
theorem Up.none {h h' : AH} (hu : Up h h') {i : Id} (hi : h' i = none) : h i = none := by
  cases e : h i with
  | none => rfl
  | some b => rw [hu i b e] at hi; cases hi
/-- What was there stays, but for these. -/
def UpX (l : List Id) (h h' : AH) : Prop := ∀ x b, x ∉ l → h x = some b → h' x = some b
theorem UpX.refl (l : List Id) (h : AH) : UpX l h h := fun _ _ _ e => e
theorem UpX.of_up {l : List Id} {h h' : AH} (hu : Up h h') : UpX l h h' := fun x b _ e => hu x b e
theorem wrap64 {n : Int} (h0 : -9223372036854775808 ≤ n) (h1 : n ≤ 9223372036854775807) : IntKind.i64.wrap n = n := by
  simp [IntKind.wrap, IntKind.signed, IntKind.bits]; omega
theorem wrapU64 {n : Int} (h0 : 0 ≤ n) (h1 : n ≤ 18446744073709551615) : IntKind.u64.wrap n = n := by
  simp [IntKind.wrap, IntKind.signed, IntKind.bits]; omega
theorem wrapU8 {n : Int} : IntKind.u8.wrap n = n % 256 := by simp [IntKind.wrap, IntKind.signed, IntKind.bits]
theorem wrapU32 {n : Int} (h0 : 0 ≤ n) (h1 : n ≤ 4294967295) : IntKind.u32.wrap n = n := by
  simp [IntKind.wrap, IntKind.signed, IntKind.bits]; omega
theorem cell_ne' {h : AH} {i j : Id} {b : Option Blk} {o : Nat} (hj : i ≠ j) : (h.set i b).cell j o = h.cell j o := cell_ne (Ne.symm hj)
theorem cellsAt_ne' {h : AH} {i j : Id} {b : Option Blk} {o n : Nat} (hj : i ≠ j) : (h.set i b).cellsAt j o n = h.cellsAt j o n := cellsAt_ne (Ne.symm hj)
theorem set_ne' {h : AH} {i j : Id} {b : Option Blk} (hj : i ≠ j) : h.set i b j = h j := set_ne (Ne.symm hj)
/-- Without loops: what must hold, worked out. -/
def WC (T : FuncId → Option IFunc) : ICode → List AV → AH → (Ex → List AV → AH → Prop) → Prop
  | .skip, tm, h, Q => Q .norm tm h
  | .reg plan ops, tm, h, Q => nodupB (xs plan) = true ∧ WPl T ops plan tm h fun tm' h' => Q .norm tm' h'
  | .seq a b, tm, h, Q => WC T a tm h (Then (fun tm' h' => WC T b tm' h' Q) Q)
  | .cond x a b, tm, h, Q => ∃ t, ev tm x = .bool t ∧ (t = true → WC T a tm h Q) ∧ (t = false → WC T b tm h Q)
  | .block i a, tm, h, Q => WC T a tm h (InBlock i Q)
  | .loop a, tm, h, Q => W T (.loop a) tm h Q
  | .exit i, tm, h, Q => Q (.exit i) tm h
  | .ret, tm, h, Q => Q .ret tm h
  | .mask l, tm, h, Q => Q .norm (keep l 0 tm) h
theorem WC_mono {T : FuncId → Option IFunc} : ∀ {c : ICode} {tm : List AV} {h : AH} {Q : Ex → List AV → AH → Prop}, WC T c tm h Q → W T c tm h Q
  | .skip, tm, h, Q, hw => W_skip hw
  | .reg plan ops, tm, h, Q, hw => W_reg hw.1 hw.2
  | .seq a b, tm, h, Q, hw => by
    have h1 : WC T a tm h (Then (fun tm' h' => WC T b tm' h' Q) Q) := hw
    exact W_seq ((WC_mono h1).mono fun e tm h hq => by cases e <;> first | exact WC_mono hq | exact hq)
  | .cond x a b, tm, h, Q, hw => by
    obtain ⟨t, h1, h2, h3⟩ := hw
    exact W_cond t h1 (fun e => WC_mono (h2 e)) (fun e => WC_mono (h3 e))
  | .block i a, tm, h, Q, hw => W_block (WC_mono hw)
  | .loop a, tm, h, Q, hw => hw
  | .exit i, tm, h, Q, hw => W_exit hw
  | .ret, tm, h, Q, hw => W_ret hw
  | .mask l, tm, h, Q, hw => W_mask hw
end Go.Proofs.YtdehmopdlbdmfaaM
