/- Words for the logic: heaps that are written; no conditions. -/
import Derived.Test.YtgekngfnhhdamaaM25
set_option linter.unusedVariables false
set_option linter.unusedSimpArgs false
namespace Go.Proofs.YtgekngfnhhdamaaM
open Go

theorem cells_agg {l : List AV} : AV.cells (.agg l) = l := rfl
theorem cells_slc {i : Id} {o n sz : Nat} : AV.cells (.slc i o n sz) = [.slc i o n sz] := rfl
theorem cells_slk {i : Id} {o n sz c : Nat} {x : Bool} : AV.cells (.slk i o n sz c x) = [.slk i o n sz c x] := rfl
theorem cells_ptr {i : Id} {o : Nat} : AV.cells (.ptr i o) = [.ptr i o] := rfl
theorem cells_bool {b : Bool} : AV.cells (.bool b) = [.bool b] := rfl
theorem cells_int {k : IntKind} {n : Int} : AV.cells (.int k n) = [.int k n] := rfl
theorem cells_str {s : ByteArray} : AV.cells (.str s) = [.str s] := rfl
theorem cells_iface {t : TypeId} {v : AV} : AV.cells (.iface t v) = [.iface t v] := rfl
theorem cells_func {f : FuncId} {a b : List AV} : AV.cells (.func f a b) = [.func f a b] := rfl
theorem cells_tup {l : List AV} : AV.cells (.tup l) = [.tup l] := rfl
theorem cells_nils : AV.cells (.nils) = [.nils] := rfl
theorem cells_nilp : AV.cells (.nilp) = [.nilp] := rfl
theorem cells_nilI : AV.cells (.nilI) = [.nilI] := rfl
theorem cells_nilF : AV.cells (.nilF) = [.nilF] := rfl
theorem cells_und : AV.cells (.und) = [.und] := rfl
theorem sc_slc {i : Id} {o n sz : Nat} : AV.scalar (.slc i o n sz) = true := rfl
theorem sc_slk {i : Id} {o n sz c : Nat} {x : Bool} : AV.scalar (.slk i o n sz c x) = true := rfl
theorem sc_ptr {i : Id} {o : Nat} : AV.scalar (.ptr i o) = true := rfl
theorem sc_bool {b : Bool} : AV.scalar (.bool b) = true := rfl
theorem sc_int {k : IntKind} {n : Int} : AV.scalar (.int k n) = true := rfl
theorem sc_str {s : ByteArray} : AV.scalar (.str s) = true := rfl
theorem sc_iface {t : TypeId} {v : AV} : AV.scalar (.iface t v) = true := rfl
theorem sc_func {f : FuncId} {a b : List AV} : AV.scalar (.func f a b) = true := rfl
theorem sc_nils : AV.scalar (.nils) = true := rfl
theorem sc_nilp : AV.scalar (.nilp) = true := rfl
theorem sc_nilI : AV.scalar (.nilI) = true := rfl
theorem sc_nilF : AV.scalar (.nilF) = true := rfl
theorem fg_slc {i : Id} {o n sz : Nat} : AV.fg (.slc i o n sz) = .slc i o n sz := rfl
theorem fg_slk {i : Id} {o n sz c : Nat} {x : Bool} : AV.fg (.slk i o n sz c x) = .slc i o n sz := rfl
theorem fg_ptr {i : Id} {o : Nat} : AV.fg (.ptr i o) = .ptr i o := rfl
theorem fg_bool {b : Bool} : AV.fg (.bool b) = .bool b := rfl
theorem fg_int {k : IntKind} {n : Int} : AV.fg (.int k n) = .int k n := rfl
theorem fg_str {s : ByteArray} : AV.fg (.str s) = .str s := rfl
theorem fg_iface {t : TypeId} {v : AV} : AV.fg (.iface t v) = .iface t v := rfl
theorem fg_func {f : FuncId} {a b : List AV} : AV.fg (.func f a b) = .func f a b := rfl
theorem fg_agg {l : List AV} : AV.fg (.agg l) = .agg l := rfl
theorem fg_tup {l : List AV} : AV.fg (.tup l) = .tup l := rfl
theorem fg_nils : AV.fg .nils = .nils := rfl
theorem fg_nilp : AV.fg .nilp = .nilp := rfl
theorem fg_nilI : AV.fg .nilI = .nilI := rfl
theorem fg_nilF : AV.fg .nilF = .nilF := rfl
theorem fg_und : AV.fg .und = .und := rfl
theorem alen_nils : alen .nils = some 0 := rfl
theorem alen_slc {i : Id} {o n sz : Nat} : alen (.slc i o n sz) = some (n : Int) := rfl
theorem alen_slk {i : Id} {o n sz c : Nat} {x : Bool} : alen (.slk i o n sz c x) = some (n : Int) := rfl
theorem aslice_nils {h : AH} {sz : Nat} : aslice h sz .nils = some (0, []) := rfl
theorem aslice_slc {h : AH} {i : Id} {o n sz : Nat} : aslice h sz (.slc i o n sz) = (h.cellsAt i o (n * sz)).map (n, ·) := by simp [aslice, AV.fg]
theorem aslice_slk {h : AH} {i : Id} {o n sz c : Nat} {x : Bool} : aslice h sz (.slk i o n sz c x) = (h.cellsAt i o (n * sz)).map (n, ·) := by simp [aslice, AV.fg]
theorem set_same {h : AH} {i : Id} {b : Option Blk} : h.set i b i = b := by simp [AH.set]
theorem set_ne {h : AH} {i j : Id} {b : Option Blk} (hj : j ≠ i) : h.set i b j = h j := by simp [AH.set, hj]
theorem set_none_iff {h : AH} {i j : Id} {b : Blk} : h.set i (some b) j = none ↔ j ≠ i ∧ h j = none := by
  simp only [AH.set]
  split
  · rename_i e; simp [e]
  · rename_i e; simp [e]
theorem cell_same {h : AH} {i : Id} {b : Blk} {o : Nat} : (h.set i (some b)).cell i o = b.cells[o]? := by simp [AH.cell, set_same]
theorem cell_ne {h : AH} {i j : Id} {b : Option Blk} {o : Nat} (hj : j ≠ i) : (h.set i b).cell j o = h.cell j o := by simp [AH.cell, set_ne hj]
theorem cell_of {h : AH} {i : Id} {b : Blk} {o : Nat} (e : h i = some b) : h.cell i o = b.cells[o]? := by simp [AH.cell, e]
theorem cellsAt_of {h : AH} {i : Id} {b : Blk} {o n : Nat} (e : h i = some b) (hl : o + n ≤ b.cells.length) : h.cellsAt i o n = some ((b.cells.drop o).take n) := by simp [AH.cellsAt, e, hl]
theorem cellsAt_same {h : AH} {i : Id} {b : Blk} {o n : Nat} : (h.set i (some b)).cellsAt i o n = if o + n ≤ b.cells.length then some ((b.cells.drop o).take n) else none := by simp [AH.cellsAt, set_same]
theorem cellsAt_ne {h : AH} {i j : Id} {b : Option Blk} {o n : Nat} (hj : j ≠ i) : (h.set i b).cellsAt j o n = h.cellsAt j o n := by simp [AH.cellsAt, set_ne hj]
theorem put_of {h : AH} {i : Id} {cs : List AV} {o : Nat} {l : List AV} (e : h i = some ⟨true, cs⟩) (hl : o + l.length ≤ cs.length) (hs : l.all AV.scalar = true) : h.put i o l = some (h.set i (some ⟨true, putL cs o l⟩)) := by
  simp [AH.put, e, hl]; simpa using hs
theorem put_same {h : AH} {i : Id} {cs : List AV} {o : Nat} {l : List AV} : (h.set i (some ⟨true, cs⟩)).put i o l = if o + l.length ≤ cs.length ∧ l.all AV.scalar then some ((h.set i (some ⟨true, cs⟩)).set i (some ⟨true, putL cs o l⟩)) else none := by
  simp [AH.put, set_same]
theorem set_set {h : AH} {i : Id} {b c : Option Blk} : (h.set i b).set i c = h.set i c := by
  funext j; simp only [AH.set]; split <;> rfl
theorem set_comm {h : AH} {i j : Id} {b c : Option Blk} (hj : j ≠ i) : (h.set i b).set j c = (h.set j c).set i b := by
  funext k; simp only [AH.set]
  by_cases h1 : k = j
  · subst h1; simp [hj]
  · simp [h1]
/-- What was there stays. -/
def Up (h h' : AH) : Prop := ∀ x b, h x = some b → h' x = some b
theorem Up.refl (h : AH) : Up h h := fun _ _ e => e
theorem Up.trans {a b c : AH} (h : Up a b) (h' : Up b c) : Up a c := fun x v e => h' x v (h x v e)
theorem Up.new {h h' : AH} {i : Id} {b : Option Blk} (hu : Up h h') (hi : h i = none) : Up h (h'.set i b) := fun x v e => by
  have : x ≠ i := fun e' => by rw [e', hi] at e; cases e
  rw [set_ne this]; exact hu x v e
theorem Up.none {h h' : AH} (hu : Up h h') {i : Id} (hi : h' i = none) : h i = none := by
  cases e : h i with
  | none => rfl
  | some b => rw [hu i b e] at hi; cases hi
/-- What was there stays, but for these. -/
def UpX (l : List Id) (h h' : AH) : Prop := ∀ x b, x ∉ l → h x = some b → h' x = some b
theorem UpX.refl (l : List Id) (h : AH) : UpX l h h := fun _ _ _ e => e
theorem UpX.of_up {l : List Id} {h h' : AH} (hu : Up h h') : UpX l h h' := fun x b _ e => hu x b e
theorem wrap64 {n : Int} (h0 : -9223372036854775808 ≤ n) (h1 : n ≤ 9223372036854775807) : IntKind.i64.wrap n = n := by
  simp [IntKind.wrap, IntKind.signed, IntKind.bits]; omega
theorem wrapU64 {n : Int} (h0 : 0 ≤ n) (h1 : n ≤ 18446744073709551615) : IntKind.u64.wrap n = n := by
  simp [IntKind.wrap, IntKind.signed, IntKind.bits]; omega
theorem wrapU8 {n : Int} : IntKind.u8.wrap n = n % 256 := by simp [IntKind.wrap, IntKind.signed, IntKind.bits]
theorem wrapU32 {n : Int} (h0 : 0 ≤ n) (h1 : n ≤ 4294967295) : IntKind.u32.wrap n = n := by
  simp [IntKind.wrap, IntKind.signed, IntKind.bits]; omega
theorem cell_ne' {h : AH} {i j : Id} {b : Option Blk} {o : Nat} (hj : i ≠ j) : (h.set i b).cell j o = h.cell j o := cell_ne (Ne.symm hj)
theorem cellsAt_ne' {h : AH} {i j : Id} {b : Option Blk} {o n : Nat} (hj : i ≠ j) : (h.set i b).cellsAt j o n = h.cellsAt j o n := cellsAt_ne (Ne.symm hj)
theorem set_ne' {h : AH} {i j : Id} {b : Option Blk} (hj : i ≠ j) : h.set i b j = h j := set_ne (Ne.symm hj)
/-- Without loops: what must hold, worked out. -/
def WC (T : FuncId → Option IFunc) : ICode → List AV → AH → (Ex → List AV → AH → Prop) → Prop
  | .skip, tm, h, Q => Q .norm tm h
  | .reg plan ops, tm, h, Q => nodupB (xs plan) = true ∧ WPl T ops plan tm h fun tm' h' => Q .norm tm' h'
  | .seq a b, tm, h, Q => WC T a tm h (Then (fun tm' h' => WC T b tm' h' Q) Q)
  | .cond x a b, tm, h, Q => ∃ t, ev tm x = .bool t ∧ (t = true → WC T a tm h Q) ∧ (t = false → WC T b tm h Q)
  | .block i a, tm, h, Q => WC T a tm h (InBlock i Q)
  | .loop a, tm, h, Q => W T (.loop a) tm h Q
  | .exit i, tm, h, Q => Q (.exit i) tm h
  | .ret, tm, h, Q => Q .ret tm h
  | .mask l, tm, h, Q => Q .norm (keep l 0 tm) h
theorem WC_mono {T : FuncId → Option IFunc} : ∀ {c : ICode} {tm : List AV} {h : AH} {Q : Ex → List AV → AH → Prop}, WC T c tm h Q → W T c tm h Q
  | .skip, tm, h, Q, hw => W_skip hw
  | .reg plan ops, tm, h, Q, hw => W_reg hw.1 hw.2
  | .seq a b, tm, h, Q, hw => by
    have h1 : WC T a tm h (Then (fun tm' h' => WC T b tm' h' Q) Q) := hw
    exact W_seq ((WC_mono h1).mono fun e tm h hq => by cases e <;> first | exact WC_mono hq | exact hq)
  | .cond x a b, tm, h, Q, hw => by
    obtain ⟨t, h1, h2, h3⟩ := hw
    exact W_cond t h1 (fun e => WC_mono (h2 e)) (fun e => WC_mono (h3 e))
  | .block i a, tm, h, Q, hw => W_block (WC_mono hw)
  | .loop a, tm, h, Q, hw => hw
  | .exit i, tm, h, Q, hw => W_exit hw
  | .ret, tm, h, Q, hw => W_ret hw
  | .mask l, tm, h, Q, hw => W_mask hw
end Go.Proofs.YtgekngfnhhdamaaM
