/- Texts as lists of bytes; no conditions beyond those that each theorem names. -/
import Derived.Test.YtgekngfnhhdamaaM30
import Derived.Laws.Strings
set_option linter.unusedVariables false
set_option linter.unusedSimpArgs false
namespace Go.Proofs.YtgekngfnhhdamaaM
open Go
/-- A text of these bytes. -/
abbrev bs (l : List UInt8) : ByteArray := ⟨l.toArray⟩
theorem bs_size (l : List UInt8) : (bs l).size = l.length := by simp [ByteArray.size]
theorem bs_append (l m : List UInt8) : bs l ++ bs m = bs (l ++ m) := by
  apply ByteArray.ext
  rw [ByteArray.data_append]; simp
theorem bs_data (s : ByteArray) : bs s.data.toList = s := by cases s; rfl
theorem bs_toList (l : List UInt8) : (bs l).toList = l := by rw [ByteArray.toList_eq]
theorem bs_extract (l : List UInt8) (a b : Nat) : (bs l).extract a b = bs ((l.drop a).take (b - a)) := by
  apply ByteArray.ext
  rw [ByteArray.data_extract]
  apply Array.ext'
  simp [Array.toList_extract, List.extract_eq_take_drop]
theorem bs_get (l : List UInt8) (k : Nat) : (bs l)[k]? = l[k]? := by
  by_cases h : k < l.length
  · rw [List.getElem?_eq_getElem h]
    have h' : k < (bs l).size := by rw [bs_size]; exact h
    rw [_root_.getElem?_pos (bs l) k h']
    rfl
  · rw [List.getElem?_eq_none (by omega)]
    have h' : ¬ k < (bs l).size := by rw [bs_size]; exact h
    rw [_root_.getElem?_neg (bs l) k h']
theorem bs_inj {l m : List UInt8} : bs l = bs m ↔ l = m := ⟨fun h => by simpa using h, fun h => by rw [h]⟩
end Go.Proofs.YtgekngfnhhdamaaM
