/- What an argument's cells are, by type; no conditions beyond those that each theorem names. -/
import Derived.Test.YtgekngfnhhdamaaM28
set_option linter.unusedVariables false
set_option linter.unusedSimpArgs false
namespace Go.Proofs.YtgekngfnhhdamaaM
open Go
theorem list_enc {α : Type} {p : List AV → Prop} {enc : α → List AV} {ok : α → Prop} (he : ∀ l, p l → ∃ y, l = enc y ∧ ok y) : ∀ (es : List (List AV)), (∀ x ∈ es, p x) → ∃ ys : List α, es = ys.map enc ∧ ∀ y ∈ ys, ok y
  | [], _ => ⟨[], rfl, by simp⟩
  | x :: es, h => by
    obtain ⟨y, rfl, hy⟩ := he x (h _ (by simp))
    obtain ⟨ys, rfl, hys⟩ := list_enc he es (fun z hz => h z (by simp [hz]))
    exact ⟨y :: ys, rfl, fun z hz => by rcases List.mem_cons.1 hz with rfl | hz; exact hy; exact hys z hz⟩
/-- A slice, whose elements are told by 'enc'. -/
theorem TS.slc_inv {α : Type} {H : AH} {e : Ty} (enc : α → List AV) (ok : α → Prop) (he : ∀ l, TS H e l → ∃ y, l = enc y ∧ ok y) {a : AV} (h : TS H (.slc e) [a]) :
    ∃ ys : List α, (∀ y ∈ ys, ok y) ∧ ys.length ≤ maxLen ∧ (a = .nils ∧ ys = [] ∨ ∃ i, a = .slc i 0 ys.length e.sz ∧ H i = some ⟨false, ys.flatMap enc⟩) := by
  rcases h with h | ⟨i, es, h1, h2, h3, h4⟩
  · exact ⟨[], by simp, by simp, .inl ⟨by simpa using h, rfl⟩⟩
  · obtain ⟨ys, rfl, hok⟩ := list_enc he es h3
    refine ⟨ys, hok, by simpa using h4, .inr ⟨i, by simpa using h1, by rw [h2]; rfl⟩⟩
theorem wf64 {n : Int} (h : (Lit.int .i64 n).wf = true) : -9223372036854775808 ≤ n ∧ n ≤ 9223372036854775807 := by
  simp [Lit.wf, IntKind.min, IntKind.max, IntKind.signed, IntKind.bits] at h; omega
end Go.Proofs.YtgekngfnhhdamaaM
