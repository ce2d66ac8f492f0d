/- Words for lists of things in a block of their own, beside a base heap that stays; no conditions beyond those that each theorem names. -/
import Derived.Test.YtgekngfnhhdamaaM33
set_option linter.unusedVariables false
set_option linter.unusedSimpArgs false
namespace Go.Proofs.YtgekngfnhhdamaaM
open Go
theorem nei2 {h0 h : AH} {i j : Id} {b : Blk} (u : h0 i = some b) (e : h i = h0 i) (hj : h j = none) : i ≠ j := fun q => by rw [← q, e, u] at hj; cases hj
theorem putL_over {α : Type} : ∀ (cs A R : List α), cs.length ≤ R.length → putL (A ++ R) A.length cs = A ++ cs ++ R.drop cs.length
  | [], A, R, _ => by simp [putL]
  | c :: cs, A, [], h => by simp at h
  | c :: cs, A, r :: R, h => by
    have e : (A ++ r :: R).set A.length c = (A ++ [c]) ++ R := by simp
    have := putL_over cs (A ++ [c]) R (by simpa using h)
    simp only [putL, e]
    rw [List.length_append, List.length_cons, List.length_nil] at this
    rw [this]; simp
section
variable {α : Type} {enc : α → List AV} {sz : Nat}
theorem flat_len (hz : ∀ x, (enc x).length = sz) : ∀ L : List α, (L.flatMap enc).length = L.length * sz
  | [] => by simp
  | x :: L => by rw [List.flatMap_cons, List.length_append, hz, flat_len hz L, List.length_cons, Nat.add_mul]; omega
theorem flat_sc (hs : ∀ x, (enc x).all AV.scalar = true) : ∀ L : List α, (L.flatMap enc).all AV.scalar = true
  | [] => rfl
  | x :: L => by rw [List.flatMap_cons, List.all_append, hs, flat_sc hs L]; rfl
theorem flat_take (hz : ∀ x, (enc x).length = sz) : ∀ (L : List α) (k : Nat), (L.flatMap enc).take (k * sz) = (L.take k).flatMap enc
  | [], k => by simp
  | x :: L, 0 => by simp
  | x :: L, k + 1 => by
    rw [List.take_succ_cons, List.flatMap_cons, List.flatMap_cons, List.take_append, hz, Nat.add_mul, Nat.one_mul, Nat.add_sub_cancel, flat_take hz L k, List.take_of_length_le (by rw [hz]; omega)]
theorem flat_drop (hz : ∀ x, (enc x).length = sz) : ∀ (L : List α) (k : Nat), (L.flatMap enc).drop (k * sz) = (L.drop k).flatMap enc
  | [], k => by simp
  | x :: L, 0 => by simp
  | x :: L, k + 1 => by
    rw [List.drop_succ_cons, List.flatMap_cons, List.drop_append, hz, Nat.add_mul, Nat.one_mul, Nat.add_sub_cancel, flat_drop hz L k, List.drop_of_length_le (by rw [hz]; omega), List.nil_append]
theorem flat_get (hz : ∀ x, (enc x).length = sz) {L : List α} {k : Nat} {x : α} (h : L[k]? = some x) (R : List AV) : k * sz + sz ≤ (L.flatMap enc ++ R).length ∧ ((L.flatMap enc ++ R).drop (k * sz)).take sz = enc x := by
  have hk := (List.getElem?_eq_some_iff.1 h).1
  have hl := flat_len hz L
  have hm : k * sz + sz ≤ L.length * sz := by rw [← Nat.succ_mul]; exact Nat.mul_le_mul_right _ hk
  refine ⟨by rw [List.length_append, hl]; omega, ?_⟩
  rw [List.drop_append_of_le_length (by omega), flat_drop hz, List.drop_eq_getElem_cons hk, (List.getElem?_eq_some_iff.1 h).2, List.flatMap_cons, List.append_assoc, List.take_append_of_le_length (by rw [hz]; exact Nat.le_refl _), List.take_of_length_le (by rw [hz]; exact Nat.le_refl _)]
/-- A slice that holds these, to be read. -/
def Lr (enc : α → List AV) (sz : Nat) (h : AH) (S : AV) (L : List α) : Prop :=
  S = .nils ∧ L = [] ∨ ∃ i own rest, h i = some ⟨own, L.flatMap enc ++ rest⟩ ∧ S.fg = .slc i 0 L.length sz
/-- A slice that holds these, to be written: its block is none of the base heap, nor p. -/
def Lc (enc : α → List AV) (sz : Nat) (h0 : AH) (p : Id) (h : AH) (S : AV) (L : List α) : Prop :=
  S = .nils ∧ L = [] ∨ ∃ i rest, h0 i = none ∧ i ≠ p ∧ h i = some ⟨true, L.flatMap enc ++ rest⟩ ∧ (S = .slc i 0 L.length sz ∨ ∃ c x, S = .slk i 0 L.length sz c x ∧ c * sz ≤ L.length * sz + rest.length)
theorem Lc.rd {h0 h : AH} {p : Id} {S : AV} {L : List α} (hL : Lc enc sz h0 p h S L) : Lr enc sz h S L := by
  rcases hL with hL | ⟨i, rest, h1, h2, h3, h4⟩
  · exact .inl hL
  · refine .inr ⟨i, true, rest, h3, ?_⟩
    rcases h4 with rfl | ⟨c, x, rfl, _⟩ <;> rfl
theorem Lr.up {h h' : AH} {S : AV} {L : List α} (hL : Lr enc sz h S L) (hu : Up h h') : Lr enc sz h' S L := by
  rcases hL with hL | ⟨i, own, rest, h1, h2⟩
  · exact .inl hL
  · exact .inr ⟨i, own, rest, hu _ _ h1, h2⟩
theorem Lr.len {h : AH} {S : AV} {L : List α} (hL : Lr enc sz h S L) : alen S = some (L.length : Int) := by
  rcases hL with ⟨rfl, rfl⟩ | ⟨i, own, rest, h1, h2⟩
  · rfl
  · unfold alen; rw [h2]
theorem Lr.cells {h : AH} {S : AV} {L : List α} (hL : Lr enc sz h S L) : S.cells = [S] ∧ S.scalar = true := by
  rcases hL with ⟨rfl, rfl⟩ | ⟨i, own, rest, h1, h2⟩
  · exact ⟨rfl, rfl⟩
  · cases S <;> simp [AV.fg] at h2 <;> exact ⟨rfl, rfl⟩
/-- Each is where it should be. -/
theorem Lr.get (hz : ∀ x, (enc x).length = sz) {h : AH} {S : AV} {L : List α} {k : Nat} {x : α} (hL : Lr enc sz h S L) (hx : L[k]? = some x) :
    ∃ i own cs, h i = some ⟨own, cs⟩ ∧ S.fg = .slc i 0 L.length sz ∧ k * sz + sz ≤ cs.length ∧ (cs.drop (k * sz)).take sz = enc x := by
  rcases hL with ⟨rfl, rfl⟩ | ⟨i, own, rest, h1, h2⟩
  · simp at hx
  · obtain ⟨g1, g2⟩ := flat_get hz hx rest
    exact ⟨i, own, _, h1, h2, g1, g2⟩
theorem Lr.slice (hz : ∀ x, (enc x).length = sz) {h : AH} {S : AV} {L : List α} (hL : Lr enc sz h S L) : aslice h sz S = some (L.length, L.flatMap enc) := by
  rcases hL with ⟨rfl, rfl⟩ | ⟨i, own, rest, h1, h2⟩
  · rfl
  · unfold aslice
    rw [h2]
    have hl := flat_len hz L
    simp only [if_true, AH.cellsAt, h1, Nat.zero_add, List.length_append, hl, List.drop_zero]
    rw [if_pos (by omega), List.take_append_of_le_length (by omega), List.take_of_length_le (by omega)]; rfl
theorem Lc.weak {h0 h1 h : AH} {p : Id} {S : AV} {L : List α} (hL : Lc enc sz h1 p h S L) (hs : Sub h0 h1) : Lc enc sz h0 p h S L := by
  rcases hL with hL | ⟨i, rest, g1, g⟩
  · exact .inl hL
  · exact .inr ⟨i, rest, hs.no g1, g⟩
theorem Lc.up {h0 h h' : AH} {p : Id} {S : AV} {L : List α} (hL : Lc enc sz h0 p h S L) (hu : Up h h') : Lc enc sz h0 p h' S L := by
  rcases hL with hL | ⟨i, rest, g1, g2, g3, g⟩
  · exact .inl hL
  · exact .inr ⟨i, rest, g1, g2, hu _ _ g3, g⟩
/-- p itself may be written. -/
theorem Lc.own {h0 h : AH} {p : Id} {S : AV} {L : List α} {b : Option Blk} (hL : Lc enc sz h0 p h S L) : Lc enc sz h0 p (h.set p b) S L := by
  rcases hL with hL | ⟨i, rest, g1, g2, g3, g⟩
  · exact .inl hL
  · exact .inr ⟨i, rest, g1, g2, by rw [set_ne g2]; exact g3, g⟩
/-- The base may be more, as long as it doesn't hold the block. -/
theorem Lc.base {h0 h1 h : AH} {p : Id} {S : AV} {L : List α} (hL : Lc enc sz h0 p h S L) (hb : ∀ i, h i ≠ none → h0 i = none → h1 i = none) : Lc enc sz h1 p h S L := by
  rcases hL with hL | ⟨i, rest, g1, g2, g3, g⟩
  · exact .inl hL
  · exact .inr ⟨i, rest, hb i (by rw [g3]; simp) g1, g2, g3, g⟩
/-- What an append does. -/
theorem Lc.app (hz : ∀ x, (enc x).length = sz) (hsc : ∀ x, (enc x).all AV.scalar = true) {h0 h h1 : AH} {p id : Id} {S : AV} {L D : List α} {bytes : Nat} {bp : Blk} (hL : Lc enc sz h0 p h S L) (hs : Sub h0 h) (hu : Up h h1) (hid : h1 id = none) (hp' : h p = some bp) (hD : D ≠ []) (hr : (L.length + D.length) * bytes ≤ roomMost) :
    ∃ S' h2, aapp h1 id sz bytes S D.length (D.flatMap enc) = some (S', h2) ∧ Lc enc sz h0 p h2 S' (L ++ D) ∧ Sub h0 h2 ∧ h2 p = some bp ∧ ∀ i, h1 i = none → i ≠ id → h2 i = none := by
  have hn : D.length ≠ 0 := fun e => hD (List.length_eq_zero_iff.1 e)
  have hDl := flat_len hz D
  have hLl := flat_len hz L
  have hDs := flat_sc hsc D
  have hs1 : Sub h0 h1 := fun x b e => hu x b (hs x b e)
  have hp := hu _ _ hp'
  have hpid : p ≠ id := nei hp hid
  have h0id := hs1.no hid
  have hmul : (L.length + D.length) * sz = L.length * sz + D.length * sz := Nat.add_mul _ _ _
  unfold aapp
  rw [if_neg hn, if_pos hDs]
  rcases hL with ⟨rfl, rfl⟩ | ⟨i, rest, g1, g2, g3, g4⟩
  · refine ⟨.slc id 0 D.length sz, h1.set id (some ⟨true, D.flatMap enc⟩), ?_, .inr ⟨id, [], h0id, hpid.symm, by simp [set_same], .inl rfl⟩, hs1.set h0id, by rw [set_ne hpid]; exact hp, fun i e1 e2 => by rw [set_ne e2]; exact e1⟩
    rw [List.length_nil, Nat.zero_add] at hr
    simp only [hDl, hr, and_self, if_true]
  · have g3' := hu _ _ g3
    have hii : i ≠ id := fun e => by rw [e, hid] at g3'; cases g3'
    have new : ((L.flatMap enc ++ rest).drop 0).take (L.length * sz) ++ D.flatMap enc = (L ++ D).flatMap enc := by
      rw [List.drop_zero, List.take_append_of_le_length (by omega), List.take_of_length_le (by omega), List.flatMap_append]
    have kill : Lc enc sz h0 p ((h1.set i none).set id (some ⟨true, ((L.flatMap enc ++ rest).drop 0).take (L.length * sz) ++ D.flatMap enc⟩)) (.slc id 0 (L.length + D.length) sz) (L ++ D) ∧ Sub h0 ((h1.set i none).set id (some ⟨true, ((L.flatMap enc ++ rest).drop 0).take (L.length * sz) ++ D.flatMap enc⟩)) ∧ ((h1.set i none).set id (some ⟨true, ((L.flatMap enc ++ rest).drop 0).take (L.length * sz) ++ D.flatMap enc⟩)) p = some bp ∧ ∀ j, h1 j = none → j ≠ id → ((h1.set i none).set id (some ⟨true, ((L.flatMap enc ++ rest).drop 0).take (L.length * sz) ++ D.flatMap enc⟩)) j = none :=
      ⟨.inr ⟨id, [], h0id, hpid.symm, by rw [set_same, new, List.append_nil], .inl (by rw [List.length_append])⟩, (hs1.set g1).set h0id, by rw [set_ne hpid, set_ne g2.symm]; exact hp, fun j e1 e2 => by
        rw [set_ne e2]
        by_cases hj : j = i
        · subst hj; exact set_same
        · rw [set_ne hj]; exact e1⟩
    rcases g4 with rfl | ⟨c, x, rfl, g5⟩
    · refine ⟨_, _, ?_, kill⟩
      have c1 : 0 + L.length * sz ≤ (L.flatMap enc ++ rest).length := by rw [List.length_append]; omega
      simp only [g3', hDl, hr, c1, and_self, if_true]
    · have c1 : 0 + L.length * sz ≤ (L.flatMap enc ++ rest).length := by rw [List.length_append]; omega
      simp only [g3', hDl, hr, c1, and_self, if_true]
      by_cases hc : L.length + D.length ≤ c
      · have hm : (L.length + D.length) * sz ≤ c * sz := Nat.mul_le_mul_right _ hc
        have hput : h1.put i (L.length * sz) (D.flatMap enc) = some (h1.set i (some ⟨true, (L ++ D).flatMap enc ++ rest.drop (D.length * sz)⟩)) := by
          rw [put_of g3' (by rw [List.length_append]; omega) hDs]
          have e := putL_over (D.flatMap enc) (L.flatMap enc) rest (by omega)
          rw [hLl, hDl] at e
          rw [e, List.flatMap_append]
        refine ⟨.slk i 0 (L.length + D.length) sz c x, h1.set i (some ⟨true, (L ++ D).flatMap enc ++ rest.drop (D.length * sz)⟩), ?_, .inr ⟨i, rest.drop (D.length * sz), g1, g2, set_same, .inr ⟨c, x, by rw [List.length_append], ?_⟩⟩, hs1.set g1, by rw [set_ne g2.symm]; exact hp, fun j e1 e2 => by rw [set_ne (fun e => by rw [e, g3'] at e1; cases e1)]; exact e1⟩
        · simp only [if_pos hc, Nat.zero_add, hput, Option.map_some]
        · rw [List.length_append, List.length_drop]; omega
      · simp only [if_neg hc]
        cases x with
        | true =>
          refine ⟨_, _, rfl, .inr ⟨id, [], h0id, hpid.symm, by rw [set_same, new, List.append_nil], .inl (by rw [List.length_append])⟩, hs1.set h0id, by rw [set_ne hpid]; exact hp, fun j e1 e2 => by rw [set_ne e2]; exact e1⟩
        | false => exact ⟨_, _, rfl, kill⟩
end
end Go.Proofs.YtgekngfnhhdamaaM
