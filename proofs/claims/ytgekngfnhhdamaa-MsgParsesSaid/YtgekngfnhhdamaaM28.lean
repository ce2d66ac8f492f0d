/- Arguments with slices: what a reading of the kit's says, told as the machine's; conditions: the types' shapes are told right (shape). -/
import Derived.Test.YtgekngfnhhdamaaM27
import Derived.Test.YtgekngfnhhdamaaM35
import Derived.ChangeArms
import Derived.OpenShut
import Derived.Deep.Slices
set_option linter.unusedVariables false
set_option linter.unusedSimpArgs false
namespace Go.Proofs.YtgekngfnhhdamaaM
open Go
/-- A type: its cells. -/
inductive Ty where
  | int (k : IntKind)
  | bool
  | str
  | slc (e : Ty)
  | emp
  | and (a b : Ty)
def Ty.sz : Ty → Nat
  | .emp => 0
  | .and a b => a.sz + b.sz
  | _ => 1
def Ty.rep : Nat → Ty → Ty
  | 0, _ => .emp
  | n + 1, y => .and y (Ty.rep n y)
/-- Cells of a type, in a heap that is read. -/
def TS (H : AH) : Ty → List AV → Prop
  | .int k, l => ∃ n, l = [.int k n] ∧ (Lit.int k n).wf = true
  | .bool, l => ∃ b, l = [.bool b]
  | .str, l => ∃ s : ByteArray, l = [.str s] ∧ s.size ≤ maxLen
  | .slc e, l => l = [.nils] ∨ ∃ (i : Id) (es : List (List AV)), l = [.slc i 0 es.length e.sz] ∧ H i = some ⟨false, es.flatten⟩ ∧ (∀ x ∈ es, TS H e x) ∧ es.length ≤ maxLen
  | .emp, l => l = []
  | .and a b, l => ∃ l1 l2, l = l1 ++ l2 ∧ TS H a l1 ∧ TS H b l2
theorem TS.mono {H H' : AH} (hh : ∀ i b, H i = some b → H' i = some b) : ∀ {y : Ty} {l : List AV}, TS H y l → TS H' y l
  | .int k, l, h => h
  | .bool, l, h => h
  | .str, l, h => h
  | .emp, l, h => h
  | .slc e, l, h => by
    rcases h with h | ⟨i, es, h1, h2, h3, h4⟩
    · exact .inl h
    · exact .inr ⟨i, es, h1, hh _ _ h2, fun x hx => TS.mono hh (h3 x hx), h4⟩
  | .and a b, l, h => by
    obtain ⟨l1, l2, h1, h2, h3⟩ := h
    exact ⟨l1, l2, h1, TS.mono hh h2, TS.mono hh h3⟩
theorem TS.length {H : AH} : ∀ {y : Ty} {l : List AV}, TS H y l → l.length = y.sz
  | .int k, l, h => by obtain ⟨n, rfl, _⟩ := h; rfl
  | .bool, l, h => by obtain ⟨n, rfl⟩ := h; rfl
  | .str, l, h => by obtain ⟨n, rfl, _⟩ := h; rfl
  | .emp, l, h => by have h : l = [] := h; rw [h]; rfl
  | .slc e, l, h => by
    rcases h with rfl | ⟨i, es, rfl, _⟩ <;> rfl
  | .and a b, l, h => by
    obtain ⟨l1, l2, rfl, h2, h3⟩ := h
    rw [List.length_append, TS.length h2, TS.length h3]; rfl
/-- Names, read-only blocks and where they lie. -/
structure Gd (w : World) (N : Id → Prop) (H : AH) (μ : Mp) : Prop where
  dom : ∀ i, μ i ≠ none → N i
  tot : ∀ i, μ i = none → H i = none
  blk : ∀ i p b, μ i = some p → H i = some b → b.own = false ∧ b.cells.length ≤ p.room ∧ (b.cells ≠ [] → p.blk < w.heap.size) ∧ ∃ vs, VRs μ b.cells vs ∧ w.rangeAt p.blk p.off vs
theorem Gd.none (w : World) (N : Id → Prop) : Gd w N (fun _ => none) (fun _ => none) := ⟨fun _ h => absurd rfl h, fun _ _ => rfl, fun _ _ _ h => nomatch h⟩
theorem Gd.mono {w : World} {N N' : Id → Prop} {H : AH} {μ : Mp} (h : Gd w N H μ) (hn : ∀ i, N i → N' i) : Gd w N' H μ := ⟨fun i e => hn i (h.dom i e), h.tot, h.blk⟩
def jm (μ μ' : Mp) : Mp := fun i => match μ i with | some p => some p | none => μ' i
theorem jm_left (μ μ' : Mp) : Ext μ (jm μ μ') := fun i p e => by simp only [jm, e]
theorem Gd.hdom {w : World} {N : Id → Prop} {H : AH} {μ : Mp} (h : Gd w N H μ) {i : Id} {b : Blk} (e : H i = some b) : N i := h.dom i fun hn => by rw [h.tot i hn] at e; cases e
section
variable {w : World} {N N' : Id → Prop} {H H' : AH} {μ μ' : Mp}
theorem jm_right (h : Gd w N H μ) (h' : Gd w N' H' μ') (hd : ∀ i, N i → N' i → False) : Ext μ' (jm μ μ') := fun i p e => by
  have : μ i = none := by
    cases e' : μ i with
    | none => rfl
    | some q => exact (hd i (h.dom i (by rw [e']; simp)) (h'.dom i (by rw [e]; simp))).elim
  simp only [jm, this, e]
theorem jh_left (H H' : AH) : ∀ i b, H i = some b → (H.join H') i = some b := fun i b e => by simp only [AH.join, e]
theorem jh_right (h : Gd w N H μ) (h' : Gd w N' H' μ') (hd : ∀ i, N i → N' i → False) : ∀ i b, H' i = some b → (H.join H') i = some b := fun i b e => by
  have : H i = none := by
    cases e' : H i with
    | none => rfl
    | some q => exact (hd i (h.hdom e') (h'.hdom e)).elim
  simp only [AH.join, this, e]
theorem Gd.join (h : Gd w N H μ) (h' : Gd w N' H' μ') (hd : ∀ i, N i → N' i → False) : Gd w (fun i => N i ∨ N' i) (H.join H') (jm μ μ') := by
  refine ⟨fun i e => ?_, fun i e => ?_, fun i p b e1 e2 => ?_⟩
  · cases e' : μ i with
    | some p => exact .inl (h.dom i (by rw [e']; simp))
    | none => simp only [jm, e'] at e; exact .inr (h'.dom i e)
  · cases e' : μ i with
    | some p => simp only [jm, e'] at e; cases e
    | none => simp only [jm, e'] at e; simp only [AH.join, h.tot i e', h'.tot i e]
  · cases e' : μ i with
    | some q =>
      simp only [jm, e', Option.some.injEq] at e1
      subst e1
      cases e3 : H i with
      | some c =>
        simp only [AH.join, e3, Option.some.injEq] at e2
        subst e2
        obtain ⟨k1, k2, k3, vs, k4, k5⟩ := h.blk i q c e' e3
        exact ⟨k1, k2, k3, vs, k4.ext (jm_left _ _), k5⟩
      | none =>
        simp only [AH.join, e3] at e2
        exact (hd i (h.dom i (by rw [e']; simp)) (h'.hdom e2)).elim
    | none =>
      simp only [jm, e'] at e1
      simp only [AH.join, h.tot i e'] at e2
      obtain ⟨k1, k2, k3, vs, k4, k5⟩ := h'.blk i p b e1 e2
      exact ⟨k1, k2, k3, vs, k4.ext (jm_right h h' hd), k5⟩
end
theorem sfx_inj {a b : Nat} {σ i : Id} (h : (a :: σ) <:+ i) (h' : (b :: σ) <:+ i) : a = b := by
  have := List.suffix_of_suffix_length_le h h' (by simp)
  have := this.eq_of_length (by simp)
  simpa using this
/-- Names from the j-th on. -/
def From (σ : Id) (j : Nat) (i : Id) : Prop := ∃ k, j ≤ k ∧ (k :: σ) <:+ i
theorem From.not {σ : Id} {j : Nat} (i : Id) (h : (j :: σ) <:+ i) (h' : From σ (j + 1) i) : False := by
  obtain ⟨k, hk, h2⟩ := h'
  have := sfx_inj h h2
  omega
theorem From.cons {σ : Id} {j : Nat} (i : Id) (h : (j :: σ) <:+ i ∨ From σ (j + 1) i) : From σ j i := by
  rcases h with h | ⟨k, hk, h2⟩
  · exact ⟨j, Nat.le_refl _, h⟩
  · exact ⟨k, by omega, h2⟩
theorem From.sfx {σ : Id} {j : Nat} (i : Id) (h : From σ j i) : σ <:+ i := by
  obtain ⟨k, _, h⟩ := h
  exact (List.suffix_cons k σ).trans h
/-- A type's shape. -/
def shapeRow (P : Program) (sh : TypeId → Option Ty) (C : Nat) : List Field → Nat → Option Ty
  | [], o => if o = C then some .emp else none
  | f :: r, o =>
    match sh f.type, shapeRow P sh C r (o + P.cellsOf f.type) with
    | some y, some z => if f.offset = o ∧ P.cellsOf f.type = y.sz then some (.and y z) else none
    | _, _ => none
def shape (P : Program) : Nat → TypeId → Option Ty
  | 0, _ => none
  | n + 1, t =>
    match P.underlying t with
    | some .bool => some .bool
    | some (.int k) => some (.int k)
    | some .string => some .str
    | some (.slice e) =>
      match shape P n e with
      | some y => if P.cellsOf e = y.sz ∧ 0 < y.sz then some (.slc y) else none
      | none => none
    | some (.struct fs) => shapeRow P (shape P n) (P.cellsOf t) fs.toList 0
    | some (.array k e) =>
      match shape P n e with
      | some y => if P.cellsOf e = y.sz ∧ P.cellsOf t = k * y.sz then some (.rep k y) else none
      | none => none
    | _ => none
section
variable {Hh : Type} {enc : TypeId × Value → Hh} {P : Program} {w : World}
/-- Cells that can be told, under a name. -/
def Rd (w : World) (y : Ty) (N : Id → Prop) (cs : List Value) : Prop := ∃ as H μ, VRs μ as cs ∧ TS H y as ∧ Gd w N H μ
theorem Rd.cons {y z : Ty} {σ : Id} {j : Nat} {cs cs' : List Value} (h : Rd w y (fun i => (j :: σ) <:+ i) cs) (h' : Rd w z (From σ (j + 1)) cs') : Rd w (.and y z) (From σ j) (cs ++ cs') := by
  obtain ⟨as, H, μ, h1, h2, h3⟩ := h
  obtain ⟨as', H', μ', k1, k2, k3⟩ := h'
  have hd : ∀ i, (j :: σ) <:+ i → From σ (j + 1) i → False := From.not
  exact ⟨as ++ as', H.join H', jm μ μ', (h1.ext (jm_left _ _)).append (k1.ext (jm_right h3 k3 hd)), ⟨as, as', rfl, h2.mono (jh_left _ _), k2.mono (jh_right h3 k3 hd)⟩, (h3.join k3 hd).mono From.cons⟩
theorem read_row {n fuel : Nat} {C : Nat} {cs : List Value} (hC : cs.length = C)
    (ih : ∀ t y σ cs x, shape P n t = some y → DataW.trod enc P w 0 (fun _ => true) true fuel t cs = some x → Rd w y (fun i => σ <:+ i) cs) (σ : Id) :
    ∀ (fs : List Field) (o j : Nat) (y : Ty), o ≤ C → shapeRow P (shape P n) C fs o = some y → (∀ f ∈ fs, ∃ x, DataW.trod enc P w 0 (fun _ => true) true fuel f.type ((cs.drop f.offset).take (P.cellsOf f.type)) = some x) → Rd w y (From σ j) (cs.drop o)
  | [], o, j, y, ho, h, hg => by
    simp only [shapeRow] at h
    split at h
    · rename_i e
      cases h
      rw [List.drop_eq_nil_of_le (by omega)]
      exact ⟨[], _, _, .nil, rfl, Gd.none w _⟩
    · cases h
  | f :: r, o, j, y, ho, h, hg => by
    simp only [shapeRow] at h
    split at h
    case h_2 => cases h
    rename_i y1 z h1 h2
    split at h
    case isFalse => cases h
    rename_i hk
    obtain ⟨k1, k2⟩ := hk
    cases h
    obtain ⟨x, hx⟩ := hg f (by simp)
    have r1 := ih f.type y1 (j :: σ) _ x h1 hx
    have hl : ((cs.drop f.offset).take (P.cellsOf f.type)).length = y1.sz := by
      obtain ⟨as, H, μ, a1, a2, _⟩ := r1
      rw [← a1.length, a2.length]
    have hl2 : o + P.cellsOf f.type ≤ C := by
      rw [List.length_take, List.length_drop, k1] at hl
      omega
    have r2 := read_row hC ih σ r (o + P.cellsOf f.type) (j + 1) z hl2 h2 (fun g hg' => hg g (by simp [hg']))
    have := r1.cons r2
    rw [k1, ← List.drop_drop, List.take_append_drop] at this
    exact this
theorem read_rep {n fuel : Nat} {e : TypeId} {y : Ty} {cs : List Value} (hC : P.cellsOf e = y.sz)
    (ih : ∀ t y σ cs x, shape P n t = some y → DataW.trod enc P w 0 (fun _ => true) true fuel t cs = some x → Rd w y (fun i => σ <:+ i) cs) (hs : shape P n e = some y) (σ : Id) :
    ∀ (m j : Nat), cs.length = (j + m) * y.sz → (∀ i, i < m → ∃ x, DataW.trod enc P w 0 (fun _ => true) true fuel e ((cs.drop ((j + i) * P.cellsOf e)).take (P.cellsOf e)) = some x) → Rd w (.rep m y) (From σ j) (cs.drop (j * y.sz))
  | 0, j, hl, hg => by
    rw [List.drop_eq_nil_of_le (by rw [hl]; simp)]
    exact ⟨[], _, _, .nil, rfl, Gd.none w _⟩
  | m + 1, j, hl, hg => by
    obtain ⟨x, hx⟩ := hg 0 (by omega)
    have r1 := ih e y (j :: σ) _ x hs hx
    have r2 := read_rep hC ih hs σ m (j + 1) (by rw [hl]; congr 1; omega) (fun i hi => by have := hg (i + 1) (by omega); rwa [show j + (i + 1) = j + 1 + i by omega] at this)
    have := r1.cons r2
    rw [hC, show j + 0 = j by omega, show (j + 1) * y.sz = j * y.sz + y.sz by rw [Nat.succ_mul], ← List.drop_drop, List.take_append_drop] at this
    exact this
theorem read_elems {n fuel : Nat} {e : TypeId} {y : Ty} {a : Addr} (hC : P.cellsOf e = y.sz) (ha : a.spot = none)
    (ih : ∀ t y σ cs x, shape P n t = some y → DataW.trod enc P w 0 (fun _ => true) true fuel t cs = some x → Rd w y (fun i => σ <:+ i) cs) (hs : shape P n e = some y) (σ : Id) :
    ∀ (m j : Nat), (∀ i, i < m → ∃ cs x, w.cells? 0 (a.add ((j + i) * P.cellsOf e)) (P.cellsOf e) = some cs ∧ DataW.trod enc P w 0 (fun _ => true) true fuel e cs = some x) →
      ∃ (es : List (List AV)) (vs : List Value) (H : AH) (μ : Mp), es.length = m ∧ (∀ x ∈ es, TS H y x) ∧ VRs μ es.flatten vs ∧ w.rangeAt a.block (a.off + j * y.sz) vs ∧ vs.length = m * y.sz ∧ Gd w (From σ j) H μ
  | 0, j, hg => ⟨[], [], _, _, rfl, (by simp), .nil, (fun k v hk => by simp at hk), (by simp), Gd.none w _⟩
  | m + 1, j, hg => by
    obtain ⟨cs, x, hc, hx⟩ := hg 0 (by omega)
    obtain ⟨as, H, μ, h1, h2, h3⟩ := ih e y (j :: σ) _ x hs hx
    obtain ⟨es, vs, H', μ', k1, k2, k3, k4, k5, k6⟩ := read_elems hC ha ih hs σ m (j + 1) (fun i hi => by have := hg (i + 1) (by omega); rwa [show j + (i + 1) = j + 1 + i by omega] at this)
    have hd : ∀ i, (j :: σ) <:+ i → From σ (j + 1) i → False := From.not
    have hlen : cs.length = y.sz := by rw [← h1.length, h2.length]
    obtain ⟨_, hcl, hat⟩ := World.cells?_some hc
    have ea : a = ⟨a.block, a.off, none⟩ := by cases a; simp only at ha; rw [ha]
    refine ⟨as :: es, cs ++ vs, H.join H', jm μ μ', by simp [k1], fun z hz => ?_, ?_, fun k v hk => ?_, ?_, (h3.join k6 hd).mono From.cons⟩
    · rcases List.mem_cons.1 hz with rfl | hz
      · exact h2.mono (jh_left _ _)
      · exact (k2 z hz).mono (jh_right h3 k6 hd)
    · rw [List.flatten_cons]
      exact (h1.ext (jm_left _ _)).append (k3.ext (jm_right h3 k6 hd))
    · by_cases hk' : k < cs.length
      · rw [List.getElem?_append_left hk'] at hk
        have := hat k (by omega)
        rw [ea, Nat.add_zero, hC, Addr.add_mid, Addr.add_mid] at this
        rw [this]; exact hk
      · rw [List.getElem?_append_right (by omega)] at hk
        have := k4 _ _ hk
        rw [show a.off + (j + 1) * y.sz + (k - cs.length) = a.off + j * y.sz + k by rw [Nat.succ_mul]; omega] at this
        exact this
    · rw [List.length_append, k5, hlen, Nat.succ_mul]; omega
theorem read : ∀ (n fuel : Nat) (t : TypeId) (y : Ty) (σ : Id) (cs : List Value) (x : DataW Hh × List MemPlace), shape P n t = some y → DataW.trod enc P w 0 (fun _ => true) true fuel t cs = some x → Rd w y (fun i => σ <:+ i) cs
  | 0, _, _, _, _, _, _, h, _ => by simp [shape] at h
  | n + 1, fuel, t, y, σ, cs, x, h, hx => by
    simp only [shape] at h
    split at h
    · rename_i e
      cases h
      obtain ⟨b, rfl, _⟩ := DataW.trod_bool e hx
      exact ⟨[.bool b], _, _, .cons (by simp [VR]) .nil, ⟨b, rfl⟩, Gd.none w _⟩
    · rename_i k e
      cases h
      obtain ⟨b, rfl, _, wf⟩ := DataW.trod_int e hx
      exact ⟨[.int k b], _, _, .cons (by simp [VR]) .nil, ⟨b, rfl, wf⟩, Gd.none w _⟩
    · rename_i e
      cases h
      obtain ⟨b, rfl, _, z⟩ := DataW.trod_string e hx
      exact ⟨[.str b], _, _, .cons (by simp [VR]) .nil, ⟨b, rfl, z⟩, Gd.none w _⟩
    · rename_i e ht
      split at h
      case h_2 => cases h
      rename_i y1 h1
      split at h
      case isFalse => cases h
      rename_i hk
      cases h
      rcases Deep.open_slice ht hx with ⟨rfl, _⟩ | ⟨a, len, cap, m, n1, D, Pl, rfl, _, hl, hm, hmm, _, hi⟩
      · exact ⟨[.nils], _, _, .cons (by simp [VR]) .nil, .inl rfl, Gd.none w _⟩
      · rw [if_pos rfl] at hmm
        subst hmm
        by_cases hcap : m = 0
        · subst hcap
          have : len = 0 := by omega
          subst this
          refine ⟨[.slc σ 0 0 y1.sz], (fun i => if i = σ then some ⟨false, []⟩ else none), (fun i => if i = σ then some ⟨0, 0, 0⟩ else none), .cons ?_ .nil, .inr ⟨σ, [], rfl, by simp, by simp, by simp⟩, ⟨fun i hi => ?_, fun i hi => ?_, fun i p b hi hb => ?_⟩⟩
          · simp only [VR]; exact ⟨⟨0, 0, 0⟩, a, 0, by simp, rfl, Nat.le_refl _, by simp, .inr rfl⟩
          · split at hi
            · rename_i e; rw [e]; exact List.suffix_refl _
            · exact absurd rfl hi
          · split at hi
            · cases hi
            · rename_i e; rw [if_neg e]
          · split at hi
            · rename_i e; rw [if_pos e] at hb; cases hb; cases hi
              exact ⟨rfl, by simp, by simp, [], .nil, fun k v hk => by simp at hk⟩
            · cases hi
        · have ha : a.spot = none := by
            obtain ⟨cs', hc, _⟩ := hi 0 (by omega)
            obtain ⟨_, hcl, hat⟩ := World.cells?_some hc
            have := hat 0 (by omega)
            rw [Nat.zero_mul] at this
            have e2 : (a.add 0).add 0 = a := by simp [Addr.add]
            rw [e2] at this
            exact World.cell?_spot (this.trans (List.getElem?_eq_getElem (by omega)))
          have hblk : a.block < w.heap.size := by
            obtain ⟨cs', hc, _⟩ := hi 0 (by omega)
            obtain ⟨_, hcl, hat⟩ := World.cells?_some hc
            have := hat 0 (by omega)
            rw [Nat.zero_mul] at this
            have e2 : (a.add 0).add 0 = a := by simp [Addr.add]
            rw [e2, List.getElem?_eq_getElem (by omega)] at this
            simp only [World.cell?] at this
            split at this
            · rename_i hh; exact (Array.getElem?_eq_some_iff.1 hh).1
            · cases this
          obtain ⟨es, vs, H, μ, k1, k2, k3, k4, k5, k6⟩ := read_elems hk.1 ha (fun t y σ cs x => read n n1 t y σ cs x) h1 σ len 0 (fun i hil => by obtain ⟨cs', h3, h4⟩ := hi i (by omega); exact ⟨cs', _, by rw [Nat.zero_add]; exact h3, h4⟩)
          subst k1
          have hσ : ¬ From σ 0 σ := fun ⟨k, _, h⟩ => absurd h.length_le (Nat.not_succ_le_self _)
          have hμ : μ σ = none := by
            cases e : μ σ with
            | none => rfl
            | some p => exact (hσ (k6.dom σ (by rw [e]; simp))).elim
          have hx := Mp.set_ext (p := ⟨a.block, a.off, m * y1.sz⟩) hμ
          have hup : ∀ i b, H i = some b → (H.set σ (some ⟨false, es.flatten⟩)) i = some b := fun i b e => by
            rw [set_ne (fun e' => by rw [e', k6.tot σ hμ] at e; cases e)]; exact e
          have hfl : es.flatten.length = es.length * y1.sz := by rw [k3.length, k5]
          have hmul : es.length * y1.sz ≤ m * y1.sz := Nat.mul_le_mul_right _ hl
          refine ⟨[.slc σ 0 es.length y1.sz], H.set σ (some ⟨false, es.flatten⟩), μ.set σ ⟨a.block, a.off, m * y1.sz⟩, .cons ?_ .nil, .inr ⟨σ, es, rfl, set_same, fun z hz => (k2 z hz).mono hup, by unfold maxLen at *; omega⟩, ⟨fun i hi => ?_, fun i hi => ?_, fun i p b hi hb => ?_⟩⟩
          · simp only [VR]
            refine ⟨⟨a.block, a.off, m * y1.sz⟩, a, m, by simp [Mp.set], rfl, hl, by simp, .inl ?_⟩
            cases a; simp only at ha; rw [ha]; rfl
          · simp only [Mp.set] at hi
            split at hi
            · rename_i e; rw [e]; exact List.suffix_refl _
            · exact From.sfx i (k6.dom i hi)
          · simp only [Mp.set] at hi; simp only [AH.set]
            split at hi
            · cases hi
            · rename_i e; rw [if_neg e]; exact k6.tot i hi
          · simp only [Mp.set] at hi; simp only [AH.set] at hb
            split at hi
            · rename_i e; rw [if_pos e] at hb; cases hb; cases hi
              exact ⟨rfl, by show es.flatten.length ≤ m * y1.sz; omega, fun _ => hblk, vs, k3.ext hx, by have := k4; rwa [Nat.zero_mul, Nat.add_zero] at this⟩
            · rename_i e; rw [if_neg e] at hb
              obtain ⟨l1, l2, l3, us, l4, l5⟩ := k6.blk i p b hi hb
              exact ⟨l1, l2, l3, us, l4.ext hx, l5⟩
    · rename_i fs ht
      obtain ⟨xs, n1, _, _, hcl, hxl, hg⟩ := DataW.trod_struct ht hx
      have := read_row (enc := enc) (P := P) (w := w) hcl (fun t y σ cs x => read n n1 t y σ cs x) σ fs.toList 0 0 y (by omega) h (fun f hf => by
        obtain ⟨i, hi⟩ := List.getElem?_of_mem hf
        have hi' : fs[i]? = some f := by simpa using hi
        have := hg i f hi'
        have hlt : i < xs.length := by rw [hxl]; exact (Array.getElem?_eq_some_iff.1 hi').1
        rw [List.getElem?_eq_getElem hlt] at this
        exact ⟨_, this⟩)
      rw [List.drop_zero] at this
      obtain ⟨as, H, μ, a1, a2, a3⟩ := this
      exact ⟨as, H, μ, a1, a2, a3.mono From.sfx⟩
    · rename_i k e ht
      split at h
      case h_2 => cases h
      rename_i y1 h1
      split at h
      case isFalse => cases h
      rename_i hk
      cases h
      obtain ⟨xs, n1, _, _, hcl, hxl, hg⟩ := DataW.trod_array ht hx
      have := read_rep (enc := enc) (P := P) (w := w) (cs := cs) hk.1 (fun t y σ cs x => read n n1 t y σ cs x) h1 σ k 0 (by rw [hcl, hk.2, Nat.zero_add]) (fun i hi => by
        have := hg i hi
        rw [List.getElem?_eq_getElem (by omega : i < xs.length)] at this
        exact ⟨_, by rw [Nat.zero_add]; exact this⟩)
      rw [Nat.zero_mul, List.drop_zero] at this
      obtain ⟨as, H, μ, a1, a2, a3⟩ := this
      exact ⟨as, H, μ, a1, a2, a3.mono From.sfx⟩
    · cases h
end
/-- An argument that can be told: a row of cells, or one. -/
def TArg (H : AH) (row : Bool) (y : Ty) (a : AV) : Prop := if row then ∃ l, a = .agg l ∧ TS H y l else TS H y [a]
theorem TArg.mono {H H' : AH} (hh : ∀ i b, H i = some b → H' i = some b) {row : Bool} {y : Ty} {a : AV} (h : TArg H row y a) : TArg H' row y a := by
  unfold TArg at *
  cases row
  · exact TS.mono hh h
  · obtain ⟨l, h1, h2⟩ := h; exact ⟨l, h1, h2.mono hh⟩
def Ra (w : World) (q : Bool × Ty) (v : Value) : Prop := ∀ σ : Id, ∃ a H μ, VR μ a v ∧ TArg H q.1 q.2 a ∧ Gd w (fun i => σ <:+ i) H μ
section
variable {Hh : Type} {enc : TypeId × Value → Hh} {P : Program} {w : World} {t : TypeId} {v : Value} {d : DataW Hh} {p : List MemPlace} {y : Ty}
theorem Ra.row (n : Nat) (hs : shape P n t = some y) (hv : ∃ cs, v = .agg cs) (h : DataW.Trod enc P w 0 (fun _ => true) true t v d p) : Ra w (true, y) v := fun σ => by
  obtain ⟨cs, rfl⟩ := hv
  obtain ⟨fuel, hf⟩ := h
  obtain ⟨as, H, μ, h1, h2, h3⟩ := read n fuel t y σ _ _ hs hf
  exact ⟨.agg as, H, μ, by simp only [VR]; exact ⟨cs, rfl, h1⟩, ⟨as, rfl, h2⟩, h3⟩
theorem Ra.one (n : Nat) (hs : shape P n t = some y) (hy : y.sz = 1) (hv : v.cells = #[v]) (h : DataW.Trod enc P w 0 (fun _ => true) true t v d p) : Ra w (false, y) v := fun σ => by
  obtain ⟨fuel, hf⟩ := h
  obtain ⟨as, H, μ, h1, h2, h3⟩ := read n fuel t y σ _ _ hs hf
  rw [hv] at h1
  have hl := h1.length
  match as, hl with
  | [a], _ =>
    obtain ⟨v', vs', e, k1, _⟩ := h1.cons_inv
    cases e
    exact ⟨a, H, μ, k1, h2, h3⟩
end
inductive TArgs (H : AH) : List (Bool × Ty) → List AV → Prop where
  | nil : TArgs H [] []
  | cons {q qs a as} : TArg H q.1 q.2 a → TArgs H qs as → TArgs H (q :: qs) (a :: as)
theorem TArgs.mono {H H' : AH} (hh : ∀ i b, H i = some b → H' i = some b) {qs : List (Bool × Ty)} {as : List AV} (h : TArgs H qs as) : TArgs H' qs as := by
  induction h with
  | nil => exact .nil
  | cons h1 _ ih => exact .cons (h1.mono hh) ih
inductive Ras (w : World) : List (Bool × Ty) → List Value → Prop where
  | nil : Ras w [] []
  | cons {q qs v vs} : Ra w q v → Ras w qs vs → Ras w (q :: qs) (v :: vs)
theorem Ras.all {w : World} {σ : Id} {qs : List (Bool × Ty)} {vs : List Value} (h : Ras w qs vs) : ∀ j, ∃ as H μ, VRs μ as vs ∧ TArgs H qs as ∧ Gd w (From σ j) H μ := by
  induction h with
  | nil => exact fun j => ⟨[], _, _, .nil, .nil, Gd.none w _⟩
  | cons h1 _ ih =>
    intro j
    obtain ⟨a, H, μ, a1, a2, a3⟩ := h1 (j :: σ)
    obtain ⟨as, H', μ', b1, b2, b3⟩ := ih (j + 1)
    have hd : ∀ i, (j :: σ) <:+ i → From σ (j + 1) i → False := From.not
    exact ⟨a :: as, H.join H', jm μ μ', .cons (a1.ext (jm_left _ _)) (b1.ext (jm_right a3 b3 hd)), .cons (a2.mono (jh_left _ _)) (b2.mono (jh_right a3 b3 hd)), (a3.join b3 hd).mono From.cons⟩
/-- A law of arguments that can be told, in the model. -/
theorem law_args {P : Program} (hm : P.follows .mixedOrders = true) {T : FuncId → Option IFunc} (hT : TOk P T) {f : FuncId} {qs : List (Bool × Ty)} {args' : Array Value} {w : World} (ha : Ras w qs args'.toList)
    (hs : ∀ as H, TArgs H qs as → Sp T f as H fun v _ => v = .bool true) : Calls P f args' w fun e w' => e = .returned (.bool true) ∧ RowKit.Below w.heap.size w w' := by
  obtain ⟨as, H, μ, h1, h2, h3⟩ := ha.all (σ := [0]) 0
  have hN : ∀ i, From [0] 0 i → ¬ [1] <:+ i := fun i hi h' => by
    have := From.sfx i hi
    have h4 : ([1] : Id) <:+ [0] := List.suffix_of_suffix_length_le h' this (by simp)
    have := h4.eq_of_length (by simp)
    simp at this
  obtain ⟨n, v, h', k1, rfl⟩ := hs as H h2 [1] (fun i hi => by
    cases e : H i with
    | none => rfl
    | some b => exact (hN i (h3.hdom e) hi).elim)
  obtain ⟨_, hc⟩ := acall_sim (w0 := w) hm hT n f [1] as _ _ k1 μ w args' h1 ⟨RowKit.Below.refl _ _, (fun i p b e1 e2 => by
      obtain ⟨l1, l2, l3, vs, l4, l5⟩ := h3.blk i p b e1 e2
      exact ⟨fun hh => l3 (hh.elim (fun hh => (by rw [l1] at hh; cases hh)) (fun hh => hh)), ⟨vs, l4, l5⟩, l2, fun hh => (by rw [l1] at hh; cases hh), fun _ => l3⟩), (fun i j p q b c hij e1 e2 e3 e4 hb hc => by have := (h3.blk i p b e1 e3).1; rw [hb] at this; cases this), h3.tot⟩ (fun i hi => by
    cases e : μ i with
    | none => rfl
    | some b => exact (hN i (h3.dom i (by rw [e]; simp)) hi).elim)
  refine hc.mono fun e w' hp => ?_
  obtain ⟨μ', v', rfl, _, _, hv, R⟩ := hp
  simp only [VR] at hv
  exact ⟨by rw [hv], R.below⟩
end Go.Proofs.YtgekngfnhhdamaaM
