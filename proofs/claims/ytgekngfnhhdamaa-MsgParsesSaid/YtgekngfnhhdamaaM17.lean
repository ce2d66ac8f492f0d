/- A region of the model in an order of its operations; which orders there are; no conditions. -/
import Derived.Test.YtgekngfnhhdamaaM16
set_option linter.unusedVariables false
set_option linter.unusedSimpArgs false
namespace Go.Proofs.YtgekngfnhhdamaaM
open Go

def aseq (C : CF) (κ : Id) (ops : List IOper) : List Nat → List AV → AH → Option (List AV × AH)
  | [], tm, h => some (tm, h)
  | i :: rest, tm, h =>
    match ops[i]? with
    | none => none
    | some o =>
      match astep C (i :: κ) o tm h with
      | none => none
      | some (tm', h') => aseq C κ ops rest tm' h'
section
variable {P : Program} {w0 : World} {Q : Exit → Act → World → Prop} {C : CF} {κ : Id} {ops : Array Oper}
theorem rops_get : ∀ {l : List Oper} {il : List IOper} {i : Nat} {io : IOper}, rops P ops l = some il → il[i]? = some io → ∃ o, l[i]? = some o ∧ (rsvOp P o.op = some io.op ∨ io.op = .bad) ∧ rguard ops o.guard = some io.guard ∧ io.dst = o.dst
  | [], il, i, io, e, hi => by cases e; simp at hi
  | o :: l, il, i, io, e, hi => by
    unfold rops at e
    split at e
    · rename_i g r h2 h3
      cases e
      cases i with
      | zero =>
        simp at hi; subst hi
        refine ⟨o, rfl, ?_, h2, rfl⟩
        cases hop : rsvOp P o.op with
        | none => exact .inr rfl
        | some op => exact .inl rfl
      | succ i => simp at hi; simpa using rops_get h3 hi
    · cases e
theorem rops_len : ∀ {l : List Oper} {il : List IOper}, rops P ops l = some il → il.length = l.length
  | [], il, e => by cases e; rfl
  | o :: l, il, e => by
    unfold rops at e
    split at e
    · rename_i h2 h3; cases e; simp [rops_len h3]
    · cases e
theorem wanted_sim {μ : Mp} {tm : List AV} {a : Act} (ht : TR μ tm a.tmps) {o : Oper} {g : Option (Nat × Bool)} {b : Bool} (hg : rguard ops o.guard = some g) (e : awanted tm g = some b) : Region.wanted o (yielded ops a.tmps) = b := by
  unfold rguard at hg
  split at hg
  · rename_i hn; cases hg; cases e; simp [Region.wanted, hn]
  · rename_i j want hj
    obtain ⟨t, h1, rfl⟩ := Option.map_eq_some_iff.1 hg
    have hv := ht.get t
    simp only [awanted] at e
    have hlt : ∀ {x : AV}, x ≠ .und → tm.getD t .und = x → t < a.tmps.size := fun hx he => by
      by_cases hl : t < tm.length
      · exact Nat.lt_of_lt_of_le hl ht.len
      · rw [List.getD_eq_getElem?_getD, List.getElem?_eq_none (by omega)] at he
        exact absurd he.symm hx
    split at e
    · rename_i b' hb
      cases e
      rw [hb] at hv; simp only [VR] at hv
      have := hlt (by simp) hb
      rw [Array.getD_eq_getD_getElem?, Array.getElem?_eq_getElem this] at hv
      simp only [Option.getD_some] at hv
      simp only [Region.wanted, hj, yielded, h1, Option.bind_some, Array.getElem?_eq_getElem this, hv]
      simp
    · rename_i l hb
      cases e
      rw [hb] at hv; simp only [VR] at hv
      obtain ⟨cs, hv, _⟩ := hv
      have := hlt (by simp) hb
      rw [Array.getD_eq_getD_getElem?, Array.getElem?_eq_getElem this] at hv
      simp only [Option.getD_some] at hv
      simp only [Region.wanted, hj, yielded, h1, Option.bind_some, Array.getElem?_eq_getElem this, hv]
      simp
    · cases e
theorem suffix_cons_eq {i j : Nat} {κ x : Id} (h1 : (i :: κ) <:+ x) (h2 : (j :: κ) <:+ x) : i = j := by
  obtain ⟨a, rfl⟩ := h1
  obtain ⟨b, hb⟩ := h2
  have h3 : a.length = b.length := by
    have := congrArg List.length hb
    simp at this; omega
  have := List.append_inj hb (by omega)
  simp at this
  exact this.2.symm
theorem MDom.trans {id : Id} {a b c : Mp} (h : MDom id a b) (h' : MDom id b c) : MDom id a c := fun j hj => (h' j hj).elim (h j) .inr
theorem MDom.up {id id' : Id} {a b : Mp} (h : MDom id' a b) (hs : id <:+ id') : MDom id a b := fun j hj => (h j hj).imp (fun x => x) (hs.trans ·)
theorem seq_sim (hC : CSim P w0 C) {iops : List IOper} (hr : rops P ops ops.toList = some iops) : ∀ {l : List Nat} {tm : List AV} {h : AH} {r : List AV × AH}, aseq C κ iops l tm h = some r → l.Nodup → ∀ {μ : Mp} {a : Act} {w : World}, TR μ tm a.tmps → Rel w0 μ h w → (∀ i ∈ l, MFree (i :: κ) μ) →
    (∀ μ' a' w', Ext μ μ' → MDom κ μ μ' → TR μ' r.1 a'.tmps → Rel w0 μ' r.2 w' → a'.defers = a.defers → Q .normal a' w') → wpOps P ops Q l a w
  | [], tm, h, r, e, _, μ, a, w, ht, R, _, HQ => by
    cases e
    exact HQ μ a w (Ext.refl _) (MDom.refl _ _) ht R rfl
  | i :: l, tm, h, r, e, hn, μ, a, w, ht, R, hf, HQ => by
    unfold aseq at e
    split at e
    · cases e
    rename_i io hio
    obtain ⟨o, o1, o2, o3, o4⟩ := rops_get hr hio
    have o1' : ops[i]? = some o := by simpa using o1
    split at e
    · cases e
    rename_i tm' h' hs
    simp only [List.nodup_cons] at hn
    rw [wpOps_cons]
    simp only [wpOp, o1']
    have hput : ∀ v' (a' : Act), a' = a.put o.dst v' → a'.defers = a.defers := fun v' a' he => by subst he; cases o.dst <;> rfl
    unfold astep at hs
    split at hs
    · rename_i hw
      obtain ⟨x, hx, hx2⟩ := Option.map_eq_some_iff.1 hs
      cases hx2
      rw [if_pos (wanted_sim ht o3 hw)]
      have o2 := o2.resolve_right (fun hb => by rw [hb] at hx; simp [aop] at hx)
      refine .inl (Oper.wp_mono ?_ (op_sim (Q := Q) hC R ht (hf i (by simp)) o2 hx))
      intro a' w' hp
      obtain ⟨μ', v', p1, p2, p3, p4, p5⟩ := hp
      refine seq_sim hC hr e hn.2 (μ := μ') (by rw [p5, o4]; exact (ht.ext p1).put p3 _) p4 (fun j hj q hq => ?_) (fun μ'' a'' w'' k1 k2 k3 k4 k5 => HQ μ'' a'' w'' (p1.trans k1) ((p2.up (List.suffix_cons _ _)).trans k2) k3 k4 (k5.trans (hput _ _ p5)))
      cases hmq : μ' q with
      | none => rfl
      | some z =>
        rcases p2 q (by rw [hmq]; simp) with h3 | h3
        · exact absurd (hf j (by simp [hj]) q hq) h3
        · have := suffix_cons_eq h3 hq
          subst this
          exact absurd hj hn.1
    · rename_i hw
      cases hs
      rw [if_neg (by rw [wanted_sim ht o3 hw]; simp)]
      refine seq_sim hC hr e hn.2 (μ := μ) (by rw [o4]; exact ht.put VR.undef _) R (fun j hj => hf j (by simp [hj])) (fun μ'' a'' w'' k1 k2 k3 k4 k5 => HQ μ'' a'' w'' k1 k2 k3 k4 (k5.trans (hput _ _ rfl)))
    · cases hs
end
/-! ### the orders -/
/-- The operations that an operation waits for. -/
def deps (o : Oper) : List Nat := (o.after.toList.filter fun e => Region.binds .any e).map (·.on)
/-- An order in which each operation comes once, behind those that it waits for. -/
def Topo (ops : Array Oper) : (Nat → Bool) → List Nat → Prop
  | done, [] => ∀ i, i < ops.size → done i = true
  | done, i :: l => done i = false ∧ (∃ o, ops[i]? = some o ∧ ∀ j ∈ deps o, done j = true) ∧ Topo ops (fun j => if j = i then true else done j) l
def listedF (a : Array Bool) : Nat → Bool := fun i => a.getD i false
theorem ready_spec {ops : Array Oper} {listed : Array Bool} (hs : listed.size = ops.size) {i : Nat} (h : i ∈ Region.ready .any ops listed) : i < ops.size ∧ listedF listed i = false ∧ ∃ o, ops[i]? = some o ∧ ∀ j ∈ deps o, listedF listed j = true := by
  simp only [Region.ready, List.mem_filter, List.mem_range, Bool.and_eq_true, Bool.not_eq_true'] at h
  obtain ⟨h1, h2, h3⟩ := h
  refine ⟨h1, ?_, ops[i], by simp [h1], fun j hj => ?_⟩
  · unfold listedF
    rw [Array.getD_eq_getD_getElem?, Array.getElem?_eq_getElem (by omega)] at h2 ⊢
    exact h2
  · simp only [Array.getElem?_eq_getElem h1, Option.map_some, Option.getD_some] at h3
    simp only [deps, List.mem_map, List.mem_filter, Array.mem_toList_iff] at hj
    obtain ⟨e, ⟨e1, e2⟩, rfl⟩ := hj
    have := (Array.all_eq_true'.1 h3) e e1
    simp only [e2, Bool.not_true, Bool.false_or] at this
    exact this
theorem ready_of {ops : Array Oper} {listed : Array Bool} (hs : listed.size = ops.size) {i : Nat} {o : Oper} (ho : ops[i]? = some o) (h1 : listedF listed i = false) (h2 : ∀ j ∈ deps o, listedF listed j = true) : i ∈ Region.ready .any ops listed := by
  have hi : i < ops.size := (Array.getElem?_eq_some_iff.1 ho).1
  simp only [Region.ready, List.mem_filter, List.mem_range, Bool.and_eq_true, Bool.not_eq_true']
  refine ⟨hi, ?_, ?_⟩
  · unfold listedF at h1
    rw [Array.getD_eq_getD_getElem?, Array.getElem?_eq_getElem (by omega)] at h1 ⊢
    exact h1
  · simp only [ho, Option.map_some, Option.getD_some]
    refine Array.all_eq_true'.2 fun e he => ?_
    by_cases hb : Region.binds .any e = true
    · have := h2 e.on (by simp only [deps, List.mem_map, List.mem_filter, Array.mem_toList_iff]; exact ⟨e, ⟨he, hb⟩, rfl⟩)
      simp only [hb, Bool.not_true, Bool.false_or]
      exact this
    · simp [hb]
/-- Each operation waits for earlier ones alone. -/
def acyclic (ops : Array Oper) : Bool := ops.toList.zipIdx.all fun p => (deps p.1).all (· < p.2)
theorem acyclic_spec {ops : Array Oper} (h : acyclic ops = true) {i : Nat} {o : Oper} (ho : ops[i]? = some o) : ∀ j ∈ deps o, j < i := by
  intro j hj
  have := List.all_eq_true.1 h (o, i) (List.mk_mem_zipIdx_iff_getElem?.2 (by simpa using ho))
  simpa using List.all_eq_true.1 this j hj
/-- How many wait still. -/
def left (listed : Array Bool) (n : Nat) : Nat := ((List.range n).filter fun i => !listedF listed i).length
theorem all_listed {ops : Array Oper} {listed : Array Bool} (hs : listed.size = ops.size) (hac : acyclic ops = true) (hr : Region.ready .any ops listed = []) : ∀ i, i < ops.size → listedF listed i = true := by
  intro i
  induction i using Nat.strongRecOn with
  | _ i ih =>
    intro hi
    cases hl : listedF listed i with
    | true => rfl
    | false =>
      have := ready_of hs (i := i) (o := ops[i]) (by simp [hi]) hl (fun j hj => by
        have := acyclic_spec hac (o := ops[i]) (i := i) (by simp [hi]) j hj
        exact ih j this (by omega))
      rw [hr] at this
      cases this
theorem listedF_set {listed : Array Bool} {i : Nat} (hi : i < listed.size) : listedF (listed.setIfInBounds i true) = fun j => if j = i then true else listedF listed j := by
  funext j
  unfold listedF
  by_cases hj : j = i
  · subst hj; simp [Array.getD_eq_getD_getElem?, hi]
  · simp [Array.getD_eq_getD_getElem?, Array.getElem?_setIfInBounds_ne (Ne.symm hj), hj]
theorem topo_linearise {ops : Array Oper} (hac : acyclic ops = true) : ∀ (fuel t : Nat) (listed : Array Bool), listed.size = ops.size → ((List.range ops.size).filter fun i => !listedF listed i).length ≤ fuel →
    Topo ops (listedF listed) (Region.linearise.go .any ops fuel t listed [])
  | 0, t, listed, hs, hl => by
    simp only [Region.linearise.go, List.reverse_nil, Topo]
    intro i hi
    have hnil : ((List.range ops.size).filter fun i => !listedF listed i) = [] := List.eq_nil_of_length_eq_zero (by omega)
    cases hq : listedF listed i with
    | true => rfl
    | false =>
      have : i ∈ ((List.range ops.size).filter fun i => !listedF listed i) := by simp [hi, hq]
      rw [hnil] at this; cases this
  | fuel + 1, t, listed, hs, hl => by
    simp only [Region.linearise.go]
    change Topo ops (listedF listed) (match (Region.ready .any ops listed)[t % (Region.ready .any ops listed).length]? with
      | some i => Region.linearise.go .any ops fuel (t / (Region.ready .any ops listed).length) (listed.setIfInBounds i true) [i]
      | none => [].reverse)
    cases hi : (Region.ready .any ops listed)[t % (Region.ready .any ops listed).length]? with
    | none =>
      have hnil : Region.ready .any ops listed = [] := by
        cases hr : Region.ready .any ops listed with
        | nil => rfl
        | cons x xs =>
          rw [hr] at hi
          have hlt : t % (x :: xs).length < (x :: xs).length := Nat.mod_lt _ (by simp)
          simp at hi
          simp at hlt
          omega
      simp only [List.reverse_nil, Topo]
      exact all_listed hs hac hnil
    | some i =>
      simp only []
      rw [linearise_go_acc, List.reverse_singleton, List.singleton_append]
      obtain ⟨h1, h2, h3⟩ := ready_spec hs (List.mem_of_getElem? hi)
      refine ⟨h2, h3, ?_⟩
      rw [← listedF_set (by omega)]
      refine topo_linearise hac fuel _ _ (by simpa using hs) ?_
      have hlt : ((List.range ops.size).filter fun j => !listedF (listed.setIfInBounds i true) j).length < ((List.range ops.size).filter fun j => !listedF listed j).length := by
        rw [listedF_set (by omega)]
        have e1 : ((List.range ops.size).filter fun j => !(if j = i then true else listedF listed j)) = ((List.range ops.size).filter fun j => !listedF listed j).filter fun j => j != i := by
          rw [List.filter_filter]
          congr 1; funext j
          by_cases hj : j = i <;> simp [hj]
        rw [e1]
        have hm : i ∈ ((List.range ops.size).filter fun j => !listedF listed j) := by simp [h1, h2]
        exact List.length_filter_lt_length_iff_exists.2 ⟨i, hm, by simp⟩
      omega
theorem topo_schedule {P : Program} (hm : P.follows .mixedOrders = true) {ops : Array Oper} (hac : acyclic ops = true) (t : Nat) : Topo ops (fun _ => false) (Region.schedule (P.follows .mixedOrders) ops t) := by
  simp only [Region.schedule, hm, Bool.true_or, if_true, Region.linearise]
  have h0 : listedF (Array.replicate ops.size false) = fun _ => false := by
    funext i
    unfold listedF
    rw [Array.getD_eq_getD_getElem?]
    by_cases hi : i < ops.size <;> simp [hi]
  rw [← h0]
  exact topo_linearise hac _ _ _ (by simp) (by simpa using (List.length_filter_le (fun i => !listedF (Array.replicate ops.size false) i) (List.range ops.size)))
end Go.Proofs.YtgekngfnhhdamaaM
