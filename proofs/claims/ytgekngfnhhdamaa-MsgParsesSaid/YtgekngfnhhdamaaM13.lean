/- Each of the machine's operations does what the model's does: appends, copies, calls; no conditions. -/
import Derived.Test.YtgekngfnhhdamaaM12
import Derived.Deep.Upon
import Derived.Lib.AppendZeros
set_option linter.unusedVariables false
set_option linter.unusedSimpArgs false
namespace Go.Proofs.YtgekngfnhhdamaaM
open Go
section
variable {P : Program} {o : Oper} {a : Act} {w w0 : World} {Q : Exit → Act → World → Prop} {μ : Mp} {id : Id} {tm : List AV} {h h' : AH} {v : AV}
/-- An append in place: the block goes on under another name. -/
theorem Rel.onto (R : Rel w0 μ h w) {i1 : Id} {p : Pl} {b : Blk} (hi : μ id = none) (hp : μ i1 = some p) (hb : h i1 = some b) (ho : b.own = true) {f k : Nat} {cs : List AV} {us : List Value} (hk : f + k ≤ b.cells.length) (hu : VRs μ cs us) (hr : f + k + us.length ≤ p.room) :
    w.there p.blk (p.off + f + k) us.length ∧ Rel w0 (μ.set id ⟨p.blk, p.off + f, p.room - f⟩) ((h.set i1 none).set id (some ⟨true, (b.cells.drop f).take k ++ cs⟩)) (w.setCells p.blk (p.off + f + k) us) := by
  have hx := Mp.set_ext (p := ⟨p.blk, p.off + f, p.room - f⟩) hi
  have hne : i1 ≠ id := fun e => by rw [e, hi] at hp; cases hp
  have L := R.blk i1 p b hp hb
  have T := (L.own ho).2
  have hth : w.there p.blk (p.off + f + k) us.length := fun j hj => by
    have := T (f + k + j) (by omega)
    rwa [← Nat.add_assoc, ← Nat.add_assoc] at this
  refine ⟨hth, ?_⟩
  have hin := World.cell?_setCells_in p.blk us (p.off + f + k) w (fun j hj => (hth j hj).1)
  have hsz : (w.setCells p.blk (p.off + f + k) us).heap.size = w.heap.size := setCells_size _ _ _ _
  have hcell : ∀ b' o', (b' ≠ p.blk ∨ o' < p.off + f + k ∨ p.off + f + k + us.length ≤ o') → (w.setCells p.blk (p.off + f + k) us).cell? ⟨b', o', none⟩ = w.cell? ⟨b', o', none⟩ := fun b' o' hh => World.cell?_setCells_out _ _ _ _ _ (fun h1 _ => by simp at h1; subst h1; simpa using hh)
  have hfro : ∀ b' o', (w.setCells p.blk (p.off + f + k) us).frozen? ⟨b', o', none⟩ = w.frozen? ⟨b', o', none⟩ := fun b' o' => World.frozen?_setCells _ _ _ _ _
  have hsome : ∀ b' o', (w.cell? ⟨b', o', none⟩).isSome = true → ((w.setCells p.blk (p.off + f + k) us).cell? ⟨b', o', none⟩).isSome = true := fun b' o' hh => World.isSome_setCells _ _ _ _ _ hh
  refine ⟨below_setCells (L.own ho).1 _ _ R.below, fun j q c h1 h2 => ?_, fun j j' q q' c d hjk h1 h2 h3 h4 hc hd => ?_, fun j hj => ?_⟩
  rotate_left 2
  · simp only [Mp.set] at hj; simp only [AH.set]; split at hj
    · cases hj
    · rename_i e1; rw [if_neg e1]; split
      · rfl
      · exact R.tot _ hj
  · simp only [Mp.set] at h1
    simp only [AH.set] at h2
    split at h1
    · rename_i hj
      rw [if_pos hj] at h2
      cases h1; cases h2
      obtain ⟨vs, k1, k2⟩ := L.vs
      have hl := k1.length
      refine ⟨fun _ => by rw [hsz]; exact L.lt (.inl ho), ⟨(vs.drop f).take k ++ us, (((k1.drop f).take k).append hu).ext hx, fun x v hv => ?_⟩, ?_, fun _ => ⟨(L.own ho).1, fun x hx' => ?_⟩, fun hf => by cases hf⟩
      · have hlen : ((vs.drop f).take k).length = k := by simp; omega
        show World.cell? _ ⟨p.blk, p.off + f + x, none⟩ = some v
        by_cases hxk : x < k
        · rw [List.getElem?_append_left (by omega), List.getElem?_take, if_pos hxk, List.getElem?_drop] at hv
          rw [hcell _ _ (.inr (.inl (by omega)))]
          have := k2 _ _ hv
          rwa [← Nat.add_assoc] at this
        · rw [List.getElem?_append_right (by omega), hlen] at hv
          have hxu := (List.getElem?_eq_some_iff.1 hv).1
          have := hin (x - k) hxu
          rw [show p.off + f + k + (x - k) = p.off + f + x by omega] at this
          rw [this]
          rw [List.getElem?_eq_getElem hxu] at hv
          exact hv
      · have := hu.length
        simp only [List.length_append, List.length_take, List.length_drop]
        show _ ≤ p.room - f
        omega
      · have hx2 : x < p.room - f := hx'
        have := T (f + x) (by omega)
        rw [← Nat.add_assoc] at this
        exact ⟨hsome _ _ this.1, by rw [hfro]; exact this.2⟩
    · rename_i hj
      rw [if_neg hj] at h2
      split at h2
      · cases h2
      rename_i hj1
      have L' := R.blk j q c h1 h2
      obtain ⟨vs, k1, k2⟩ := L'.vs
      refine ⟨fun hh => by rw [hsz]; exact L'.lt hh, ⟨vs, k1.ext hx, fun x v hv => ?_⟩, L'.len, fun hcw => ⟨(L'.own hcw).1, fun x hx => ⟨hsome _ _ ((L'.own hcw).2 x hx).1, by rw [hfro]; exact ((L'.own hcw).2 x hx).2⟩⟩, L'.ro⟩
      rw [hcell]
      · exact k2 x v hv
      · have hx : x < vs.length := (List.getElem?_eq_some_iff.1 hv).1
        have hxl := k1.length
        cases hcw : c.own with
        | true =>
          have := R.sep _ _ _ _ _ _ hj1 h1 hp h2 hb hcw ho
          have := L.len; have := L'.len
          unfold Off at *
          omega
        | false =>
          have := L'.ro hcw (cells_ne k1 hv); have := (L.own ho).1
          omega
  · simp only [Mp.set] at h1 h2
    simp only [AH.set] at h3 h4
    split at h1
    · rename_i e1
      cases h1
      rw [if_neg (fun e2 => hjk (e1.trans e2.symm))] at h2 h4
      split at h4
      · cases h4
      rename_i e2
      have := R.sep _ _ _ _ _ _ (fun e => e2 e.symm) hp h2 hb h4 ho hd
      unfold Off at *
      simp only
      omega
    · rename_i e1
      rw [if_neg e1] at h3
      split at h3
      · cases h3
      rename_i e3
      split at h2
      · rename_i e2
        rw [if_pos e2] at h4
        cases h2
        have := R.sep _ _ _ _ _ _ e3 h1 hp h3 hb hc ho
        unfold Off at *
        simp only
        omega
      · rename_i e2
        rw [if_neg e2] at h4
        split at h4
        · cases h4
        exact R.sep _ _ _ _ _ _ hjk h1 h2 h3 h4 hc hd
/-- What is appended. -/
theorem src_slice (R : Rel w0 μ h w) {t e' : TypeId} {sz n : Nat} {x : AV} {cs : List AV} {u : Value} (hu : P.underlying t = some (.slice e')) (hv : VR μ x u) (e : aslice h sz x = some (n, cs)) (hs : cs.all AV.scalar = true) :
    ∃ us, VRs μ cs us ∧ Src P sz t u n us w := by
  rcases aslice_sim R hv e with ⟨rfl, rfl, rfl⟩ | ⟨ad, cap, us, rfl, h2, h3, h4, h5⟩
  · exact ⟨[], .nil, Src.ofNil w hu 0⟩
  · exact ⟨us, h3, Src.ofSlice w hu ad n cap us h4 h5 (h3.scalars hs)⟩
theorem src_none (R : Rel w0 μ h w) {t e' : TypeId} {sz : Nat} {x : AV} {cs : List AV} {u : Value} (hu : P.underlying t = some (.slice e')) (hv : VR μ x u) (e : aslice h sz x = some (0, cs)) : Src P sz t u 0 [] w := by
  rcases aslice_sim R hv e with ⟨rfl, _, rfl⟩ | ⟨ad, cap, us, rfl, h2, h3, h4, h5⟩
  · exact Src.ofNil w hu 0
  · have : us = [] := List.eq_nil_of_length_eq_zero (by simpa using h4)
    subst this
    exact Src.ofSlice w hu ad 0 cap [] (by simp) (by simp) (by simp)
theorem app_run {t u ty : TypeId} {x y : Operand} (ho : o.op = .call { callee := .builtin .append, args := #[x, y], argTypes := #[t, u] }) {r : Value} {w' : World} (e : (Builtin.append_ #[t, u] o.type #[a.eval x, a.eval y]).run P w = .ok r w') :
    (execOp a.eval o).run P w = .ok (.value r) w' := by
  simp [execOp, ho, resolve, invoke, builtin, e]
/-- An append to a slice whose block goes on under another name. -/
theorem sim_app_to (R : Rel w0 μ h w) (hid : μ id = none) {n : Nat} (hn : ¬ n = 0) {t u el : TypeId} {x y : Operand} {i : TypeInfo} {zv : Value} {cs : List AV} {us : List Value} (ho : o.op = .call { callee := .builtin .append, args := #[x, y], argTypes := #[t, u] })
    (hu : P.underlying t = some (.slice el)) (hi : P.info? el = some i) (g2 : i.zero = some zv) (g3 : zv.cells.size = i.size) (hb1 : 1 ≤ i.bytes) (u1 : VRs μ cs us) (S : Src P i.size u (a.eval y) n us w) (hus : us.length = n * i.size) {i1 : Id} {f m : Nat} {b : Blk} (hb : h i1 = some b)
    (h1 : ∃ p ad cap, μ i1 = some p ∧ a.eval x = .slice (some ad) m cap ∧ m ≤ cap ∧ f + cap * i.size ≤ p.room ∧ (ad = at_ p.blk (p.off + f) ∨ cap = 0)) (hown : b.own = true) (hin : f + m * i.size ≤ b.cells.length) (hk1 : cs.length = n * i.size) (hk2 : (m + n) * i.bytes ≤ roomMost) :
    o.wp P a w (Post w0 μ id o a (.slc id 0 (m + n) i.size) ((h.set i1 none).set id (some ⟨true, (b.cells.drop f).take (m * i.size) ++ cs⟩))) Q := by
  obtain ⟨p, ad, cap, hp, hv, hmc, hroom, had⟩ := h1
  have hnm : m + n ≤ roomMost := Nat.le_trans (Nat.le_mul_of_pos_right (m + n) hb1) hk2
  simp only [roomMost] at hk2 hnm
  by_cases hfit : m + n ≤ cap
  · have had : ad = at_ p.blk (p.off + f) := had.resolve_right (by omega)
    subst had
    have hmul : m * i.size + n * i.size ≤ cap * i.size := by rw [← Nat.add_mul]; exact Nat.mul_le_mul_right _ hfit
    obtain ⟨T, hR⟩ := R.onto hid hp hb hown hin u1 (by omega)
    have hrun := run_append_room_src (P := P) w t u o.type el i hu hi p.blk (p.off + f) m cap (a.eval y) n us S hfit (fun j hj => (T j hj).1) (fun j hj => (T j hj).2)
    refine wp_val (app_run (ty := 0) ho (by rw [hv]; exact hrun)) ⟨_, _, Mp.set_ext hid, MDom.set _ _ _, ?_, hR, rfl⟩
    simp only [VR]
    exact ⟨_, _, _, Mp.set_self _ _ _, rfl, hfit, by simp only; omega, .inl (by simp [at_])⟩
  · have hge := grownCap_ge w (m + n) cap el
    have L := R.blk _ _ _ hp hb
    obtain ⟨os, o1, o2, o3⟩ := VRs.range (vs := []) (n := m * i.size) (l := (b.cells.drop f).take (m * i.size)) L (if_pos hin)
    have hold : (Builtin.firstCells i.size m (.slice (some ad) m cap)).run P w.drew = .ok os.toArray w.drew := by
      refine run_firstCells_some w.drew i.size m ad m cap os o2 (fun j q hq => ?_)
      have hj := (List.getElem?_eq_some_iff.1 hq).1
      rcases had with rfl | h0
      · simp only [at_, Addr.add_mid]; exact o3 j q hq
      · have : m = 0 := by omega
        subst this
        simp at o2; simp [o2] at hj
    have hrun := run_append_grow_src (P := P) w t u o.type el i zv hu hi g2 (some ad) m cap os hold (a.eval y) n us S (by omega) (by omega) (growslice_fits (by omega) hk2)
    have hcsz : (((os ++ us).toArray ++ Builtin.zeroCells zv.cells (grownCap w (m + n) cap el - (m + n))) : Array Value).size = grownCap w (m + n) cap el * i.size := by
      simp only [Array.size_append, List.size_toArray, List.length_append, size_zeroCells, o2, hus, g3, ← Nat.add_mul]
      congr 1; omega
    have hR := (R.kill i1).drew.alloc hid ((os ++ us).toArray ++ Builtin.zeroCells zv.cells (grownCap w (m + n) cap el - (m + n))) el (0, 0) (.inl rfl) (o1.append u1) (by simp) (fun j v hj => by
      have := (List.getElem?_eq_some_iff.1 hj).1
      rw [Array.getElem?_append_left (by simpa using this)]; simpa using hj)
    refine wp_val (app_run (ty := 0) ho (by rw [hv]; exact hrun)) ⟨_, _, Mp.set_ext hid, MDom.set _ _ _, ?_, hR, rfl⟩
    simp only [VR]
    refine ⟨_, _, _, Mp.set_self _ _ _, rfl, by omega, ?_, .inl (by simp [at_])⟩
    simp only [hcsz]; omega
/-- .. and to one that has no room: its block stays. -/
theorem sim_app_no (R : Rel w0 μ h w) (hid : μ id = none) {n : Nat} (hn : ¬ n = 0) {t u el : TypeId} {x y : Operand} {i : TypeInfo} {zv : Value} {cs : List AV} {us : List Value} (ho : o.op = .call { callee := .builtin .append, args := #[x, y], argTypes := #[t, u] })
    (hu : P.underlying t = some (.slice el)) (hi : P.info? el = some i) (g2 : i.zero = some zv) (g3 : zv.cells.size = i.size) (hb1 : 1 ≤ i.bytes) (u1 : VRs μ cs us) (S : Src P i.size u (a.eval y) n us w) (hus : us.length = n * i.size) {i1 : Id} {f m : Nat} {b : Blk} (hb : h i1 = some b)
    (h1 : ∃ p ad cap, μ i1 = some p ∧ a.eval x = .slice (some ad) m cap ∧ m ≤ cap ∧ f + cap * i.size ≤ p.room ∧ (ad = at_ p.blk (p.off + f) ∨ cap = 0) ∧ cap < m + n) (hown : b.own = true) (hin : f + m * i.size ≤ b.cells.length) (hk1 : cs.length = n * i.size) (hk2 : (m + n) * i.bytes ≤ roomMost) :
    o.wp P a w (Post w0 μ id o a (.slc id 0 (m + n) i.size) (h.set id (some ⟨true, (b.cells.drop f).take (m * i.size) ++ cs⟩))) Q := by
  obtain ⟨p, ad, cap, hp, hv, hmc, hroom, had, hfit⟩ := h1
  have hnm : m + n ≤ roomMost := Nat.le_trans (Nat.le_mul_of_pos_right (m + n) hb1) hk2
  simp only [roomMost] at hk2 hnm
  have hge := grownCap_ge w (m + n) cap el
  have L := R.blk _ _ _ hp hb
  obtain ⟨os, o1, o2, o3⟩ := VRs.range (vs := []) (n := m * i.size) (l := (b.cells.drop f).take (m * i.size)) L (if_pos hin)
  have hold : (Builtin.firstCells i.size m (.slice (some ad) m cap)).run P w.drew = .ok os.toArray w.drew := by
    refine run_firstCells_some w.drew i.size m ad m cap os o2 (fun j q hq => ?_)
    have hj := (List.getElem?_eq_some_iff.1 hq).1
    rcases had with rfl | h0
    · simp only [at_, Addr.add_mid]; exact o3 j q hq
    · have : m = 0 := by omega
      subst this
      simp at o2; simp [o2] at hj
  have hrun := run_append_grow_src (P := P) w t u o.type el i zv hu hi g2 (some ad) m cap os hold (a.eval y) n us S (by omega) (by omega) (growslice_fits (by omega) hk2)
  have hcsz : (((os ++ us).toArray ++ Builtin.zeroCells zv.cells (grownCap w (m + n) cap el - (m + n))) : Array Value).size = grownCap w (m + n) cap el * i.size := by
    simp only [Array.size_append, List.size_toArray, List.length_append, size_zeroCells, o2, hus, g3, ← Nat.add_mul]
    congr 1; omega
  have hR := R.drew.alloc hid ((os ++ us).toArray ++ Builtin.zeroCells zv.cells (grownCap w (m + n) cap el - (m + n))) el (0, 0) (.inl rfl) (o1.append u1) (by simp) (fun j v hj => by
    have := (List.getElem?_eq_some_iff.1 hj).1
    rw [Array.getElem?_append_left (by simpa using this)]; simpa using hj)
  refine wp_val (app_run (ty := 0) ho (by rw [hv]; exact hrun)) ⟨_, _, Mp.set_ext hid, MDom.set _ _ _, ?_, hR, rfl⟩
  simp only [VR]
  refine ⟨_, _, _, Mp.set_self _ _ _, rfl, by omega, ?_, .inl (by simp [at_])⟩
  simp only [hcsz]; omega
theorem sim_app (R : Rel w0 μ h w) (ht : TR μ tm a.tmps) (hf : MFree id μ) {t u el : TypeId} {x y : Operand} {x' : Opd} {i : TypeInfo} {z : List AV} {n : Nat} {cs : List AV} {r : AV × AH} (ho : o.op = .call { callee := .builtin .append, args := #[x, y], argTypes := #[t, u] })
    (hu : P.underlying t = some (.slice el)) (hi : P.info? el = some i) (hz : rzero P el = some z) (hb1 : 1 ≤ i.bytes) (hx : ropd x = some x') (e : aapp h id i.size i.bytes (ev tm x') n cs = some r)
    (hsrc : cs.all AV.scalar = true → ∃ us, VRs μ cs us ∧ Src P i.size u (a.eval y) n us w) (hsrc0 : n = 0 → Src P i.size u (a.eval y) 0 [] w) : o.wp P a w (Post w0 μ id o a r.1 r.2) Q := by
  have h1 := ropd_sim ht hx
  generalize ev tm x' = X at *
  obtain ⟨i', zv, g1, g2, g3, g4⟩ := rzero_info hz
  rw [hi] at g1; cases g1
  have hid := hf id (List.suffix_refl _)
  unfold aapp at e
  split at e
  · rename_i hn
    subst hn
    have S := hsrc0 rfl
    split at e
    · cases e
      simp only [VR] at h1
      refine wp_val (v := .slice none 0 0) (app_run (ty := 0) ho ?_) ⟨μ, _, Ext.refl _, MDom.refl _ _, by simp only [VR], R, rfl⟩
      rw [h1]
      exact run_append_nothing w t u o.type el i hu hi none 0 0 (Nat.le_refl _) (a.eval y) S
    · split at e <;> cases e
      rename_i hk
      subst hk
      have h1' := h1
      simp only [VR] at h1'
      obtain ⟨p, ad, cap, hp, hv, hn, hroom, had⟩ := h1'
      refine wp_val (v := a.eval x) (app_run (ty := 0) ho ?_) ⟨μ, _, Ext.refl _, MDom.refl _ _, h1, R, rfl⟩
      rw [hv]
      exact run_append_nothing w t u o.type el i hu hi (some ad) _ cap hn (a.eval y) S
    · split at e <;> cases e
      rename_i hk
      subst hk
      have h1' := h1
      simp only [VR] at h1'
      obtain ⟨p, ad, cap, hp, hv, hn, hroom, had, _⟩ := h1'
      refine wp_val (v := a.eval x) (app_run (ty := 0) ho ?_) ⟨μ, _, Ext.refl _, MDom.refl _ _, h1, R, rfl⟩
      rw [hv]
      exact run_append_nothing w t u o.type el i hu hi (some ad) _ cap hn (a.eval y) S
    · cases e
  rename_i hn
  split at e
  case isFalse => cases e
  rename_i hsc
  obtain ⟨us, u1, S⟩ := hsrc hsc
  have hus := S.newsLen
  split at e
  · -- nil
    split at e <;> cases e
    rename_i hk
    obtain ⟨hk1, hk⟩ := hk
    simp only [VR] at h1
    have hnm : n ≤ roomMost := Nat.le_trans (Nat.le_mul_of_pos_right n hb1) hk
    simp only [roomMost] at hk hnm
    have hge := grownCap_ge w (0 + n) 0 el
    have hrun := run_append_grow_src (P := P) w t u o.type el i zv hu hi g2 none 0 0 [] (run_firstCells_none w.drew i.size 0 0 0) (a.eval y) n us S (by omega) (by omega) (growslice_fits (by omega) (by simpa using hk))
    have hcsz : ((([] ++ us).toArray ++ Builtin.zeroCells zv.cells (grownCap w (0 + n) 0 el - (0 + n))) : Array Value).size = grownCap w (0 + n) 0 el * i.size := by
      simp only [List.nil_append, Array.size_append, List.size_toArray, size_zeroCells, hus, g3, ← Nat.add_mul]
      congr 1; omega
    have hR := R.drew.alloc hid (([] ++ us).toArray ++ Builtin.zeroCells zv.cells (grownCap w (0 + n) 0 el - (0 + n))) el (0, 0) (.inl rfl) u1 (by simp) (fun j v hj => by
      have := (List.getElem?_eq_some_iff.1 hj).1
      rw [Array.getElem?_append_left (by simpa using this)]; simpa using hj)
    refine wp_val (app_run (ty := 0) ho (by rw [h1]; exact hrun)) ⟨_, _, Mp.set_ext hid, MDom.set _ _ _, ?_, hR, rfl⟩
    simp only [VR]
    refine ⟨_, _, grownCap w (0 + n) 0 el, Mp.set_self _ _ _, by rw [Nat.zero_add], by omega, ?_, .inl (by simp [at_])⟩
    simp only [hcsz]; omega
  · -- a slice
    rename_i i1 f m sz'
    split at e
    case h_2 => cases e
    rename_i b hb
    split at e
    case isFalse => cases e
    rename_i hk
    obtain ⟨rfl, hown, hin, hk1, hk2⟩ := hk
    cases e
    simp only [VR] at h1
    exact sim_app_to R hid hn ho hu hi g2 g3 hb1 u1 S hus hb h1 hown hin hk1 hk2
  · -- a slice whose room is known
    rename_i i1 f m sz' c xx
    split at e
    case h_2 => cases e
    rename_i b hb
    split at e
    case isFalse => cases e
    rename_i hk
    obtain ⟨rfl, hown, hin, hk1, hk2⟩ := hk
    simp only [VR] at h1
    obtain ⟨p, ad, cap, hp, hv, hmc, hroom, had, hcc, hex⟩ := h1
    split at e
    · rename_i hfc
      obtain ⟨h2, hput, rfl⟩ := Option.map_eq_some_iff.1 e
      have had' : ad = at_ p.blk (p.off + f) := had.resolve_right (by omega)
      subst had'
      obtain ⟨T, hR⟩ := R.put hp u1 hput
      have hfit : m + n ≤ cap := by omega
      simp only [← Nat.add_assoc] at T hR
      have hrun := run_append_room_src (P := P) w t u o.type el i hu hi p.blk (p.off + f) m cap (a.eval y) n us S hfit (fun j hj => (T j hj).1) (fun j hj => (T j hj).2)
      refine wp_val (app_run (ty := 0) ho (by rw [hv]; exact hrun)) ⟨μ, _, Ext.refl _, MDom.refl _ _, ?_, hR, rfl⟩
      simp only [VR]
      exact ⟨_, _, _, hp, rfl, hfit, hroom, had, hcc, hex⟩
    · rename_i hfc
      split at e
      · rename_i hxx
        cases e
        have := hex hxx
        exact sim_app_no R hid hn ho hu hi g2 g3 hb1 u1 S hus hb ⟨p, ad, cap, hp, hv, hmc, hroom, had, by omega⟩ hown hin hk1 hk2
      · cases e
        exact sim_app_to R hid hn ho hu hi g2 g3 hb1 u1 S hus hb ⟨p, ad, cap, hp, hv, hmc, hroom, had⟩ hown hin hk1 hk2
  · cases e
theorem run_append_grow_zeros {P : Program} (w : World) (t tn ty e : TypeId) (i : TypeInfo) (z : Value) (k kn : IntKind) (ht : P.underlying t = some (.slice e)) (htn : P.underlying tn = some (.int kn)) (hi : P.info? e = some i) (hz : i.zero = some z) (base : Option Addr) (sLen sCap : Nat) (olds : List Value)
    (hold : (Builtin.firstCells i.size sLen (.slice base sLen sCap)).run P w.drew = .ok olds.toArray w.drew) (n : Nat) (h0 : 0 < n) (hs : 0 < i.size) (hg : sCap < sLen + n) (h63 : ((sLen + n : Nat) : Int) ≤ 9223372036854775807) (hfit : Builtin.nextslicecap (sLen + n) sCap * i.bytes ≤ 281474976710656) (hnb : n * i.bytes ≤ 281474976710656) :
    (Builtin.append_ #[t, tn] ty #[.slice base sLen sCap, .int k n]).run P w =
      .ok (.slice (some ⟨w.heap.size, 0, none⟩) (sLen + n) (grownCap w (sLen + n) sCap e))
        (w.drew.alloc (.cells (olds.toArray ++ Builtin.zeroCells z.cells n ++ Builtin.zeroCells z.cells (grownCap w (sLen + n) sCap e - (sLen + n))) e)) := by
  have hn : ¬ (sLen + n ≤ sCap) := by omega
  have hw : IntKind.i64.wrap (n : Int) = n := by rw [IntKind.wrap_i64]; omega
  have h63' : ¬ (9223372036854775807 < ((sLen : Int) + (n : Int))) := by omega
  have h48' : ¬ (281474976710656 < Builtin.nextslicecap (sLen + n) sCap * i.bytes) := by omega
  have h48i : ¬ (281474976710656 < (n : Int) * (i.bytes : Int)) := by
    rw [← Int.natCast_mul]
    omega
  have hneg : ¬ ((n : Int) < 0) := by omega
  have hns : ¬ (n * i.size = 0) := Nat.mul_ne_zero (by omega) (by omega)
  simp [Builtin.append_, run_underlying ht, run_underlying htn, sizeOf, typeInfo, zeroValue, hi, hz, asInt, asIntOf, hw, hn, hneg, hns, h63', h48', h48i, Question.forced, hold, newRow, grownCap]
theorem sim_appZ (R : Rel w0 μ h w) (ht : TR μ tm a.tmps) (hf : MFree id μ) {t u el : TypeId} {x y : Operand} {x' y' : Opd} {i : TypeInfo} {z : List AV} {kn : IntKind} {i1 : Id} {f m c : Nat} {k : Int} {b : Blk} (ho : o.op = .call { callee := .builtin .append, args := #[x, y], argTypes := #[t, u] })
    (hu : P.underlying t = some (.slice el)) (hu' : P.underlying u = some (.int kn)) (hi : P.info? el = some i) (hz : rzero P el = some z) (hb1 : 1 ≤ i.bytes) (hs1 : 1 ≤ i.size) (hx : ropd x = some x') (hy : ropd y = some y') (ex : ev tm x' = .slk i1 f m i.size c true) (ey : aint (ev tm y') = some k) (hb : h i1 = some b)
    (hk1 : 1 ≤ k) (hcm : c < m + k.toNat) (hin : f + m * i.size ≤ b.cells.length) (hk2 : (m + k.toNat) * i.bytes ≤ roomMost) :
    o.wp P a w (Post w0 μ id o a (.slc id 0 (m + k.toNat) i.size) (h.set id (some ⟨true, (b.cells.drop f).take (m * i.size) ++ azeros z k.toNat⟩))) Q := by
  have h1 := ropd_sim ht hx
  rw [ex] at h1
  obtain ⟨kk, hkk⟩ := aintO_sim ht hy ey
  obtain ⟨n, rfl⟩ : ∃ n : Nat, k = n := ⟨k.toNat, by omega⟩
  simp only [Int.toNat_natCast] at *
  obtain ⟨i', zv, g1, g2, g3, g4⟩ := rzero_info hz
  rw [hi] at g1; cases g1
  have hid := hf id (List.suffix_refl _)
  simp only [VR] at h1
  obtain ⟨p, ad, cap, hp, hv, hmc, hroom, had, hcc, hex⟩ := h1
  have hcap : cap = c := by simpa using hex
  subst hcap
  have hnm : m + n ≤ roomMost := Nat.le_trans (Nat.le_mul_of_pos_right (m + n) hb1) hk2
  have hnb : n * i.bytes ≤ (m + n) * i.bytes := Nat.mul_le_mul_right _ (by omega)
  simp only [roomMost] at hk2 hnm
  have hge := grownCap_ge w (m + n) cap el
  have L := R.blk _ _ _ hp hb
  obtain ⟨os, o1, o2, o3⟩ := VRs.range (vs := []) (n := m * i.size) (l := (b.cells.drop f).take (m * i.size)) L (if_pos hin)
  have hold : (Builtin.firstCells i.size m (.slice (some ad) m cap)).run P w.drew = .ok os.toArray w.drew := by
    refine run_firstCells_some w.drew i.size m ad m cap os o2 (fun j q hq => ?_)
    have hj := (List.getElem?_eq_some_iff.1 hq).1
    rcases had with rfl | h0
    · simp only [at_, Addr.add_mid]; exact o3 j q hq
    · have : m = 0 := by omega
      subst this
      simp at o2; simp [o2] at hj
  have hrun := run_append_grow_zeros (P := P) w t u o.type el i zv kk kn hu hu' hi g2 (some ad) m cap os hold n (by omega) (by omega) (by omega) (by omega) (growslice_fits (by omega) hk2) (by omega)
  have hzz := zeros_sim (g4 μ) n
  have hcsz : ((os.toArray ++ Builtin.zeroCells zv.cells n ++ Builtin.zeroCells zv.cells (grownCap w (m + n) cap el - (m + n))) : Array Value).size = grownCap w (m + n) cap el * i.size := by
    simp only [Array.size_append, List.size_toArray, size_zeroCells, o2, g3, ← Nat.add_mul]
    congr 1; omega
  have hzl : (Builtin.zeroCells zv.cells n).toList = ((Array.range (n * zv.cells.size)).map fun k => zv.cells[k % zv.cells.size]!).toList := rfl
  have hR := R.drew.alloc hid (os.toArray ++ Builtin.zeroCells zv.cells n ++ Builtin.zeroCells zv.cells (grownCap w (m + n) cap el - (m + n))) el (0, 0) (.inl rfl) (o1.append hzz) (by simp [size_zeroCells]) (fun j v hj => by
    have hjl := (List.getElem?_eq_some_iff.1 hj).1
    rw [Array.getElem?_append_left (by simpa [size_zeroCells] using hjl)]
    have e : (os.toArray ++ Builtin.zeroCells zv.cells n)[j]? = (os ++ (Builtin.zeroCells zv.cells n).toList)[j]? := by rw [← Array.getElem?_toList]; simp
    rw [e, hzl]; exact hj)
  refine wp_val (app_run (ty := 0) ho (by rw [hv, hkk]; exact hrun)) ⟨_, _, Mp.set_ext hid, MDom.set _ _ _, ?_, hR, rfl⟩
  simp only [VR]
  refine ⟨_, _, _, Mp.set_self _ _ _, rfl, by omega, ?_, .inl (by simp [at_])⟩
  simp only [hcsz]; omega
end
end Go.Proofs.YtgekngfnhhdamaaM
