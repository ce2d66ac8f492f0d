/- Each of the machine's operations does what the model's does: texts, rows, cuts, calls; no conditions. -/
import Derived.Test.YtgekngfnhhdamaaM9
set_option linter.unusedVariables false
set_option linter.unusedSimpArgs false
namespace Go.Proofs.YtgekngfnhhdamaaM
open Go
section
variable {P : Program} {o : Oper} {a : Act} {w w0 : World} {Q : Exit → Act → World → Prop} {μ : Mp} {id : Id} {tm : List AV} {h h' : AH} {v : AV}
theorem Mp.set_self (μ : Mp) (i : Id) (p : Pl) : (μ.set i p) i = some p := by simp [Mp.set]
/-! ### texts and bytes -/
theorem bytes_VRs (s : ByteArray) : VRs μ (s.data.toList.map fun b => AV.int .u8 b.toNat) (byteCells s) := VRs.map (fun _ => VR_int) _
theorem bytesWorld_eq (w : World) (e : TypeId) (s : ByteArray) : Lib.bytesWorld w e s = w.drew.alloc (.cells (Lib.bytesCells w e s) e ((Lib.bytesCells w e s).size, (Lib.bytesCells w e s).size + 1)) := by
  unfold Lib.bytesWorld
  simp only [World.freeze, World.alloc, World.drew, Nat.one_ne_zero, if_false]
  congr 1
  apply Array.ext_getElem?
  intro i
  rw [Array.getElem?_modify, Array.getElem?_push, Array.getElem?_push]
  by_cases hi : w.heap.size = i
  · subst hi; simp
  · simp [hi, Ne.symm hi]
theorem sim_s2b (R : Rel w0 μ h w) (ht : TR μ tm a.tmps) (hf : MFree id μ) {t u e : TypeId} {x : Operand} {y : Opd} {s : ByteArray} (ho : o.op = .convert t u x) (hs : P.underlying t = some .string) (hd : P.underlying u = some (.slice e)) (he : P.underlying e = some (.int .u8))
    (hx : ropd x = some y) (ey : ev tm y = .str s) : o.wp P a w (Post w0 μ id o a (.slc id 0 s.size 1) (h.set id (some ⟨true, s.data.toList.map fun b => .int .u8 b.toNat⟩))) Q := by
  have h1 := ropd_sim ht hx
  rw [ey] at h1; simp only [VR] at h1
  have hi := hf id (List.suffix_refl _)
  have hge := grownCap_ge w s.size 0 e
  have hsz : (Lib.bytesCells w e s).size = grownCap w s.size 0 e := by
    simp only [Lib.bytesCells, Array.size_append, Array.size_map, Array.size_replicate]
    have : s.data.size = s.size := rfl
    omega
  have hR := R.drew.alloc hi (Lib.bytesCells w e s) e ((Lib.bytesCells w e s).size, (Lib.bytesCells w e s).size + 1) (.inr (Nat.le_refl _)) (bytes_VRs s) (by rw [byteCells_length, hsz]; exact hge) (fun j v hj => by
    have hj' : j < (byteCells s).length := (List.getElem?_eq_some_iff.1 hj).1
    rw [byteCells_length] at hj'
    have : s.data.size = s.size := rfl
    simp only [Lib.bytesCells]
    rw [Array.getElem?_append_left (by simp; omega)]
    simpa [byteCells] using hj)
  refine wp_val (v := .slice (some ⟨w.heap.size, 0, none⟩) s.size (grownCap w s.size 0 e)) (w' := Lib.bytesWorld w e s) ?_ ⟨_, _, Mp.set_ext hi, MDom.set _ _ _, ?_, by rw [bytesWorld_eq]; exact hR, rfl⟩
  · simp [execOp, ho, h1, Lib.run_convert_string_bytes w t u e s hs hd he]
  · simp only [VR]
    exact ⟨_, _, _, Mp.set_self _ _ _, rfl, hge, by simp [hsz], .inl (by simp [at_])⟩
theorem aslice_sim (R : Rel w0 μ h w) {sz n : Nat} {x : AV} {cs : List AV} {u : Value} (hv : VR μ x u) (e : aslice h sz x = some (n, cs)) :
    (u = .slice none 0 0 ∧ n = 0 ∧ cs = []) ∨ ∃ ad cap us, u = .slice (some ad) n cap ∧ n ≤ cap ∧ VRs μ cs us ∧ us.length = n * sz ∧ ∀ (j : Nat) q, us[j]? = some q → w.cell? (ad.add j) = some q := by
  unfold aslice at e
  have hv := hv.fg
  generalize x.fg = y at *
  split at e
  · cases e; simp only [VR] at hv; exact .inl ⟨hv, rfl, rfl⟩
  · rename_i i f n' sz'
    split at e
    case isFalse => cases e
    rename_i hk
    subst hk
    obtain ⟨l, hl, e⟩ := Option.map_eq_some_iff.1 e
    cases e
    simp only [VR] at hv
    obtain ⟨p, ad, cap, hp, hv, hn, hroom, had⟩ := hv
    obtain ⟨us, u1, u2, u3⟩ := cellsAt_sim R hp hl
    refine .inr ⟨ad, cap, us, hv, hn, u1, u2, fun j q hq => ?_⟩
    rcases had with rfl | h0
    · simp only [at_, Addr.add_mid]; exact u3 j q hq
    · have hj : j < us.length := (List.getElem?_eq_some_iff.1 hq).1
      have : n = 0 := by omega
      subst this
      simp at u2; simp [u2] at hj
  · cases e
theorem abytes_sim : ∀ {l : List AV} {bs : List UInt8} {us : List Value}, abytes l = some bs → VRs μ l us → ∃ xs : List Int, us = xs.map (Value.int .u8) ∧ bs = xs.map fun n => UInt8.ofNat n.toNat
  | [], bs, us, e, hv => by rw [hv.nil_inv]; cases e; exact ⟨[], rfl, rfl⟩
  | x :: l, bs, us, e, hv => by
    unfold abytes at e
    split at e
    · rename_i heq; cases heq
    · rename_i n l' heq
      cases heq
      obtain ⟨bs', hb, rfl⟩ := Option.map_eq_some_iff.1 e
      obtain ⟨u, us', rfl, k1, k2⟩ := hv.cons_inv
      simp only [VR] at k1
      obtain ⟨xs, rfl, rfl⟩ := abytes_sim hb k2
      exact ⟨n :: xs, by simp [k1], rfl⟩
    · cases e
theorem sim_b2s (R : Rel w0 μ h w) (ht : TR μ tm a.tmps) {t u e : TypeId} {x : Operand} {y : Opd} {n : Nat} {l : List AV} {bs : List UInt8} (ho : o.op = .convert t u x) (hs : P.underlying t = some (.slice e)) (he : P.underlying e = some (.int .u8)) (hd : P.underlying u = some .string)
    (hx : ropd x = some y) (ey : aslice h 1 (ev tm y) = some (n, l)) (eb : abytes l = some bs) : o.wp P a w (Post w0 μ id o a (.str ⟨bs.toArray⟩) h) Q := by
  rcases aslice_sim R (ropd_sim ht hx) ey with ⟨h1, rfl, rfl⟩ | ⟨ad, cap, us, h1, h2, h3, h4, h5⟩
  · simp only [abytes] at eb; cases eb
    refine post_val R (x := .string ByteArray.empty) (by simp [execOp, ho, h1, run_convert_bytes_nil w t e hs he 0 0 u hd]) ?_
    simp only [VR]; rfl
  · obtain ⟨xs, rfl, rfl⟩ := abytes_sim eb h3
    rw [Nat.mul_one] at h4
    refine post_val R (x := .string (strOfNums xs)) ?_ (by simp only [VR]; rfl)
    have hl : (loadCells ad n).run P w = .ok (xs.map (Value.int .u8)).toArray w := by
      have := run_loadCells_list (P := P) w ad (xs.map (Value.int .u8)) h5
      simpa [← h4] using this
    have : (convert t u (.slice (some ad) n cap)).run P w = .ok (.string (strOfNums xs)) w := by
      rw [run_convert_bytes_string w t u e _ n cap hs he hd, run_bytesToString w _ n cap xs hl, foldl_push_bytes]
      simp [strOfNums, ByteArray.empty, ByteArray.emptyWithCapacity]
      rfl
    simp [execOp, ho, h1, this]
/-! ### lengths, the greatest and the least -/
theorem sim_lenS (R : Rel w0 μ h w) (ht : TR μ tm a.tmps) {t : TypeId} {x : Operand} {y : Opd} {s : ByteArray} (ho : o.op = .call { callee := .builtin .len, args := #[x], argTypes := #[t] }) (hu : P.underlying t = some .string) (hx : ropd x = some y) (ey : ev tm y = .str s) :
    o.wp P a w (Post w0 μ id o a (.int .i64 s.size) h) Q := by
  have h1 := ropd_sim ht hx
  rw [ey] at h1; simp only [VR] at h1
  exact post_val R (x := .int .i64 s.size) (by simp [execOp, ho, resolve, invoke, builtin, Builtin.len_, h1, run_underlying hu, goInt]) VR_int
theorem sim_lenL (R : Rel w0 μ h w) (ht : TR μ tm a.tmps) {t e : TypeId} {x : Operand} {y : Opd} {n : Nat} (ho : o.op = .call { callee := .builtin .len, args := #[x], argTypes := #[t] }) (hu : P.underlying t = some (.slice e)) (hx : ropd x = some y)
    (ey : ((ev tm y).fg = .nils ∧ n = 0) ∨ ∃ i f sz, (ev tm y).fg = .slc i f n sz) : o.wp P a w (Post w0 μ id o a (.int .i64 n) h) Q := by
  have h1 := (ropd_sim ht hx).fg
  rcases ey with ⟨ey, rfl⟩ | ⟨i, f, sz, ey⟩ <;> rw [ey] at h1 <;> simp only [VR] at h1
  · exact post_val R (x := .int .i64 0) (by simp [execOp, ho, resolve, invoke, builtin, Builtin.len_, h1, run_underlying hu, goInt]) VR_int
  · obtain ⟨p, ad, cap, hp, hv, _⟩ := h1
    exact post_val R (x := .int .i64 n) (by simp [execOp, ho, resolve, invoke, builtin, Builtin.len_, hv, run_underlying hu, goInt]) VR_int
theorem sim_capL (R : Rel w0 μ h w) (ht : TR μ tm a.tmps) {t e : TypeId} {x : Operand} {y : Opd} {i : Id} {f n sz c : Nat} (ho : o.op = .call { callee := .builtin .cap, args := #[x], argTypes := #[t] }) (hu : P.underlying t = some (.slice e)) (hx : ropd x = some y)
    (ey : ev tm y = .slk i f n sz c true) : o.wp P a w (Post w0 μ id o a (.int .i64 c) h) Q := by
  have h1 := ropd_sim ht hx
  rw [ey] at h1; simp only [VR] at h1
  obtain ⟨p, ad, cap, hp, hv, hn, hroom, had, hcc, hex⟩ := h1
  have hcap : cap = c := by simpa using hex
  subst hcap
  exact post_val R (x := .int .i64 cap) (by simp [execOp, ho, resolve, invoke, builtin, Builtin.cap_, hv, run_underlying hu, goInt]) VR_int
theorem sim_lenA (R : Rel w0 μ h w) {t e : TypeId} {x : Operand} {n : Nat} (ho : o.op = .call { callee := .builtin .len, args := #[x], argTypes := #[t] }) (hu : P.underlying t = some (.array n e)) : o.wp P a w (Post w0 μ id o a (.int .i64 n) h) Q :=
  post_val R (x := .int .i64 n) (by simp [execOp, ho, resolve, invoke, builtin, Builtin.len_, run_underlying hu, goInt]) VR_int
theorem sim_lenP (R : Rel w0 μ h w) {t e r : TypeId} {x : Operand} {n : Nat} (ho : o.op = .call { callee := .builtin .len, args := #[x], argTypes := #[t] }) (hu : P.underlying t = some (.pointer r)) (hr : P.underlying r = some (.array n e)) : o.wp P a w (Post w0 μ id o a (.int .i64 n) h) Q :=
  post_val R (x := .int .i64 n) (by simp [execOp, ho, resolve, invoke, builtin, Builtin.len_, run_underlying hu, run_underlying hr, goInt]) VR_int
theorem amaxiGo_sim {big : Bool} {k : IntKind} : ∀ {l : List AV} {n : Int} {us : List Value}, amaxiGo big k n l = some v → VRs μ l us → ∃ r, (us.foldlM (if big then Builtin.max2 else Builtin.min2) (.int k n)).run P w = .ok (.int k r) w ∧ v = .int k r
  | [], n, us, e, hv => by rw [hv.nil_inv]; cases e; exact ⟨n, by simp, rfl⟩
  | x :: l, n, us, e, hv => by
    unfold amaxiGo at e
    split at e
    · rename_i heq; cases heq
    · rename_i k' m l' heq
      cases heq
      obtain ⟨u, us', rfl, k1, k2⟩ := hv.cons_inv
      simp only [VR] at k1
      subst k1
      obtain ⟨r, r1, r2⟩ := amaxiGo_sim e k2
      refine ⟨r, ?_, r2⟩
      rw [List.foldlM_cons, Sem.run_bind]
      cases big
      · simp only [Bool.false_eq_true, if_false, Builtin.min2, Sem.run_pure, Result.andThen_ok] at r1 ⊢; exact r1
      · simp only [if_true, Builtin.max2, Sem.run_pure, Result.andThen_ok] at r1 ⊢; exact r1
    · cases e
theorem sim_maxi (R : Rel w0 μ h w) (ht : TR μ tm a.tmps) {big : Bool} {ts : Array TypeId} {xs : Array Operand} {y : Opd} {ys : List Opd} (ho : o.op = .call { callee := .builtin (if big then .max else .min), args := xs, argTypes := ts }) (hx : ropds xs.toList = some (y :: ys))
    (e : amaxi big ((y :: ys).map (ev tm)) = some v) : o.wp P a w (Post w0 μ id o a v h) Q := by
  have h1 := ropds_sim ht hx
  have h1' : VRs μ ((y :: ys).map (ev tm)) (xs.map a.eval).toList := by simpa using h1
  generalize hX : xs.map a.eval = X at *
  generalize (y :: ys).map (ev tm) = l at *
  unfold amaxi at e
  split at e
  · rename_i k n rest
    obtain ⟨u, us, hu, k1, k2⟩ := h1'.cons_inv
    simp only [VR] at k1
    obtain ⟨r, r1, rfl⟩ := amaxiGo_sim (P := P) (w := w) e k2
    refine post_val R (x := .int k r) ?_ VR_int
    cases big
    · simp only [Bool.false_eq_true, if_false] at r1 ho
      simp [execOp, ho, resolve, invoke, builtin, Builtin.min_, hX, hu, k1, r1]
    · simp only [if_true] at r1 ho
      simp [execOp, ho, resolve, invoke, builtin, Builtin.max_, hX, hu, k1, r1]
  · cases e
/-! ### cuts -/
theorem aintO_sim (ht : TR μ tm a.tmps) {x : Operand} {y : Opd} {n : Int} (hx : ropd x = some y) (e : aint (ev tm y) = some n) : ∃ k, a.eval x = .int k n := aint_sim (ropd_sim ht hx) e
theorem bounds_sim (ht : TR μ tm a.tmps) {lo hi : Option Operand} {lo' hi' : Option Opd} {n cap : Nat} {isS : Bool} {p : Nat × Nat} (hl : ropdO lo = some lo') (hh : ropdO hi = some hi') (hn : n ≤ cap) (e : abounds tm n lo' hi' = some p) :
    (Instr.sliceBounds isS n cap (lo.map a.eval) (hi.map a.eval) none).run P w = .ok (p.1, p.2, cap) w ∧ p.1 ≤ p.2 ∧ p.2 ≤ n := by
  unfold abounds at e
  have g : ∀ {q : Option Operand} {q' : Option Opd} {d r : Int}, ropdO q = some q' → abnd tm d q' = some r → (q = none ∧ r = d) ∨ ∃ x k, q = some x ∧ a.eval x = .int k r := by
    intro q q' d r hq hr
    cases q with
    | none => simp only [ropdO] at hq; cases hq; simp only [abnd] at hr; cases hr; exact .inl ⟨rfl, rfl⟩
    | some x =>
      obtain ⟨y, hy, rfl⟩ := Option.map_eq_some_iff.1 hq
      obtain ⟨k, hk⟩ := aintO_sim ht hy hr
      exact .inr ⟨x, k, rfl, hk⟩
  cases g1 : abnd tm n hi' with
  | none => simp [g1] at e
  | some hv =>
  cases g3 : abnd tm 0 lo' with
  | none => simp [g1, g3] at e
  | some lv =>
  have g2 := g hh g1
  have g4 := g hl g3
  rw [g1, g3] at e
  simp only at e
  split at e <;> cases e
  rename_i hb
  refine ⟨?_, by simp; omega, by simp; omega⟩
  have c1 : 0 ≤ hv ∧ hv ≤ (cap : Int) := by omega
  have c2 : 0 ≤ lv ∧ lv ≤ (hv.toNat : Int) := by omega
  rcases g2 with ⟨rfl, rfl⟩ | ⟨x, k, rfl, hx⟩ <;> rcases g4 with ⟨rfl, rfl⟩ | ⟨x', k', rfl, hx'⟩
  · simp [Instr.sliceBounds]
  · have c2' : 0 ≤ lv ∧ lv ≤ (n : Int) := by omega
    simp [Instr.sliceBounds, Instr.sliceBound, hx', asIntOf, c2']
  · simp [Instr.sliceBounds, Instr.sliceBound, hx, asIntOf, c1]
  · have c3 : lv ≤ max hv 0 := by omega
    simp [Instr.sliceBounds, Instr.sliceBound, hx, hx', asIntOf, c1, c2, c3]
theorem boundsK_sim (ht : TR μ tm a.tmps) {lo hi : Option Operand} {lo' hi' : Option Opd} {n c cap : Nat} {isS : Bool} {p : Nat × Nat} (hl : ropdO lo = some lo') (hh : ropdO hi = some hi') (hn : n ≤ cap) (hcc : c ≤ cap) (e : aboundsK tm n c lo' hi' = some p) :
    (Instr.sliceBounds isS n cap (lo.map a.eval) (hi.map a.eval) none).run P w = .ok (p.1, p.2, cap) w ∧ p.1 ≤ p.2 ∧ p.2 ≤ c := by
  unfold aboundsK at e
  have g : ∀ {q : Option Operand} {q' : Option Opd} {d r : Int}, ropdO q = some q' → abnd tm d q' = some r → (q = none ∧ r = d) ∨ ∃ x k, q = some x ∧ a.eval x = .int k r := by
    intro q q' d r hq hr
    cases q with
    | none => simp only [ropdO] at hq; cases hq; simp only [abnd] at hr; cases hr; exact .inl ⟨rfl, rfl⟩
    | some x =>
      obtain ⟨y, hy, rfl⟩ := Option.map_eq_some_iff.1 hq
      obtain ⟨k, hk⟩ := aintO_sim ht hy hr
      exact .inr ⟨x, k, rfl, hk⟩
  cases g1 : abnd tm n hi' with
  | none => simp [g1] at e
  | some hv =>
  cases g3 : abnd tm 0 lo' with
  | none => simp [g1, g3] at e
  | some lv =>
  have g2 := g hh g1
  have g4 := g hl g3
  rw [g1, g3] at e
  simp only at e
  split at e <;> cases e
  rename_i hb
  refine ⟨?_, by simp; omega, by simp; omega⟩
  have c1 : 0 ≤ hv ∧ hv ≤ (cap : Int) := by omega
  have c2 : 0 ≤ lv ∧ lv ≤ (hv.toNat : Int) := by omega
  rcases g2 with ⟨rfl, rfl⟩ | ⟨x, k, rfl, hx⟩ <;> rcases g4 with ⟨rfl, rfl⟩ | ⟨x', k', rfl, hx'⟩
  · simp [Instr.sliceBounds]
  · have c2' : 0 ≤ lv ∧ lv ≤ (n : Int) := by omega
    simp [Instr.sliceBounds, Instr.sliceBound, hx', asIntOf, c2']
  · simp [Instr.sliceBounds, Instr.sliceBound, hx, asIntOf, c1]
  · have c3 : lv ≤ max hv 0 := by omega
    simp [Instr.sliceBounds, Instr.sliceBound, hx, hx', asIntOf, c1, c2, c3]
theorem bounds3_sim (ht : TR μ tm a.tmps) {lo : Option Operand} {hi mx : Operand} {lo' : Option Opd} {hi' mx' : Opd} {n cap : Nat} {m : Int} {isS : Bool} {p : Nat × Nat} (hl : ropdO lo = some lo') (hh : ropd hi = some hi') (hm : ropd mx = some mx') (em : aint (ev tm mx') = some m) (m0 : 0 ≤ m) (m1 : m ≤ (cap : Int)) (e : abounds tm m.toNat lo' (some hi') = some p) :
    (Instr.sliceBounds isS n cap (lo.map a.eval) (some (a.eval hi)) (some (a.eval mx))).run P w = .ok (p.1, p.2, m.toNat) w ∧ p.1 ≤ p.2 ∧ p.2 ≤ m.toNat := by
  unfold abounds at e
  obtain ⟨km, hkm⟩ := aintO_sim ht hm em
  cases g1 : abnd tm m.toNat (some hi') with
  | none => rw [g1] at e; cases e
  | some hv =>
  cases g3 : abnd tm 0 lo' with
  | none => rw [g1, g3] at e; cases e
  | some lv =>
  obtain ⟨kh, hkh⟩ : ∃ k, a.eval hi = .int k hv := aintO_sim ht hh g1
  have g4 : (lo = none ∧ lv = 0) ∨ ∃ x k, lo = some x ∧ a.eval x = .int k lv := by
    cases lo with
    | none => simp only [ropdO] at hl; cases hl; simp only [abnd] at g3; cases g3; exact .inl ⟨rfl, rfl⟩
    | some x =>
      obtain ⟨y, hy, rfl⟩ := Option.map_eq_some_iff.1 hl
      obtain ⟨k, hk⟩ := aintO_sim ht hy g3
      exact .inr ⟨x, k, rfl, hk⟩
  rw [g1, g3] at e
  simp only at e
  split at e <;> cases e
  rename_i hb
  refine ⟨?_, by simp; omega, by simp; omega⟩
  have c0 : 0 ≤ m ∧ m ≤ (cap : Int) := ⟨m0, m1⟩
  have c1 : 0 ≤ hv ∧ hv ≤ (m.toNat : Int) := by omega
  have c2 : 0 ≤ lv ∧ lv ≤ (hv.toNat : Int) := by omega
  have c1' : 0 ≤ hv ∧ hv ≤ max m 0 := by omega
  have c2' : 0 ≤ lv ∧ lv ≤ max hv 0 := by omega
  rcases g4 with ⟨rfl, rfl⟩ | ⟨x', k', rfl, hx'⟩
  · have e1 : (if 0 ≤ m ∧ m ≤ (cap : Int) then (pure m.toNat : Sem Nat) else boundsPanic km m cap (if isS then .slice3Acap else .slice3Alen)) = pure m.toNat := if_pos c0
    have e2 : (if 0 ≤ hv ∧ hv ≤ (m.toNat : Int) then (pure hv.toNat : Sem Nat) else boundsPanic kh hv m.toNat .slice3B) = pure hv.toNat := if_pos c1
    simp only [Instr.sliceBounds, Instr.sliceBound, hkm, hkh, asIntOf, Option.map_none, pure_bind, e1, e2]
    rfl
  · have e1 : (if 0 ≤ m ∧ m ≤ (cap : Int) then (pure m.toNat : Sem Nat) else boundsPanic km m cap (if isS then .slice3Acap else .slice3Alen)) = pure m.toNat := if_pos c0
    have e2 : (if 0 ≤ hv ∧ hv ≤ (m.toNat : Int) then (pure hv.toNat : Sem Nat) else boundsPanic kh hv m.toNat .slice3B) = pure hv.toNat := if_pos c1
    have e3 : (if 0 ≤ lv ∧ lv ≤ (hv.toNat : Int) then (pure lv.toNat : Sem Nat) else boundsPanic k' lv hv.toNat .slice3C) = pure lv.toNat := if_pos c2
    simp only [Instr.sliceBounds, Instr.sliceBound, hkm, hkh, hx', asIntOf, Option.map_some, Option.isSome_some, if_true, pure_bind, e1, e2, e3]
    rfl
theorem sim_slcS3 (R : Rel w0 μ h w) (ht : TR μ tm a.tmps) {t e : TypeId} {x hi mx : Operand} {y hi' mx' : Opd} {lo : Option Operand} {lo' : Option Opd} {sz n f : Nat} {m : Int} {i : Id} {p : Nat × Nat} (ho : o.op = .slice t x lo (some hi) (some mx)) (hu : P.underlying t = some (.slice e)) (hs : rsize P e = some sz) (hx : ropd x = some y) (hl : ropdO lo = some lo') (hh : ropd hi = some hi') (hm : ropd mx = some mx')
    (ey : (ev tm y).fg = .slc i f n sz) (em : aint (ev tm mx') = some m) (m0 : 0 ≤ m) (m1 : m ≤ (n : Int)) (e : abounds tm m.toNat lo' (some hi') = some p) : o.wp P a w (Post w0 μ id o a (.slc i (f + p.1 * sz) (p.2 - p.1) sz) h) Q := by
  have h1 := (ropd_sim ht hx).fg
  rw [ey] at h1; simp only [VR] at h1
  obtain ⟨q, ad, cap, hq, hv, hn, hroom, had⟩ := h1
  obtain ⟨hb, b1, b2⟩ := bounds3_sim (P := P) (w := w) (n := n) (cap := cap) (isS := true) ht hl hh hm em m0 (by omega) e
  obtain ⟨ii, i1, i2⟩ := rsize_info hs
  have hmc : m.toNat ≤ cap := by omega
  have hmul : m.toNat * sz ≤ cap * sz := Nat.mul_le_mul_right _ hmc
  refine post_val R (x := .slice (some (if m.toNat = p.1 then ad else ad.add (p.1 * sz))) (p.2 - p.1) (m.toNat - p.1)) ?_ ?_
  · have : (if m.toNat = p.1 then some ad else some (ad.add (p.1 * sz))) = some (if m.toNat = p.1 then ad else ad.add (p.1 * sz)) := by split <;> rfl
    simp [execOp, ho, hv, Instr.sliceAt, Instr.slice, run_underlying hu, hb, sizeOf, typeInfo, i1, i2, this]
  · simp only [VR]
    refine ⟨q, _, _, hq, rfl, by omega, ?_, ?_⟩
    · have : p.1 * sz + (m.toNat - p.1) * sz = m.toNat * sz := by rw [← Nat.add_mul]; congr 1; omega
      omega
    · by_cases hc : m.toNat = p.1
      · exact .inr (by omega)
      · rw [if_neg hc]
        rcases had with rfl | h0
        · exact .inl (by simp only [at_, Addr.add_mid]; congr 1; omega)
        · omega
theorem sim_slcStr (R : Rel w0 μ h w) (ht : TR μ tm a.tmps) {t : TypeId} {x : Operand} {y : Opd} {lo hi : Option Operand} {lo' hi' : Option Opd} {s : ByteArray} {p : Nat × Nat} (ho : o.op = .slice t x lo hi none) (hu : P.underlying t = some .string) (hx : ropd x = some y) (hl : ropdO lo = some lo') (hh : ropdO hi = some hi')
    (ey : ev tm y = .str s) (e : abounds tm s.size lo' hi' = some p) : o.wp P a w (Post w0 μ id o a (.str (s.extract p.1 p.2)) h) Q := by
  have h1 := ropd_sim ht hx
  rw [ey] at h1; simp only [VR] at h1
  have hb := (bounds_sim (P := P) (w := w) (isS := false) ht hl hh (Nat.le_refl _) e).1
  exact post_val R (x := .string (s.extract p.1 p.2)) (by simp [execOp, ho, h1, Instr.sliceAt, Instr.slice, run_underlying hu, hb]) VR_str
theorem sim_slcS (R : Rel w0 μ h w) (ht : TR μ tm a.tmps) {t e : TypeId} {x : Operand} {y : Opd} {lo hi : Option Operand} {lo' hi' : Option Opd} {sz n f : Nat} {i : Id} {p : Nat × Nat} (ho : o.op = .slice t x lo hi none) (hu : P.underlying t = some (.slice e)) (hs : rsize P e = some sz) (hx : ropd x = some y) (hl : ropdO lo = some lo') (hh : ropdO hi = some hi')
    (ey : ev tm y = .slc i f n sz) (e : abounds tm n lo' hi' = some p) : o.wp P a w (Post w0 μ id o a (if p.2 = n then .slc i (f + p.1 * sz) (p.2 - p.1) sz else .slk i (f + p.1 * sz) (p.2 - p.1) sz (n - p.1) false) h) Q := by
  have h1 := ropd_sim ht hx
  rw [ey] at h1; simp only [VR] at h1
  obtain ⟨q, ad, cap, hq, hv, hn, hroom, had⟩ := h1
  obtain ⟨hb, b1, b2⟩ := bounds_sim (P := P) (w := w) (isS := true) ht hl hh hn e
  obtain ⟨ii, i1, i2⟩ := rsize_info hs
  refine post_val R (x := .slice (some (if cap = p.1 then ad else ad.add (p.1 * sz))) (p.2 - p.1) (cap - p.1)) ?_ ?_
  · have : (if cap = p.1 then some ad else some (ad.add (p.1 * sz))) = some (if cap = p.1 then ad else ad.add (p.1 * sz)) := by split <;> rfl
    simp [execOp, ho, hv, Instr.sliceAt, Instr.slice, run_underlying hu, hb, sizeOf, typeInfo, i1, i2, this]
  · have g1 : f + p.1 * sz + (cap - p.1) * sz ≤ q.room := by
      have : p.1 * sz + (cap - p.1) * sz = cap * sz := by rw [← Nat.add_mul]; congr 1; omega
      omega
    have g2 : (if cap = p.1 then ad else ad.add (p.1 * sz)) = at_ q.blk (q.off + (f + p.1 * sz)) ∨ cap - p.1 = 0 := by
      by_cases hc : cap = p.1
      · exact .inr (by omega)
      · rw [if_neg hc]
        rcases had with rfl | h0
        · exact .inl (by simp only [at_, Addr.add_mid]; congr 1; omega)
        · omega
    split
    · simp only [VR]
      exact ⟨q, _, _, hq, rfl, by omega, g1, g2⟩
    · simp only [VR]
      exact ⟨q, _, _, hq, rfl, by omega, g1, g2, by omega, by simp⟩
theorem sim_slcK (R : Rel w0 μ h w) (ht : TR μ tm a.tmps) {t e : TypeId} {x : Operand} {y : Opd} {lo hi : Option Operand} {lo' hi' : Option Opd} {sz n f : Nat} {i : Id} {p : Nat × Nat} {c : Nat} {xx : Bool} (ho : o.op = .slice t x lo hi none) (hu : P.underlying t = some (.slice e)) (hs : rsize P e = some sz) (hx : ropd x = some y) (hl : ropdO lo = some lo') (hh : ropdO hi = some hi')
    (ey : ev tm y = .slk i f n sz c xx) (e : aboundsK tm n c lo' hi' = some p) : o.wp P a w (Post w0 μ id o a (.slk i (f + p.1 * sz) (p.2 - p.1) sz (c - p.1) xx) h) Q := by
  have h1 := ropd_sim ht hx
  rw [ey] at h1; simp only [VR] at h1
  obtain ⟨q, ad, cap, hq, hv, hn, hroom, had, hcc, hex⟩ := h1
  obtain ⟨hb, b1, b2⟩ := boundsK_sim (P := P) (w := w) (isS := true) ht hl hh hn hcc e
  obtain ⟨ii, i1, i2⟩ := rsize_info hs
  refine post_val R (x := .slice (some (if cap = p.1 then ad else ad.add (p.1 * sz))) (p.2 - p.1) (cap - p.1)) ?_ ?_
  · have : (if cap = p.1 then some ad else some (ad.add (p.1 * sz))) = some (if cap = p.1 then ad else ad.add (p.1 * sz)) := by split <;> rfl
    simp [execOp, ho, hv, Instr.sliceAt, Instr.slice, run_underlying hu, hb, sizeOf, typeInfo, i1, i2, this]
  · have g1 : f + p.1 * sz + (cap - p.1) * sz ≤ q.room := by
      have : p.1 * sz + (cap - p.1) * sz = cap * sz := by rw [← Nat.add_mul]; congr 1; omega
      omega
    have g2 : (if cap = p.1 then ad else ad.add (p.1 * sz)) = at_ q.blk (q.off + (f + p.1 * sz)) ∨ cap - p.1 = 0 := by
      by_cases hc : cap = p.1
      · exact .inr (by omega)
      · rw [if_neg hc]
        rcases had with rfl | h0
        · exact .inl (by simp only [at_, Addr.add_mid]; congr 1; omega)
        · omega
    simp only [VR]
    exact ⟨q, _, _, hq, rfl, by omega, g1, g2, by omega, fun hh => by have := hex hh; omega⟩
theorem sim_slcN (R : Rel w0 μ h w) (ht : TR μ tm a.tmps) {t e : TypeId} {x : Operand} {y : Opd} {lo hi : Option Operand} {lo' hi' : Option Opd} {sz : Nat} {p : Nat × Nat} (ho : o.op = .slice t x lo hi none) (hu : P.underlying t = some (.slice e)) (hs : rsize P e = some sz) (hx : ropd x = some y) (hl : ropdO lo = some lo') (hh : ropdO hi = some hi')
    (ey : ev tm y = .nils) (e : abounds tm 0 lo' hi' = some p) : o.wp P a w (Post w0 μ id o a .nils h) Q := by
  have h1 := ropd_sim ht hx
  rw [ey] at h1; simp only [VR] at h1
  obtain ⟨hb, b1, b2⟩ := bounds_sim (P := P) (w := w) (isS := true) ht hl hh (Nat.le_refl 0) e
  obtain ⟨ii, i1, i2⟩ := rsize_info hs
  have e1 : p.1 = 0 := by omega
  have e2 : p.2 = 0 := by omega
  exact post_val R (x := .slice none 0 0) (by simp [execOp, ho, h1, Instr.sliceAt, Instr.slice, run_underlying hu, hb, sizeOf, typeInfo, i1, i2, e1, e2]) (by simp only [VR])
theorem sim_slcA (R : Rel w0 μ h w) (ht : TR μ tm a.tmps) {t e : TypeId} {x : Operand} {y : Opd} {lo hi : Option Operand} {lo' hi' : Option Opd} {sz n f : Nat} {i : Id} {p : Nat × Nat} {b : Blk} (ho : o.op = .slice t x lo hi none) (hu : P.underlying t = some (.array n e)) (hs : rsize P e = some sz) (hx : ropd x = some y) (hl : ropdO lo = some lo') (hh : ropdO hi = some hi')
    (ey : ev tm y = .ptr i f) (hb : h i = some b) (hc : f + n * sz ≤ b.cells.length) (e : abounds tm n lo' hi' = some p) : o.wp P a w (Post w0 μ id o a (.slc i (f + p.1 * sz) (p.2 - p.1) sz) h) Q := by
  have h1 := ropd_sim ht hx
  rw [ey] at h1; simp only [VR] at h1
  obtain ⟨q, hq, hv⟩ := h1
  obtain ⟨hbd, b1, b2⟩ := bounds_sim (P := P) (w := w) (isS := false) ht hl hh (Nat.le_refl n) e
  obtain ⟨ii, i1, i2⟩ := rsize_info hs
  have L := (R.blk _ _ _ hq hb).len
  refine post_val R (x := .slice (some (if n = p.1 then at_ q.blk (q.off + f) else (at_ q.blk (q.off + f)).add (p.1 * sz))) (p.2 - p.1) (n - p.1)) ?_ ?_
  · simp [execOp, ho, hv, Instr.sliceAt, Instr.sureAddr, run_underlying hu, hbd, sizeOf, typeInfo, i1, i2]
  · simp only [VR]
    refine ⟨q, _, _, hq, rfl, by omega, ?_, ?_⟩
    · have : p.1 * sz + (n - p.1) * sz = n * sz := by rw [← Nat.add_mul]; congr 1; omega
      omega
    · by_cases hc : n = p.1
      · exact .inr (by omega)
      · rw [if_neg hc]
        exact .inl (by simp only [at_, Addr.add_mid]; congr 1; omega)
end
end Go.Proofs.YtgekngfnhhdamaaM
