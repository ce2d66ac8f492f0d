/- Each of the machine's operations does what the model's does: numbers, texts, parts, calls; no conditions. -/
import Derived.Test.YtgekngfnhhdamaaM6
set_option linter.unusedVariables false
set_option linter.unusedSimpArgs false
namespace Go.Proofs.YtgekngfnhhdamaaM
open Go
section
variable {P : Program} {o : Oper} {a : Act} {w w0 : World} {Q : Exit → Act → World → Prop} {μ : Mp} {id : Id} {tm : List AV} {h h' : AH} {v : AV}
theorem sim_nilck (R : Rel w0 μ h w) (ht : TR μ tm a.tmps) {x : Operand} {y : Opd} (ho : o.op = .nilCheck x) (hx : ropd x = some y)
    (hy : (∃ i f, ev tm y = .ptr i f) ∨ (∃ f b c, ev tm y = .func f b c) ∨ ∃ t u, ev tm y = .iface t u) : o.wp P a w (Post w0 μ id o a (ev tm y) h) Q := by
  have h1 := ropd_sim ht hx
  rcases hy with ⟨i, f, hy⟩ | ⟨f, b, c, hy⟩ | ⟨t, u, hy⟩
  · rw [hy] at h1 ⊢
    refine post_val R (x := a.eval x) ?_ h1
    simp only [VR] at h1
    obtain ⟨p, hp, hv⟩ := h1
    simp [execOp, ho, hv]
  · rw [hy] at h1 ⊢
    refine post_val R (x := a.eval x) ?_ h1
    simp only [VR] at h1
    obtain ⟨c, d, hv, _⟩ := h1
    simp [execOp, ho, hv]
  · rw [hy] at h1 ⊢
    refine post_val R (x := a.eval x) ?_ h1
    simp only [VR] at h1
    obtain ⟨c, hv, _⟩ := h1
    simp [execOp, ho, hv]
theorem VR_int {k : IntKind} {n : Int} : VR μ (.int k n) (.int k n) := by simp only [VR]
theorem VR_bool {b : Bool} : VR μ (.bool b) (.bool b) := by simp only [VR]
theorem VR_str {b : ByteArray} : VR μ (.str b) (.string b) := by simp only [VR]
theorem absBits_run {op : BinOp} {k : IntKind} {x y n : Int} (e : absBits op k x y = some n) (w : World) : (Op.intBits op k x y).run P w = .ok (.int k n) w := by
  unfold absBits at e
  unfold Op.intBits
  cases op <;> simp at e ⊢ <;> exact e
theorem abin_int {op : BinOp} {t : TypeId} {k k' : IntKind} {x y : Int} {v : AV} (e : abin op (.int k x) (.int k' y) = some v) (w : World) : ∃ u, (binOp op t (.int k x) (.int k' y)).run P w = .ok u w ∧ ∀ μ, VR μ v u := by
  by_cases hs : op = .shl ∨ op = .shr
  · rcases hs with rfl | rfl <;> simp only [abin] at e <;> split at e <;> cases e
    all_goals
      rename_i hy
      refine ⟨_, ?_, fun μ => VR_int⟩
      simp [binOp, Op.shift, hy]
  · have e' : (if k ≠ k' then none else match op with
      | .add => some (AV.int k (k.wrap (x + y)))
      | .sub => some (.int k (k.wrap (x - y)))
      | .mul => some (.int k (k.wrap (x * y)))
      | .quo => if y = 0 then none else some (.int k (k.wrap (x.tdiv y)))
      | .rem => if y = 0 then none else some (.int k (x.tmod y))
      | .eql => some (.bool (x == y))
      | .neq => some (.bool (x != y))
      | .lss => some (.bool (x < y))
      | .leq => some (.bool (x ≤ y))
      | .gtr => some (.bool (x > y))
      | .geq => some (.bool (x ≥ y))
      | op => (absBits op k x y).map (.int k)) = some v := by
      cases op <;> first | (exact absurd (.inl rfl) hs) | (exact absurd (.inr rfl) hs) | (simpa only [abin] using e)
    split at e'
    · cases e'
    · rename_i hk
      have hk : k = k' := by simpa using hk
      subst hk
      cases op <;> simp only at e'
      case shl => exact absurd (.inl rfl) hs
      case shr => exact absurd (.inr rfl) hs
      case quo => split at e' <;> cases e'; rename_i hy; exact ⟨_, by simp [binOp, Op.intDiv, hy], fun μ => VR_int⟩
      case rem => split at e' <;> cases e'; rename_i hy; exact ⟨_, by simp [binOp, Op.intDiv, hy], fun μ => VR_int⟩
      case and => obtain ⟨n, hn, rfl⟩ := Option.map_eq_some_iff.1 e'; exact ⟨_, by simp [binOp, absBits_run hn], fun μ => VR_int⟩
      case or => obtain ⟨n, hn, rfl⟩ := Option.map_eq_some_iff.1 e'; exact ⟨_, by simp [binOp, absBits_run hn], fun μ => VR_int⟩
      case xor => obtain ⟨n, hn, rfl⟩ := Option.map_eq_some_iff.1 e'; exact ⟨_, by simp [binOp, absBits_run hn], fun μ => VR_int⟩
      case andNot => obtain ⟨n, hn, rfl⟩ := Option.map_eq_some_iff.1 e'; exact ⟨_, by simp [binOp, absBits_run hn], fun μ => VR_int⟩
      all_goals (cases e'; first | exact ⟨_, by simp [binOp, Op.intArith, Op.intCmp], fun μ => VR_int⟩ | exact ⟨_, by simp [binOp, Op.intArith, Op.intCmp], fun μ => VR_bool⟩)
theorem abin_str {op : BinOp} {x y : ByteArray} {v : AV} (e : abin op (.str x) (.str y) = some v) (t : TypeId) (w : World) : ∃ u, (binOp op t (.string x) (.string y)).run P w = .ok u w ∧ ∀ μ, VR μ v u := by
  cases op <;> simp only [abin] at e
  case add => split at e <;> cases e; rename_i hy; exact ⟨_, by simp only [binOp, Op.stringOp, if_neg hy]; rfl, fun μ => VR_str⟩
  all_goals first
    | (cases e; done)
    | (cases e; exact ⟨_, rfl, fun μ => VR_bool⟩)
theorem eqGuard_none {op : BinOp} (hop : op ≠ .eql) (hop' : op ≠ .neq) (t : TypeId) (x y : Operand) (b c : Value) (w : World) : (eqGuard op t x y b c).run P w = .ok () w := by
  cases op <;> first | exact absurd rfl hop | exact absurd rfl hop' | simp [eqGuard]
theorem eqGuard_plain (op : BinOp) (t : TypeId) (x y : Operand) {b c : Value} (hb : b ≠ .nilIface) (hc : ∀ l, b ≠ .agg l) (w : World) : (eqGuard op t x y b c).run P w = .ok () w := by
  cases op <;> cases b <;> simp_all [eqGuard]
theorem sim_bin (R : Rel w0 μ h w) (ht : TR μ tm a.tmps) {op : BinOp} {t u : TypeId} {x y : Operand} {x' y' : Opd} (ho : o.op = .binOp op t x y u) (hx : ropd x = some x') (hy : ropd y = some y') (e : abin op (ev tm x') (ev tm y') = some v) :
    o.wp P a w (Post w0 μ id o a v h) Q := by
  have h1 := ropd_sim ht hx
  have h2 := ropd_sim ht hy
  generalize hX : ev tm x' = X at *
  generalize hY : ev tm y' = Y at *
  cases X with
  | int k n =>
    cases Y with
    | int k' m =>
      simp only [VR] at h1 h2
      obtain ⟨z, z1, z2⟩ := abin_int (P := P) (t := t) e w
      refine post_val R (x := z) ?_ (z2 μ)
      simp only [execOp, ho, h1, h2, Sem.run_bind, eqGuard_plain op t x y (b := .int k n) (c := .int k' m) (by simp) (by simp), Result.andThen_ok, z1, Sem.run_pure]
    | _ => cases op <;> simp [abin] at e
  | str s =>
    cases Y with
    | str s' =>
      simp only [VR] at h1 h2
      obtain ⟨z, z1, z2⟩ := abin_str (P := P) e t w
      refine post_val R (x := z) ?_ (z2 μ)
      simp only [execOp, ho, h1, h2, Sem.run_bind, eqGuard_plain op t x y (b := .string s) (c := .string s') (by simp) (by simp), Result.andThen_ok, z1, Sem.run_pure]
    | _ => cases op <;> simp [abin] at e
  | _ => cases op <;> simp [abin] at e
theorem sim_un (R : Rel w0 μ h w) (ht : TR μ tm a.tmps) {op : UnOp} {t : TypeId} {x : Operand} {y : Opd} (ho : o.op = .unOp op t x) (hx : ropd x = some y) (e : aun op (ev tm y) = some v) : o.wp P a w (Post w0 μ id o a v h) Q := by
  have h1 := ropd_sim ht hx
  generalize ev tm y = X at *
  unfold aun at e
  split at e
  · cases e; simp only [VR] at h1
    exact post_val R (by simp only [execOp, ho, h1, Op.unary, Op.intArith, Sem.run_bind, Sem.run_pure, Result.andThen_ok]) VR_int
  · cases e; simp only [VR] at h1
    exact post_val R (by simp only [execOp, ho, h1, Op.unary, Sem.run_bind, Sem.run_pure, Result.andThen_ok]) VR_bool
  · obtain ⟨n, hn, rfl⟩ := Option.map_eq_some_iff.1 e; simp only [VR] at h1
    exact post_val R (by simp only [execOp, ho, h1, Op.unary, Sem.run_bind, absBits_run hn, Sem.run_pure, Result.andThen_ok]) VR_int
  · cases e
theorem aint_sim {x : AV} {u : Value} {n : Int} (hv : VR μ x u) (e : aint x = some n) : ∃ k, u = .int k n := by
  unfold aint at e
  split at e
  · cases e; simp only [VR] at hv; exact ⟨_, hv⟩
  · cases e
theorem sim_conv (R : Rel w0 μ h w) (ht : TR μ tm a.tmps) {s d : TypeId} {k0 k : IntKind} {x : Operand} {y : Opd} {n : Int} (ho : o.op = .convert s d x) (hs : P.underlying s = some (.int k0)) (hd : P.underlying d = some (.int k)) (hx : ropd x = some y) (e : aint (ev tm y) = some n) :
    o.wp P a w (Post w0 μ id o a (.int k (k.wrap n)) h) Q := by
  obtain ⟨k1, h1⟩ := aint_sim (ropd_sim ht hx) e
  exact post_val R (x := .int k (k.wrap n)) (by simp [execOp, ho, h1, convert, run_underlying hs, run_underlying hd, Conv.intToInt]) (by simp only [VR])
theorem sim_sstr (R : Rel w0 μ h w) (ht : TR μ tm a.tmps) {s d : TypeId} {x : Operand} {y : Opd} {t : ByteArray} (ho : o.op = .convert s d x) (hs : P.underlying s = some .string) (hd : P.underlying d = some .string) (hx : ropd x = some y) (e : ev tm y = .str t) :
    o.wp P a w (Post w0 μ id o a (.str t) h) Q := by
  have h1 := ropd_sim ht hx
  rw [e] at h1; simp only [VR] at h1
  exact post_val R (x := .string t) (by simp [execOp, ho, h1, convert, run_underlying hs, run_underlying hd]) (by simp only [VR])
theorem sim_mkI (R : Rel w0 μ h w) (ht : TR μ tm a.tmps) {t : TypeId} {d : TypeDesc} {x : Operand} {y : Opd} (ho : o.op = .makeInterface t x) (hd : P.underlying t = some d) (hn : ∀ ms, d ≠ .interface ms) (hx : ropd x = some y) :
    o.wp P a w (Post w0 μ id o a (.iface t (ev tm y)) h) Q := by
  refine post_val R (x := .iface t (a.eval x)) ?_ (by simp only [VR]; exact ⟨_, rfl, ropd_sim ht hx⟩)
  have : (Instr.makeInterface t (a.eval x)).run P w = .ok (.iface t (a.eval x)) w := by
    unfold Instr.makeInterface
    rw [Sem.run_bind, run_underlying hd w]
    cases d <;> first | rfl | exact absurd rfl (hn _)
  simp [execOp, ho, this]
theorem sim_mkF (R : Rel w0 μ h w) (ht : TR μ tm a.tmps) {f : FuncId} {b c : Array Operand} {b' c' : List Opd} (ho : o.op = .makeFunc (.func f) b c) (hb : ropds b.toList = some b') (hc : ropds c.toList = some c') :
    o.wp P a w (Post w0 μ id o a (.func f (b'.map (ev tm)) (c'.map (ev tm))) h) Q := by
  refine post_val R (x := .func (.func f) (b.map a.eval) (c.map a.eval)) (by simp [execOp, ho, Instr.makeFunc]) ?_
  simp only [VR]
  exact ⟨_, _, rfl, by simpa using ropds_sim ht hb, by simpa using ropds_sim ht hc⟩
/-! ### addresses and parts -/
theorem sim_fld (R : Rel w0 μ h w) (ht : TR μ tm a.tmps) {t : TypeId} {x : Operand} {y : Opd} {f : Nat} {fs : Array Field} {fd : Field} {n : Nat} {i : Id} {q : Nat} (ho : o.op = .fieldAddr t x f) (hu : P.underlying t = some (.struct fs)) (hf : fs[f]? = some fd)
    (hn : rsize P fd.type = some n) (h0 : n ≠ 0) (hx : ropd x = some y) (e : ev tm y = .ptr i q) : o.wp P a w (Post w0 μ id o a (.ptr i (q + fd.offset)) h) Q := by
  have h1 := ropd_sim ht hx
  rw [e] at h1; simp only [VR] at h1
  obtain ⟨p, hp, hv⟩ := h1
  obtain ⟨ii, i1, i2⟩ := rsize_info hn
  refine post_val R (x := .pointer (some (at_ p.blk (p.off + q + fd.offset)))) ?_ (by simp only [VR]; exact ⟨p, hp, by rw [Nat.add_assoc]⟩)
  simp [execOp, ho, hv, Instr.fieldAt, run_underlying hu, hf, Instr.sureAddr, fieldPlace, sizeOf, typeInfo, i1, i2, h0, at_, Addr.add_mid]
theorem apart_sim {P : Program} {t : TypeId} {sh : Sh} {cs : List AV} {off : Nat} {us : Array Value} (hs : rsh P t = some sh) (hv : VRs μ cs us.toList) (e : apart sh cs off = some v) (w : World) : ∃ u, (part t us off).run P w = .ok u w ∧ VR μ v u := by
  unfold apart at e
  cases sh with
  | none =>
    simp only at e
    obtain ⟨d, d1, d2⟩ := rsh_none hs
    obtain ⟨u, k1, k2⟩ := hv.get e
    refine ⟨u, ?_, k2⟩
    have : us[off]? = some u := by simpa using k1
    simp [part, isAgg_run d1, d2, this]
  | some n =>
    simp only at e
    split at e <;> cases e
    rename_i hn
    obtain ⟨d, d1, d2, d3⟩ := rsh_some hs
    obtain ⟨ii, i1, i2⟩ := rsize_info d3
    refine ⟨.agg (us.extract off (off + n)), by simp [part, isAgg_run d1, d2, sizeOf, typeInfo, i1, i2], ?_⟩
    simp only [VR]
    exact ⟨_, rfl, by simpa [List.extract_eq_take_drop] using (hv.drop off).take n⟩
theorem sim_fget (R : Rel w0 μ h w) (ht : TR μ tm a.tmps) {t : TypeId} {x : Operand} {y : Opd} {f : Nat} {fs : Array Field} {fd : Field} {sh : Sh} {l : List AV} (ho : o.op = .field t x f) (hu : P.underlying t = some (.struct fs)) (hf : fs[f]? = some fd)
    (hs : rsh P fd.type = some sh) (hx : ropd x = some y) (e : ev tm y = .agg l) (e2 : apart sh l fd.offset = some v) : o.wp P a w (Post w0 μ id o a v h) Q := by
  have h1 := ropd_sim ht hx
  rw [e] at h1; simp only [VR] at h1
  obtain ⟨cs, hv, hc⟩ := h1
  obtain ⟨u, k1, k2⟩ := apart_sim hs hc e2 w
  exact post_val R (x := u) (by simp [execOp, ho, hv, Instr.field, run_underlying hu, hf, asAgg, k1]) k2
theorem asIntOf_run {k : IntKind} {n : Int} (w : World) : (asIntOf (.int k n)).run P w = .ok (k, n) w := rfl
theorem sim_ixS (R : Rel w0 μ h w) (ht : TR μ tm a.tmps) {t e : TypeId} {x y : Operand} {x' y' : Opd} {sz : Nat} {i : Id} {f n : Nat} {k : Int} (ho : o.op = .indexAddr t x y) (hu : P.underlying t = some (.slice e)) (hs : rsize P e = some sz)
    (hx : ropd x = some x') (hy : ropd y = some y') (ex : (ev tm x').fg = .slc i f n sz) (ey : aint (ev tm y') = some k) (hk0 : 0 ≤ k) (hk : k < n) : o.wp P a w (Post w0 μ id o a (.ptr i (f + k.toNat * sz)) h) Q := by
  have h1 := (ropd_sim ht hx).fg
  rw [ex] at h1; simp only [VR] at h1
  obtain ⟨p, ad, cap, hp, hv, hn, hroom, had⟩ := h1
  obtain ⟨kk, h2⟩ := aint_sim (ropd_sim ht hy) ey
  obtain ⟨ii, i1, i2⟩ := rsize_info hs
  have had : ad = at_ p.blk (p.off + f) := had.resolve_right (by omega)
  subst had
  refine post_val R (x := .pointer (some (at_ p.blk (p.off + (f + k.toNat * sz))))) ?_ (by simp only [VR]; exact ⟨p, hp, rfl⟩)
  simp [execOp, ho, hv, h2, Instr.indexAt, asIntOf, run_underlying hu, hk0, hk, sizeOf, typeInfo, i1, i2, at_, Addr.add_mid, Nat.add_assoc]
theorem sim_ixA (R : Rel w0 μ h w) (ht : TR μ tm a.tmps) {t e : TypeId} {x y : Operand} {x' y' : Opd} {sz : Nat} {i : Id} {f n : Nat} {k : Int} (ho : o.op = .indexAddr t x y) (hu : P.underlying t = some (.array n e)) (hs : rsize P e = some sz)
    (hx : ropd x = some x') (hy : ropd y = some y') (ex : ev tm x' = .ptr i f) (ey : aint (ev tm y') = some k) (hk0 : 0 ≤ k) (hk : k < n) : o.wp P a w (Post w0 μ id o a (.ptr i (f + k.toNat * sz)) h) Q := by
  have h1 := ropd_sim ht hx
  rw [ex] at h1; simp only [VR] at h1
  obtain ⟨p, hp, hv⟩ := h1
  obtain ⟨kk, h2⟩ := aint_sim (ropd_sim ht hy) ey
  obtain ⟨ii, i1, i2⟩ := rsize_info hs
  refine post_val R (x := .pointer (some (at_ p.blk (p.off + (f + k.toNat * sz))))) ?_ (by simp only [VR]; exact ⟨p, hp, rfl⟩)
  simp [execOp, ho, hv, h2, Instr.indexAt, Instr.sureAddr, asIntOf, run_underlying hu, hk0, hk, sizeOf, typeInfo, i1, i2, at_, Addr.add_mid, Nat.add_assoc]
theorem sim_ixG (R : Rel w0 μ h w) (ht : TR μ tm a.tmps) {t e : TypeId} {x y : Operand} {x' y' : Opd} {sz n : Nat} {sh : Sh} {l : List AV} {k : Int} (ho : o.op = .index t x y) (hu : P.underlying t = some (.array n e)) (hs : rsize P e = some sz) (hsh : rsh P e = some sh)
    (hx : ropd x = some x') (hy : ropd y = some y') (ex : ev tm x' = .agg l) (ey : aint (ev tm y') = some k) (hk0 : 0 ≤ k) (hk : k < n) (e2 : apart sh l (k.toNat * sz) = some v) : o.wp P a w (Post w0 μ id o a v h) Q := by
  have h1 := ropd_sim ht hx
  rw [ex] at h1; simp only [VR] at h1
  obtain ⟨cs, hv, hc⟩ := h1
  obtain ⟨kk, h2⟩ := aint_sim (ropd_sim ht hy) ey
  obtain ⟨ii, i1, i2⟩ := rsize_info hs
  obtain ⟨u, k1, k2⟩ := apart_sim hsh hc e2 w
  exact post_val R (x := u) (by simp [execOp, ho, hv, h2, Instr.index, asIntOf, run_underlying hu, hk0, hk, sizeOf, typeInfo, i1, i2, k1]) k2
theorem sim_ixStr (R : Rel w0 μ h w) (ht : TR μ tm a.tmps) {t : TypeId} {x y : Operand} {x' y' : Opd} {s : ByteArray} {b : UInt8} {k : Int} (ho : o.op = .index t x y) (hu : P.underlying t = some .string)
    (hx : ropd x = some x') (hy : ropd y = some y') (ex : ev tm x' = .str s) (ey : aint (ev tm y') = some k) (hk0 : 0 ≤ k) (e2 : s[k.toNat]? = some b) : o.wp P a w (Post w0 μ id o a (.int .u8 b.toNat) h) Q := by
  have h1 := ropd_sim ht hx
  rw [ex] at h1; simp only [VR] at h1
  obtain ⟨kk, h2⟩ := aint_sim (ropd_sim ht hy) ey
  refine post_val R (x := .int .u8 b.toNat) ?_ (by simp only [VR])
  simp only [execOp, ho, h1, h2, Instr.index, asIntOf, Sem.run_bind, Sem.run_pure, Result.andThen_ok, run_underlying hu, if_pos hk0, e2]
theorem sim_ext (R : Rel w0 μ h w) (ht : TR μ tm a.tmps) {x : Operand} {y : Opd} {i : Nat} {l : List AV} (ho : o.op = .extract x i) (hx : ropd x = some y) (ex : ev tm y = .tup l) (e : l[i]? = some v) : o.wp P a w (Post w0 μ id o a v h) Q := by
  have h1 := ropd_sim ht hx
  rw [ex] at h1; simp only [VR] at h1
  obtain ⟨cs, hv, hc⟩ := h1
  obtain ⟨u, k1, k2⟩ := hc.get e
  have : cs[i]? = some u := by simpa using k1
  exact post_val R (x := u) (by simp [execOp, ho, hv, Instr.extract, this]) k2
end
end Go.Proofs.YtgekngfnhhdamaaM
