/- For every rate that Near makes, every time and every two clocks: where the clocks fit, who waited the longer time on one has waited the time on the other, and where a time passed the shorter one has passed on the other; where they don't fit one way they don't the other way; no conditions. -/
import Derived.Test.YtllagimocmdldaaDriftNear
import Derived.Test.YtllagimocmdldaaDriftWaitsWalk
import Derived.Test.YtllagimocmdldaaRows
import Derived.WalkKit
import Derived.ProofKit
import Derived.OpenShut
import Derived.ShutString
import Derived.ChangeOld
import Derived.Below
import Derived.SizedLaws
import Derived.Lib.SmallJoins
import Derived.Deep.Slices
import Derived.Deep.Fields
import Derived.ChangeSame
namespace Go.Proofs.Ytllagimocmdldaa
open Go.RowKit PDriftRises Go.Proofs.YtllagimocmdldaaW.PrintWords Go.Proofs.YtllagimocmdldaaW.PrintMore
open Go.ChangeShapes Go.WideShapes Go.RowKit
theorem open_agg_5 {H : Type} {enc : TypeId × Value → H} {P : Program} {w : World} {base : Nat} {spare : Nat → Bool} {held : Bool} {r : Reach} {b0 : Nat} {t : TypeId} {f0 f1 f2 f3 f4 : Field} {v : Value} {d : DataW H} {p : List MemPlace} (hs : P.underlying t = some (.struct #[f0, f1, f2, f3, f4])) (hone : Deep.oneCellFields P #[f0, f1, f2, f3, f4] = true) (hC : P.cellsOf t = 5)
    (hv : Value.okWide P w r b0 t v) (h : DataW.Trod enc P w base spare held t v d p) :
    ∃ (v0 v1 v2 v3 v4 : Value) (y0 y1 y2 y3 y4 : DataW H × List MemPlace) (n : Nat), v = .agg #[v0, v1, v2, v3, v4] ∧
      DataW.trod enc P w base spare held n f0.type [v0] = some y0 ∧ DataW.trod enc P w base spare held n f1.type [v1] = some y1 ∧ DataW.trod enc P w base spare held n f2.type [v2] = some y2 ∧ DataW.trod enc P w base spare held n f3.type [v3] = some y3 ∧ DataW.trod enc P w base spare held n f4.type [v4] = some y4 := by
  obtain ⟨cs, rfl, hsz⟩ := okWide_struct hs hv
  obtain ⟨l⟩ := cs
  match l, hsz.trans hC with
  | [c0, c1, c2, c3, c4], _ =>
    obtain ⟨fuel, hf⟩ := h
    obtain ⟨xs, n, _, hx, _, hlen, hg⟩ := DataW.trod_struct hs hf
    obtain ⟨o0, k0⟩ := Deep.hone_of hone 0 f0 rfl
    obtain ⟨o1, k1⟩ := Deep.hone_of hone 1 f1 rfl
    obtain ⟨o2, k2⟩ := Deep.hone_of hone 2 f2 rfl
    obtain ⟨o3, k3⟩ := Deep.hone_of hone 3 f3 rfl
    obtain ⟨o4, k4⟩ := Deep.hone_of hone 4 f4 rfl
    match xs, hlen with
    | [y0, y1, y2, y3, y4], _ =>
      exact ⟨c0, c1, c2, c3, c4, y0, y1, y2, y3, y4, n, rfl, by simpa [Value.cells, o0, k0] using hg 0 f0 rfl, by simpa [Value.cells, o1, k1] using hg 1 f1 rfl, by simpa [Value.cells, o2, k2] using hg 2 f2 rfl, by simpa [Value.cells, o3, k3] using hg 3 f3 rfl, by simpa [Value.cells, o4, k4] using hg 4 f4 rfl⟩
theorem waits_any (P Q T X Y : Int) (w : World) : Calls Try.prog 5 #[.agg #[.int .i64 P, .int .i64 Q, .int .i64 T, .int .i64 X, .int .i64 Y]] w fun e w' => e = .returned (.bool true) ∧ Below w.heap.size w w' := by
  obtain ⟨p, q, near, h, _⟩ := g23 P Q
  obtain ⟨m, t, hm, ht, t0, t1, _⟩ := mxmn T 1073741824 (by decide)
  obtain ⟨m1, a, hm1, ha, a0, a1, _⟩ := mxmn X 4294967296 (by decide)
  obtain ⟨m2, b, hm2, hb, b0, b1, _⟩ := mxmn Y 4294967296 (by decide)
  have f1 := g24 h a0 (by omega : a ≤ 1099511627776) b0 (by omega : b ≤ 1099511627776)
  have f2 := g24 h b0 (by omega : b ≤ 1099511627776) a0 (by omega : a ≤ 1099511627776)
  by_cases c : a * q ≤ b * p ∧ b * q ≤ a * p
  · rw [decide_eq_true c] at f1
    have l1 := g18 h t0 (by omega : t ≤ 1099511627776)
    have s1 := g20 h t0 (by omega : t ≤ 1099511627776)
    refine waits_fits P Q T X Y p q m t m1 a m2 b w hm ht hm1 ha hm2 hb near (g16 h) _ _ f1 l1 s1 ?_ ?_ ?_ ?_
    · by_cases d : Lg p q t ≤ a
      · exact .inr ⟨d, waits_lg h c.1 d⟩
      · exact .inl (by omega)
    · by_cases d : Lg p q t ≤ b
      · exact .inr ⟨d, waits_lg h c.2 d⟩
      · exact .inl (by omega)
    · by_cases d : t ≤ a
      · exact .inr ⟨d, waits_sh h c.1 d⟩
      · exact .inl (by omega)
    · by_cases d : t ≤ b
      · exact .inr ⟨d, waits_sh h c.2 d⟩
      · exact .inl (by omega)
  · rw [decide_eq_false c] at f1
    rw [decide_eq_false (fun x => c ⟨x.2, x.1⟩)] at f2
    exact waits_not P Q T X Y p q m t m1 a m2 b w hm ht hm1 ha hm2 hb near (g16 h) f1 f2
namespace driftWaits
open Go.ChangeShapes Go.WideShapes Go.ChangeAt Go.RowKit
open Go.ChangeMaps (open_string shut_string)
set_option linter.unusedVariables false
theorem own : ownKnob Try.prog.godebug = none := by kernel_rfl
theorem laidOut : laidOutB Try.prog = true := by kernel_rfl
set_option maxRecDepth 100000 in
theorem lifted (os : Os) (started : os.Started) (H : Type) (enc : TypeId × Value → H) :
    ReturnsInHanded {} Try.checked os 5 .any (Rows.driftWaitsSpec.pre6 enc Try.prog Try.f5 Rows.driftWaitsRow.domain false) (Rows.driftWaitsSpec.post enc Try.prog Try.f5 false true false false) := by
  refine returnsInHanded_of_change_sized (C := Try.checked) own started (by kernel_rfl) Try.func5
    (ChangeSpec.witness6 (enc := enc) (C := Try.checked) false ⟨#[], #[.agg #[.int .i64 0, .int .i64 0, .int .i64 0, .int .i64 0, .int .i64 0]], []⟩ 8 (by kernel_rfl) (by kernel_rfl) (by kernel_rfl) (by kernel_rfl)) ?_
  intro W base args ds gs before hval0 hW hcnd hsz0 _
  have hsz : (DataW.weightsEach Try.prog (Try.f5.params.toList ++ Rows.driftWaitsSpec.plain.varTypes Try.prog) (ds ++ gs)).all (· ≤ reachBytes) = true := hsz0
  have hval : ∀ (j : Nat) t v, Try.f5.params[j]? = some t → args[j]? = some v → Value.okWide Try.prog W .any base t v := hval0
  have hW' := hW
  obtain ⟨p, q, hA0, hV, rfl, hfz, hnd⟩ := hW
  have hA : DataW.TrodAll enc Try.prog W 0 (fun _ => true) true Try.f5.params.toList args.toList ds p := hA0
  rw [Try.params5] at hA hval hsz
  obtain ⟨v0, vs0, d0, ds0, p0, q0, hargs, rfl, rfl, h0, r0⟩ := trodAll_cons hA
  obtain ⟨rfl, rfl, rfl⟩ := trodAll_nil r0
  obtain rfl : args = #[v0] := by cases args; simp_all
  obtain ⟨rfl, rfl⟩ := trodVars_none hV
  have k0 := h0
  have lt0 : ∀ x ∈ p0, x.block < W.heap.size := by obtain ⟨m, hm⟩ := k0; exact DataW.trod_lt m _ _ _ hm
  obtain ⟨c0, c1, c2, c3, c4, y0, y1, y2, y3, y4, n0, rfl, hy0, hy1, hy2, hy3, hy4⟩ := open_agg_5 Try.underlying33 (by kernel_rfl) (by kernel_rfl) (hval 0 33 v0 rfl rfl) h0
  obtain ⟨P, e0, _, wf_P⟩ := DataW.trod_int Try.underlying3 hy0
  obtain rfl := List.head_eq_of_cons_eq e0
  obtain ⟨Q, e1, _, wf_Q⟩ := DataW.trod_int Try.underlying3 hy1
  obtain rfl := List.head_eq_of_cons_eq e1
  obtain ⟨T, e2, _, wf_T⟩ := DataW.trod_int Try.underlying3 hy2
  obtain rfl := List.head_eq_of_cons_eq e2
  obtain ⟨X, e3, _, wf_X⟩ := DataW.trod_int Try.underlying3 hy3
  obtain rfl := List.head_eq_of_cons_eq e3
  obtain ⟨Y, e4, _, wf_Y⟩ := DataW.trod_int Try.underlying3 hy4
  obtain rfl := List.head_eq_of_cons_eq e4
  clear hA0 hval0 hsz0
  refine (waits_any P Q T X Y W).mono fun e W' ⟨he, bel⟩ => ?_
  subst he
  exact ⟨_, rfl, _, _, _, [], _, [], hW', trodAll_mk1 (shut_bool Try.underlying4 _), (trodAll_cons_mk (Below.trod laidOut (by kernel_rfl) (of_decide_eq_true (by kernel_rfl)) k0 bel lt0) trodAll_mk0), rfl, bel.frame _, fun h => by cases h⟩
theorem over : Rows.driftWaitsRow.holds Try.pinned (OpenSpec.ofChange Rows.driftWaitsSpec) :=
  OpenClaim.holds_of_wide 5 Try.f5 rfl rfl rfl rfl rfl rfl rfl ⟨rfl, rfl, rfl, rfl, rfl⟩ rfl rfl rfl rfl rfl (by kernel_rfl) Try.func5 (by kernel_rfl)
    (of_decide_eq_true (by kernel_rfl)) (by unfold Func.isWrapper; first | (rw [if_pos (by decide +kernel)]; kernel_rfl) | (rw [if_neg (by decide +kernel)]; exact ⟨rfl, rfl⟩))
    (fun os started H enc _ => lifted os started H enc)
theorem proved : Rows.DriftWaitsSaid := over
end driftWaits
theorem driftWaits_holds : Rows.DriftWaitsSaid := driftWaits.proved

end Go.Proofs.Ytllagimocmdldaa
