/- For every right configuration and any sets: a set is a quorum just as the document says, with more nodes it is one too, all nodes are one and none are none; no conditions. -/
import Derived.Test.YtbldphmnpangiaaGridRefGridQuorums
import Derived.Test.YtbldphmnpangiaaRows
import Derived.WalkKit
import Derived.ProofKit
import Derived.OpenShut
import Derived.ShutString
import Derived.ChangeOld
import Derived.Below
import Derived.SizedLaws
import Derived.Lib.SmallJoins
import Derived.Deep.Slices
import Derived.Deep.Fields
import Derived.ChangeSame
namespace Go.Proofs.Ytbldphmnpangiaa
open Go.RowKit PGridQuorums Go.Proofs.YtbldphmnpangiaaW.PrintWords Go.Proofs.YtbldphmnpangiaaW.PrintLast Go.Proofs.YtbldphmnpangiaaW.PrintMore
open Go.ChangeShapes Go.WideShapes Go.RowKit
set_option linter.unusedVariables false
theorem cells3 : Try.prog.cellsOf 3 = 1 := by kernel_rfl
theorem cells24 : Try.prog.cellsOf 24 = 1 := by kernel_rfl
theorem cells50 : Try.prog.cellsOf 50 = 2 := by kernel_rfl
theorem cells52 : Try.prog.cellsOf 52 = 7 := by kernel_rfl
theorem open_kind {H : Type} {enc : TypeId × Value → H} {w : World} {base : Nat} {spare : Nat → Bool} {held : Bool} {n : Nat} {c d : Value} {y : DataW H × List MemPlace} (h : DataW.trod enc Try.prog w base spare held n 50 [c, d] = some y) :
    (∃ m z, DataW.trod enc Try.prog w base spare held m 3 [c] = some z) ∧ ∃ m z, DataW.trod enc Try.prog w base spare held m 3 [d] = some z := by
  obtain ⟨xs, m, _, _, _, hlen, hg⟩ := DataW.trod_struct Try.underlying50 h
  match xs, hlen with
  | [y0, y1], _ =>
    have g0 := hg 0 _ rfl
    have g1 := hg 1 _ rfl
    exact ⟨⟨m, y0, by simpa [cells3] using g0⟩, ⟨m, y1, by simpa [cells3] using g1⟩⟩
/-- A configuration, by value. -/
theorem open_cfg {H : Type} {enc : TypeId × Value → H} {w : World} {base : Nat} {spare : Nat → Bool} {held : Bool} {r : Reach} {b0 : Nat} {v : Value} {d : DataW H} {p : List MemPlace}
    (hv : Value.okWide Try.prog w r b0 52 v) (h : DataW.Trod enc Try.prog w base spare held 52 v d p) :
    ∃ v0 v1 v2 v3 v4 v5 v6 : Value, v = .agg #[v0, v1, v2, v3, v4, v5, v6] ∧ (∃ m z, DataW.trod enc Try.prog w base spare held m 3 [v0] = some z) ∧ (∃ m z, DataW.trod enc Try.prog w base spare held m 3 [v1] = some z) ∧
      (∃ m z, DataW.trod enc Try.prog w base spare held m 24 [v2] = some z) ∧ ((∃ m z, DataW.trod enc Try.prog w base spare held m 3 [v3] = some z) ∧ ∃ m z, DataW.trod enc Try.prog w base spare held m 3 [v4] = some z) ∧
      ((∃ m z, DataW.trod enc Try.prog w base spare held m 3 [v5] = some z) ∧ ∃ m z, DataW.trod enc Try.prog w base spare held m 3 [v6] = some z) := by
  obtain ⟨cs, rfl, hsz⟩ := okWide_struct Try.underlying52 hv
  obtain ⟨l⟩ := cs
  match l, hsz.trans cells52 with
  | [c0, c1, c2, c3, c4, c5, c6], _ =>
    obtain ⟨fuel, hf⟩ := h
    obtain ⟨xs, n, _, hx, _, hlen, hg⟩ := DataW.trod_struct Try.underlying52 hf
    match xs, hlen with
    | [y0, y1, y2, y3, y4], _ =>
      have g0 := hg 0 _ rfl
      have g1 := hg 1 _ rfl
      have g2 := hg 2 _ rfl
      have g3 := hg 3 _ rfl
      have g4 := hg 4 _ rfl
      refine ⟨c0, c1, c2, c3, c4, c5, c6, rfl, ⟨n, y0, by simpa [cells3, Value.cells] using g0⟩, ⟨n, y1, by simpa [cells3, Value.cells] using g1⟩, ⟨n, y2, by simpa [cells24, Value.cells] using g2⟩, open_kind (n := n) (y := y3) ?_, open_kind (n := n) (y := y4) ?_⟩
      · simpa [cells50, Value.cells] using g3
      · simpa [cells50, Value.cells] using g4
theorem u32_of_wf {n : Int} (h : (Lit.int .u32 n).wf = true) : 0 ≤ n ∧ n ≤ 4294967295 := by
  have a : IntKind.u32.min = 0 := by decide +kernel
  have b : IntKind.u32.max = 4294967295 := by decide +kernel
  simp [Lit.wf] at h; omega
theorem law_any {a0 a1 a2 a3 a4 a5 a6 x y : Int} (h : (Lit.int .u32 a2).wf = true) (hx : (Lit.int .u32 x).wf = true) (hy : (Lit.int .u32 y).wf = true) (w : World) : Calls Try.prog 9 #[.agg #[.int .i64 a0, .int .i64 a1, .int .u32 a2, .int .i64 a3, .int .i64 a4, .int .i64 a5, .int .i64 a6], .int .u32 x, .int .u32 y] w fun e w' => e = .returned (.bool true) ∧ Below w.heap.size w w' := by
  have hb := u32_of_wf h
  obtain ⟨A, rfl⟩ := Int.eq_ofNat_of_zero_le hb.1
  have hbx := u32_of_wf hx
  obtain ⟨Xx, rfl⟩ := Int.eq_ofNat_of_zero_le hbx.1
  have hby := u32_of_wf hy
  obtain ⟨Xy, rfl⟩ := Int.eq_ofNat_of_zero_le hby.1
  exact chatelainelaw07_GridQuorums.calls 6000 a0 a1 A a3 a4 a5 a6 Xx Xy true w (GridRefGridQuorums.law_true a0 a1 a3 a4 a5 a6 A (by omega) Xx (by omega) Xy (by omega) 6000 (Nat.le_refl _)) rfl
namespace gridQuorums
open Go.ChangeShapes Go.WideShapes Go.ChangeAt Go.RowKit
open Go.ChangeMaps (open_string shut_string)
set_option linter.unusedVariables false
theorem own : ownKnob Try.prog.godebug = none := by kernel_rfl
theorem laidOut : laidOutB Try.prog = true := by kernel_rfl
set_option maxRecDepth 100000 in
theorem lifted (os : Os) (started : os.Started) (H : Type) (enc : TypeId × Value → H) :
    ReturnsInHanded {} Try.checked os 9 .any (Rows.gridQuorumsSpec.pre6 enc Try.prog Try.f9 Rows.gridQuorumsRow.domain false) (Rows.gridQuorumsSpec.post enc Try.prog Try.f9 false true false false) := by
  refine returnsInHanded_of_change_sized (C := Try.checked) own started (by kernel_rfl) Try.func9
    (ChangeSpec.witness6 (enc := enc) (C := Try.checked) false ⟨#[], #[.agg #[.int .i64 0, .int .i64 0, .int .u32 0, .int .i64 0, .int .i64 0, .int .i64 0, .int .i64 0], .int .u32 0, .int .u32 0], []⟩ 8 (by kernel_rfl) (by kernel_rfl) (by kernel_rfl) (by kernel_rfl)) ?_
  intro W base args ds gs before hval0 hW hcnd hsz0 _
  have hsz : (DataW.weightsEach Try.prog (Try.f9.params.toList ++ Rows.gridQuorumsSpec.plain.varTypes Try.prog) (ds ++ gs)).all (· ≤ reachBytes) = true := hsz0
  have hval : ∀ (j : Nat) t v, Try.f9.params[j]? = some t → args[j]? = some v → Value.okWide Try.prog W .any base t v := hval0
  have hW' := hW
  obtain ⟨p, q, hA0, hV, rfl, hfz, hnd⟩ := hW
  have hA : DataW.TrodAll enc Try.prog W 0 (fun _ => true) true Try.f9.params.toList args.toList ds p := hA0
  rw [Try.params9] at hA hval hsz
  obtain ⟨v0, vs0, d0, ds0, p0, q0, hargs, rfl, rfl, h0, r0⟩ := trodAll_cons hA
  obtain ⟨v1, vs1, d1, ds1, p1, q1, rfl, rfl, rfl, h1, r1⟩ := trodAll_cons r0
  obtain ⟨v2, vs2, d2, ds2, p2, q2, rfl, rfl, rfl, h2, r2⟩ := trodAll_cons r1
  obtain ⟨rfl, rfl, rfl⟩ := trodAll_nil r2
  obtain rfl : args = #[v0, v1, v2] := by cases args; simp_all
  obtain ⟨rfl, rfl⟩ := trodVars_none hV
  have k0 := h0
  have lt0 : ∀ x ∈ p0, x.block < W.heap.size := by obtain ⟨m, hm⟩ := k0; exact DataW.trod_lt m _ _ _ hm
  have k1 := h1
  have lt1 : ∀ x ∈ p1, x.block < W.heap.size := by obtain ⟨m, hm⟩ := k1; exact DataW.trod_lt m _ _ _ hm
  have k2 := h2
  have lt2 : ∀ x ∈ p2, x.block < W.heap.size := by obtain ⟨m, hm⟩ := k2; exact DataW.trod_lt m _ _ _ hm
  obtain ⟨c0, c1, c2, c3, c4, c5, c6, rfl, ⟨_, _, hy0⟩, ⟨_, _, hy1⟩, ⟨_, _, hy2⟩, ⟨⟨_, _, hy3⟩, ⟨_, _, hy4⟩⟩, ⟨⟨_, _, hy5⟩, ⟨_, _, hy6⟩⟩⟩ := open_cfg (hval 0 52 v0 rfl rfl) h0
  obtain ⟨a0, e0, _, wf_0⟩ := DataW.trod_int Try.underlying3 hy0
  obtain rfl := List.head_eq_of_cons_eq e0
  obtain ⟨a1, e1, _, wf_1⟩ := DataW.trod_int Try.underlying3 hy1
  obtain rfl := List.head_eq_of_cons_eq e1
  obtain ⟨a2, e2, _, wf_2⟩ := DataW.trod_int Try.underlying24 hy2
  obtain rfl := List.head_eq_of_cons_eq e2
  obtain ⟨a3, e3, _, wf_3⟩ := DataW.trod_int Try.underlying3 hy3
  obtain rfl := List.head_eq_of_cons_eq e3
  obtain ⟨a4, e4, _, wf_4⟩ := DataW.trod_int Try.underlying3 hy4
  obtain rfl := List.head_eq_of_cons_eq e4
  obtain ⟨a5, e5, _, wf_5⟩ := DataW.trod_int Try.underlying3 hy5
  obtain rfl := List.head_eq_of_cons_eq e5
  obtain ⟨a6, e6, _, wf_6⟩ := DataW.trod_int Try.underlying3 hy6
  obtain rfl := List.head_eq_of_cons_eq e6
  obtain ⟨x, rfl, _, _, wf_x⟩ := open_int Try.underlying24 (hval 1 24 v1 rfl rfl) h1
  obtain ⟨y, rfl, _, _, wf_y⟩ := open_int Try.underlying24 (hval 2 24 v2 rfl rfl) h2
  clear hA0 hval0 hsz0
  refine (law_any wf_2 wf_x wf_y W).mono fun e W' ⟨he, bel⟩ => ?_
  subst he
  exact ⟨_, rfl, _, _, _, [], _, [], hW', trodAll_mk1 (shut_bool Try.underlying4 _), (trodAll_cons_mk (Below.trod laidOut (by kernel_rfl) (of_decide_eq_true (by kernel_rfl)) k0 bel lt0) (trodAll_cons_mk (Below.trod laidOut (by kernel_rfl) (of_decide_eq_true (by kernel_rfl)) k1 bel lt1) (trodAll_cons_mk (Below.trod laidOut (by kernel_rfl) (of_decide_eq_true (by kernel_rfl)) k2 bel lt2) trodAll_mk0))), rfl, bel.frame _, fun h => by cases h⟩
theorem over : Rows.gridQuorumsRow.holds Try.pinned (OpenSpec.ofChange Rows.gridQuorumsSpec) :=
  OpenClaim.holds_of_wide 9 Try.f9 rfl rfl rfl rfl rfl rfl rfl ⟨rfl, rfl, rfl, rfl, rfl⟩ rfl rfl rfl rfl rfl (by kernel_rfl) Try.func9 (by kernel_rfl)
    (of_decide_eq_true (by kernel_rfl)) (by unfold Func.isWrapper; first | (rw [if_pos (by decide +kernel)]; kernel_rfl) | (rw [if_neg (by decide +kernel)]; exact ⟨rfl, rfl⟩))
    (fun os started H enc _ => lifted os started H enc)
theorem proved : Rows.GridQuorumsSaid := over
end gridQuorums
theorem gridQuorums_holds : Rows.GridQuorumsSaid := gridQuorums.proved

end Go.Proofs.Ytbldphmnpangiaa
