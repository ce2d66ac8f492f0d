/- For every two clocks that may be and every times: longer is longer, shorter is shorter, both rise with time; no conditions. -/
import Derived.Test.YtllagimocmdldaaD4
import Derived.Test.YtllagimocmdldaaM29
import Derived.Test.YtllagimocmdldaaRows
import Derived.WalkKit
import Derived.ProofKit
import Derived.OpenShut
import Derived.ShutString
import Derived.ChangeOld
import Derived.Below
import Derived.SizedLaws
import Derived.Lib.SmallJoins
import Derived.Deep.Slices
import Derived.Deep.Fields
import Derived.ChangeSame
namespace Go.Proofs.Ytllagimocmdldaa
open Go.RowKit
open Go.ChangeShapes Go.WideShapes Go.RowKit
section
open Go.Proofs.YtllagimocmdldaaM
theorem rises_all (cells : List AV) (H : AH) (h : TArgs H [(true, (.and (.int .i64) (.and (.int .i64) (.and (.int .i64) (.and (.int .i64) (.and (.int .i64) .emp))))))] cells) : Sp Go.Proofs.YtllagimocmdldaaI.T 7 cells H (fun v _ => v = .bool true) := by
  cases h with
  | cons h1 h =>
  cases h
  simp only [TArg, if_true, TS] at h1
  obtain ⟨l, rfl, l1, l2, rfl, ⟨a, rfl, _⟩, l3, l4, rfl, ⟨b, rfl, _⟩, l5, l6, rfl, ⟨c, rfl, _⟩, l7, l8, rfl, ⟨d, rfl, _⟩, l9, l10, rfl, ⟨e, rfl, _⟩, rfl⟩ := h1
  exact Go.Proofs.YtllagimocmdldaaI.sp7 a b c d e H
end
namespace driftRises
open Go.ChangeShapes Go.WideShapes Go.ChangeAt Go.RowKit
open Go.ChangeMaps (open_string shut_string)
set_option linter.unusedVariables false
theorem own : ownKnob Try.prog.godebug = none := by kernel_rfl
theorem laidOut : laidOutB Try.prog = true := by kernel_rfl
set_option maxRecDepth 100000 in
theorem lifted (os : Os) (started : os.Started) (H : Type) (enc : TypeId × Value → H) :
    ReturnsInHanded {} Try.checked os 7 .any (Rows.driftRisesSpec.pre6 enc Try.prog Try.f7 Rows.driftRisesRow.domain false) (Rows.driftRisesSpec.post enc Try.prog Try.f7 false true false false) := by
  refine returnsInHanded_of_change_sized (C := Try.checked) own started (by kernel_rfl) Try.func7
    (ChangeSpec.witness6 (enc := enc) (C := Try.checked) false ⟨#[], #[.agg #[.int .i64 0, .int .i64 0, .int .i64 0, .int .i64 0, .int .i64 0]], []⟩ 8 (by kernel_rfl) (by kernel_rfl) (by kernel_rfl) (by kernel_rfl)) ?_
  intro W base args ds gs before hval0 hW hcnd hsz0 _
  have hsz : (DataW.weightsEach Try.prog (Try.f7.params.toList ++ Rows.driftRisesSpec.plain.varTypes Try.prog) (ds ++ gs)).all (· ≤ reachBytes) = true := hsz0
  have hval : ∀ (j : Nat) t v, Try.f7.params[j]? = some t → args[j]? = some v → Value.okWide Try.prog W .any base t v := hval0
  have hW' := hW
  obtain ⟨p, q, hA0, hV, rfl, hfz, hnd⟩ := hW
  have hA : DataW.TrodAll enc Try.prog W 0 (fun _ => true) true Try.f7.params.toList args.toList ds p := hA0
  rw [Try.params7] at hA hval hsz
  obtain ⟨v0, vs0, d0, ds0, p0, q0, hargs, rfl, rfl, h0, r0⟩ := trodAll_cons hA
  obtain ⟨rfl, rfl, rfl⟩ := trodAll_nil r0
  obtain rfl : args = #[v0] := by cases args; simp_all
  obtain ⟨rfl, rfl⟩ := trodVars_none hV
  have k0 := h0
  have lt0 : ∀ x ∈ p0, x.block < W.heap.size := by obtain ⟨m, hm⟩ := k0; exact DataW.trod_lt m _ _ _ hm
  obtain ⟨w0, rfl, _⟩ := okWide_struct Try.underlying33 (hval 0 33 v0 rfl rfl)
  clear hA0 hval0 hsz0
  refine (Go.Proofs.YtllagimocmdldaaM.law_args (by kernel_rfl) Go.Proofs.YtllagimocmdldaaI.T_ok (.cons (Go.Proofs.YtllagimocmdldaaM.Ra.row 8 (by kernel_rfl) ⟨_, rfl⟩ k0) .nil) rises_all).mono fun e W' ⟨he, bel⟩ => ?_
  subst he
  exact ⟨_, rfl, _, _, _, [], _, [], hW', trodAll_mk1 (shut_bool Try.underlying4 _), (trodAll_cons_mk (Below.trod laidOut (by kernel_rfl) (of_decide_eq_true (by kernel_rfl)) k0 bel lt0) trodAll_mk0), rfl, bel.frame _, fun h => by cases h⟩
theorem over : Rows.driftRisesRow.holds Try.pinned (OpenSpec.ofChange Rows.driftRisesSpec) :=
  OpenClaim.holds_of_wide 7 Try.f7 rfl rfl rfl rfl rfl rfl rfl ⟨rfl, rfl, rfl, rfl, rfl⟩ rfl rfl rfl rfl rfl (by kernel_rfl) Try.func7 (by kernel_rfl)
    (of_decide_eq_true (by kernel_rfl)) (by unfold Func.isWrapper; first | (rw [if_pos (by decide +kernel)]; kernel_rfl) | (rw [if_neg (by decide +kernel)]; exact ⟨rfl, rfl⟩))
    (fun os started H enc _ => lifted os started H enc)
theorem proved : Rows.DriftRisesSaid := over
end driftRises
theorem driftRises_holds : Rows.DriftRisesSaid := driftRises.proved

end Go.Proofs.Ytllagimocmdldaa
