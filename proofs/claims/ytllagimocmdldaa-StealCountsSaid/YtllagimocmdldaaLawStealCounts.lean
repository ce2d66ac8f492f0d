/- For every policy, every number of regions and every list of touches: the counts and wishes of the regions are what the document says; no conditions. -/
import Derived.Test.YtllagimocmdldaaT5
import Derived.Test.YtllagimocmdldaaM29
import Derived.Test.YtllagimocmdldaaRows
import Derived.WalkKit
import Derived.ProofKit
import Derived.OpenShut
import Derived.ShutString
import Derived.ChangeOld
import Derived.Below
import Derived.SizedLaws
import Derived.Lib.SmallJoins
import Derived.Deep.Slices
import Derived.Deep.Fields
import Derived.ChangeSame
namespace Go.Proofs.Ytllagimocmdldaa
open Go.RowKit
open Go.ChangeShapes Go.WideShapes Go.RowKit
theorem okw_array {P : Program} {w : World} {r : Reach} {base : Nat} {t e : TypeId} {n : Nat} {v : Value} (ht : P.underlying t = some (.array n e)) (h : Value.okWide P w r base t v) : ∃ cs, v = .agg cs ∧ cs.size = P.cellsOf t := by
  unfold Value.okWide at h
  rw [ht] at h
  obtain ⟨cs, h1, h2, _⟩ := h
  exact ⟨cs, h1, h2⟩
section
open Go.Proofs.YtllagimocmdldaaM
theorem counts_all (cells : List AV) (H : AH) (h : TArgs H [(true, (.and (.int .i64) (.and (.int .i64) .emp))), (false, .int .i64), (false, .slc (.and (.int .i64) (.and (.int .i64) (.and (.int .i64) .emp))))] cells) : Sp Go.Proofs.YtllagimocmdldaaI.T 9 cells H (fun v _ => v = .bool true) := by
  cases h with
  | cons h1 h =>
  cases h with
  | cons h2 h =>
  cases h with
  | cons h3 h =>
  cases h
  simp only [TArg, if_true, TS] at h1
  obtain ⟨l, rfl, l1, l2, rfl, ⟨a, rfl, _⟩, l3, l4, rfl, ⟨b, rfl, _⟩, rfl⟩ := h1
  obtain ⟨g, e, _⟩ := (show TS H (.int .i64) [_] from h2)
  obtain rfl := List.head_eq_of_cons_eq e
  obtain ⟨ys, _, _, hLV⟩ := TS.slc_inv (fun x : Int × Int × Int => Go.Proofs.YtllagimocmdldaaI.e3L x) (fun _ => True) (fun l hl => by
    simp only [TS] at hl
    obtain ⟨l1, l2, rfl, ⟨a, rfl, _⟩, l3, l4, rfl, ⟨b, rfl, _⟩, l5, l6, rfl, ⟨c, rfl, _⟩, rfl⟩ := hl
    exact ⟨(a, b, c), rfl, trivial⟩) (show TS H (.slc (.and (.int .i64) (.and (.int .i64) (.and (.int .i64) .emp)))) [_] from h3)
  exact Go.Proofs.YtllagimocmdldaaI.sp9 a b g _ ys H hLV
end
namespace stealCounts
open Go.ChangeShapes Go.WideShapes Go.ChangeAt Go.RowKit
open Go.ChangeMaps (open_string shut_string)
set_option linter.unusedVariables false
theorem own : ownKnob Try.prog.godebug = none := by kernel_rfl
theorem laidOut : laidOutB Try.prog = true := by kernel_rfl
set_option maxRecDepth 100000 in
theorem lifted (os : Os) (started : os.Started) (H : Type) (enc : TypeId × Value → H) :
    ReturnsInHanded {} Try.checked os 9 .any (Rows.stealCountsSpec.pre6 enc Try.prog Try.f9 Rows.stealCountsRow.domain false) (Rows.stealCountsSpec.post enc Try.prog Try.f9 false true false false) := by
  refine returnsInHanded_of_change_sized (C := Try.checked) own started (by kernel_rfl) Try.func9
    (ChangeSpec.witness6 (enc := enc) (C := Try.checked) false ⟨#[], #[.agg #[.int .i64 0, .int .i64 0], .int .i64 0, .slice none 0 0], []⟩ 8 (by kernel_rfl) (by kernel_rfl) (by kernel_rfl) (by kernel_rfl)) ?_
  intro W base args ds gs before hval0 hW hcnd hsz0 _
  have hsz : (DataW.weightsEach Try.prog (Try.f9.params.toList ++ Rows.stealCountsSpec.plain.varTypes Try.prog) (ds ++ gs)).all (· ≤ reachBytes) = true := hsz0
  have hval : ∀ (j : Nat) t v, Try.f9.params[j]? = some t → args[j]? = some v → Value.okWide Try.prog W .any base t v := hval0
  have hW' := hW
  obtain ⟨p, q, hA0, hV, rfl, hfz, hnd⟩ := hW
  have hA : DataW.TrodAll enc Try.prog W 0 (fun _ => true) true Try.f9.params.toList args.toList ds p := hA0
  rw [Try.params9] at hA hval hsz
  obtain ⟨v0, vs0, d0, ds0, p0, q0, hargs, rfl, rfl, h0, r0⟩ := trodAll_cons hA
  obtain ⟨v1, vs1, d1, ds1, p1, q1, rfl, rfl, rfl, h1, r1⟩ := trodAll_cons r0
  obtain ⟨v2, vs2, d2, ds2, p2, q2, rfl, rfl, rfl, h2, r2⟩ := trodAll_cons r1
  obtain ⟨rfl, rfl, rfl⟩ := trodAll_nil r2
  obtain rfl : args = #[v0, v1, v2] := by cases args; simp_all
  obtain ⟨rfl, rfl⟩ := trodVars_none hV
  have k0 := h0
  have lt0 : ∀ x ∈ p0, x.block < W.heap.size := by obtain ⟨m, hm⟩ := k0; exact DataW.trod_lt m _ _ _ hm
  have k1 := h1
  have lt1 : ∀ x ∈ p1, x.block < W.heap.size := by obtain ⟨m, hm⟩ := k1; exact DataW.trod_lt m _ _ _ hm
  have k2 := h2
  have lt2 : ∀ x ∈ p2, x.block < W.heap.size := by obtain ⟨m, hm⟩ := k2; exact DataW.trod_lt m _ _ _ hm
  obtain ⟨w0, rfl, _⟩ := okw_array Try.underlying37 (hval 0 37 v0 rfl rfl)
  obtain ⟨w4, rfl, _, _, _⟩ := open_int Try.underlying3 (hval 1 3 v1 rfl rfl) h1
  obtain ⟨w1, w2, w3, rfl⟩ := okWide_slice Try.underlying41 (hval 2 41 v2 rfl rfl)
  clear hA0 hval0 hsz0
  refine (Go.Proofs.YtllagimocmdldaaM.law_args (by kernel_rfl) Go.Proofs.YtllagimocmdldaaI.T_ok (.cons (Go.Proofs.YtllagimocmdldaaM.Ra.row 8 (by kernel_rfl) ⟨_, rfl⟩ k0) (.cons (Go.Proofs.YtllagimocmdldaaM.Ra.one 8 (by kernel_rfl) rfl rfl k1) (.cons (Go.Proofs.YtllagimocmdldaaM.Ra.one 8 (by kernel_rfl) rfl rfl k2) .nil))) counts_all).mono fun e W' ⟨he, bel⟩ => ?_
  subst he
  exact ⟨_, rfl, _, _, _, [], _, [], hW', trodAll_mk1 (shut_bool Try.underlying4 _), (trodAll_cons_mk (Below.trod laidOut (by kernel_rfl) (of_decide_eq_true (by kernel_rfl)) k0 bel lt0) (trodAll_cons_mk (Below.trod laidOut (by kernel_rfl) (of_decide_eq_true (by kernel_rfl)) k1 bel lt1) (trodAll_cons_mk (Below.trod laidOut (by kernel_rfl) (of_decide_eq_true (by kernel_rfl)) k2 bel lt2) trodAll_mk0))), rfl, bel.frame _, fun h => by cases h⟩
theorem over : Rows.stealCountsRow.holds Try.pinned (OpenSpec.ofChange Rows.stealCountsSpec) :=
  OpenClaim.holds_of_wide 9 Try.f9 rfl rfl rfl rfl rfl rfl rfl ⟨rfl, rfl, rfl, rfl, rfl⟩ rfl rfl rfl rfl rfl (by kernel_rfl) Try.func9 (by kernel_rfl)
    (of_decide_eq_true (by kernel_rfl)) (by unfold Func.isWrapper; first | (rw [if_pos (by decide +kernel)]; kernel_rfl) | (rw [if_neg (by decide +kernel)]; exact ⟨rfl, rfl⟩))
    (fun os started H enc _ => lifted os started H enc)
theorem proved : Rows.StealCountsSaid := over
end stealCounts
theorem stealCounts_holds : Rows.StealCountsSaid := stealCounts.proved

end Go.Proofs.Ytllagimocmdldaa
