/- For every list of parts: what was written is read back, to the last byte; no conditions. -/
import Derived.Test.YtgekngfnhhdamaaC11
import Derived.Test.YtgekngfnhhdamaaM29
import Derived.Test.YtgekngfnhhdamaaRows
import Derived.WalkKit
import Derived.ProofKit
import Derived.OpenShut
import Derived.ShutString
import Derived.ChangeOld
import Derived.Below
import Derived.SizedLaws
import Derived.Lib.SmallJoins
import Derived.Deep.Slices
import Derived.Deep.Fields
import Derived.ChangeSame
namespace Go.Proofs.Ytgekngfnhhdamaa
open Go.RowKit
open Go.ChangeShapes Go.WideShapes Go.RowKit
section
open Go.Proofs.YtgekngfnhhdamaaM
theorem wfU64 {n : Int} (h : (Lit.int .u64 n).wf = true) : 0 ≤ n ∧ n ≤ 18446744073709551615 := by
  simp [Lit.wf, IntKind.min, IntKind.max, IntKind.signed, IntKind.bits] at h; omega
theorem codeBack_all (cells : List AV) (H : AH) (h : TArgs H [(false, .slc (.and (.int .i64) (.and (.int .u64) (.and (.int .i64) (.and .str .emp)))))] cells) : Sp Go.Proofs.YtgekngfnhhdamaaI.T 6 cells H (fun v _ => v = .bool true) := by
  cases h with
  | cons h1 h =>
  cases h
  obtain ⟨xs, hok, _, hLV⟩ := TS.slc_inv (fun x : Go.Proofs.YtgekngfnhhdamaaI.Pt => Go.Proofs.YtgekngfnhhdamaaI.e4 x) Go.Proofs.YtgekngfnhhdamaaI.okP (fun l hl => by
    simp only [TS] at hl
    obtain ⟨l1, l2, rfl, ⟨a, rfl, _⟩, l3, l4, rfl, ⟨b, rfl, wb⟩, l5, l6, rfl, ⟨c, rfl, wc⟩, l7, l8, rfl, ⟨d, rfl, _⟩, rfl⟩ := hl
    have hb := wfU64 wb
    have hc := wf64 wc
    refine ⟨(a, b.toNat, c, d.data.toList), ?_, ?_⟩
    · show _ = [AV.int .i64 a, AV.int .u64 (b.toNat : Int), AV.int .i64 c, AV.str (bs d.data.toList)]
      rw [bs_data, Int.toNat_of_nonneg hb.1]; rfl
    · exact ⟨by show b.toNat ≤ _; omega, hc.2, hc.1⟩) (show TS H (.slc (.and (.int .i64) (.and (.int .u64) (.and (.int .i64) (.and .str .emp))))) [_] from h1)
  exact Go.Proofs.YtgekngfnhhdamaaI.sp6 _ xs H hok hLV
end
namespace codeBack
open Go.ChangeShapes Go.WideShapes Go.ChangeAt Go.RowKit
open Go.ChangeMaps (open_string shut_string)
set_option linter.unusedVariables false
theorem own : ownKnob Try.prog.godebug = none := by kernel_rfl
theorem laidOut : laidOutB Try.prog = true := by kernel_rfl
set_option maxRecDepth 100000 in
theorem lifted (os : Os) (started : os.Started) (H : Type) (enc : TypeId × Value → H) :
    ReturnsInHanded {} Try.checked os 6 .any (Rows.codeBackSpec.pre6 enc Try.prog Try.f6 Rows.codeBackRow.domain false) (Rows.codeBackSpec.post enc Try.prog Try.f6 false true false false) := by
  refine returnsInHanded_of_change_sized (C := Try.checked) own started (by kernel_rfl) Try.func6
    (ChangeSpec.witness6 (enc := enc) (C := Try.checked) false ⟨#[], #[.slice none 0 0], []⟩ 8 (by kernel_rfl) (by kernel_rfl) (by kernel_rfl) (by kernel_rfl)) ?_
  intro W base args ds gs before hval0 hW hcnd hsz0 _
  have hsz : (DataW.weightsEach Try.prog (Try.f6.params.toList ++ Rows.codeBackSpec.plain.varTypes Try.prog) (ds ++ gs)).all (· ≤ reachBytes) = true := hsz0
  have hval : ∀ (j : Nat) t v, Try.f6.params[j]? = some t → args[j]? = some v → Value.okWide Try.prog W .any base t v := hval0
  have hW' := hW
  obtain ⟨p, q, hA0, hV, rfl, hfz, hnd⟩ := hW
  have hA : DataW.TrodAll enc Try.prog W 0 (fun _ => true) true Try.f6.params.toList args.toList ds p := hA0
  rw [Try.params6] at hA hval hsz
  obtain ⟨v0, vs0, d0, ds0, p0, q0, hargs, rfl, rfl, h0, r0⟩ := trodAll_cons hA
  obtain ⟨rfl, rfl, rfl⟩ := trodAll_nil r0
  obtain rfl : args = #[v0] := by cases args; simp_all
  obtain ⟨rfl, rfl⟩ := trodVars_none hV
  have k0 := h0
  have lt0 : ∀ x ∈ p0, x.block < W.heap.size := by obtain ⟨m, hm⟩ := k0; exact DataW.trod_lt m _ _ _ hm
  obtain ⟨w1, w2, w3, rfl⟩ := okWide_slice Try.underlying22 (hval 0 22 v0 rfl rfl)
  clear hA0 hval0 hsz0
  refine (Go.Proofs.YtgekngfnhhdamaaM.law_args (by kernel_rfl) Go.Proofs.YtgekngfnhhdamaaI.T_ok (.cons (Go.Proofs.YtgekngfnhhdamaaM.Ra.one 8 (by kernel_rfl) rfl rfl k0) .nil) codeBack_all).mono fun e W' ⟨he, bel⟩ => ?_
  subst he
  exact ⟨_, rfl, _, _, _, [], _, [], hW', trodAll_mk1 (shut_bool Try.underlying4 _), (trodAll_cons_mk (Below.trod laidOut (by kernel_rfl) (of_decide_eq_true (by kernel_rfl)) k0 bel lt0) trodAll_mk0), rfl, bel.frame _, fun h => by cases h⟩
theorem over : Rows.codeBackRow.holds Try.pinned (OpenSpec.ofChange Rows.codeBackSpec) :=
  OpenClaim.holds_of_wide 6 Try.f6 rfl rfl rfl rfl rfl rfl rfl ⟨rfl, rfl, rfl, rfl, rfl⟩ rfl rfl rfl rfl rfl (by kernel_rfl) Try.func6 (by kernel_rfl)
    (of_decide_eq_true (by kernel_rfl)) (by unfold Func.isWrapper; first | (rw [if_pos (by decide +kernel)]; kernel_rfl) | (rw [if_neg (by decide +kernel)]; exact ⟨rfl, rfl⟩))
    (fun os started H enc _ => lifted os started H enc)
theorem proved : Rows.CodeBackSaid := over
end codeBack
theorem codeBack_holds : Rows.CodeBackSaid := codeBack.proved

end Go.Proofs.Ytgekngfnhhdamaa
