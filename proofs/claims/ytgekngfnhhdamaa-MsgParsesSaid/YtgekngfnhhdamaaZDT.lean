/- Any bytes are a message, of which they are just the bytes, or told as the document says; no conditions. -/
import Derived.Test.YtgekngfnhhdamaaZD5
import Derived.Test.YtgekngfnhhdamaaM29
import Derived.Test.YtgekngfnhhdamaaRows
import Derived.WalkKit
import Derived.ProofKit
import Derived.OpenShut
import Derived.ShutString
import Derived.ChangeOld
import Derived.Below
import Derived.SizedLaws
import Derived.Lib.SmallJoins
import Derived.Deep.Slices
import Derived.Deep.Fields
import Derived.ChangeSame
namespace Go.Proofs.Ytgekngfnhhdamaa
open Go.RowKit
open Go.ChangeShapes Go.WideShapes Go.RowKit
section
open Go.Proofs.YtgekngfnhhdamaaM
theorem wfU64 {n : Int} (h : (Lit.int .u64 n).wf = true) : 0 ≤ n ∧ n ≤ 18446744073709551615 := by
  simp [Lit.wf, IntKind.min, IntKind.max, IntKind.signed, IntKind.bits] at h; omega
theorem msgParses_all (cells : List AV) (H : AH) (h : TArgs H [(false, .str)] cells) : Sp Go.Proofs.YtgekngfnhhdamaaI.T 12 cells H (fun v _ => v = .bool true) := by
  cases h with
  | cons h1 h =>
  cases h
  obtain ⟨s, e1, _⟩ := (show TS H .str [_] from h1)
  obtain rfl := List.head_eq_of_cons_eq e1
  have fin := Go.Proofs.YtgekngfnhhdamaaI.sp12 s.data.toList H
  simp only [bs_data] at fin
  exact fin
end
namespace msgParses
open Go.ChangeShapes Go.WideShapes Go.ChangeAt Go.RowKit
open Go.ChangeMaps (open_string shut_string)
set_option linter.unusedVariables false
theorem own : ownKnob Try.prog.godebug = none := by kernel_rfl
theorem laidOut : laidOutB Try.prog = true := by kernel_rfl
set_option maxRecDepth 100000 in
theorem lifted (os : Os) (started : os.Started) (H : Type) (enc : TypeId × Value → H) :
    ReturnsInHanded {} Try.checked os 12 .any (Rows.msgParsesSpec.pre6 enc Try.prog Try.f12 Rows.msgParsesRow.domain false) (Rows.msgParsesSpec.post enc Try.prog Try.f12 false true false false) := by
  refine returnsInHanded_of_change_sized (C := Try.checked) own started (by kernel_rfl) Try.func12
    (ChangeSpec.witness6 (enc := enc) (C := Try.checked) false ⟨#[], #[.string ByteArray.empty], []⟩ 8 (by kernel_rfl) (by kernel_rfl) (by kernel_rfl) (by kernel_rfl)) ?_
  intro W base args ds gs before hval0 hW hcnd hsz0 _
  have hsz : (DataW.weightsEach Try.prog (Try.f12.params.toList ++ Rows.msgParsesSpec.plain.varTypes Try.prog) (ds ++ gs)).all (· ≤ reachBytes) = true := hsz0
  have hval : ∀ (j : Nat) t v, Try.f12.params[j]? = some t → args[j]? = some v → Value.okWide Try.prog W .any base t v := hval0
  have hW' := hW
  obtain ⟨p, q, hA0, hV, rfl, hfz, hnd⟩ := hW
  have hA : DataW.TrodAll enc Try.prog W 0 (fun _ => true) true Try.f12.params.toList args.toList ds p := hA0
  rw [Try.params12] at hA hval hsz
  obtain ⟨v0, vs0, d0, ds0, p0, q0, hargs, rfl, rfl, h0, r0⟩ := trodAll_cons hA
  obtain ⟨rfl, rfl, rfl⟩ := trodAll_nil r0
  obtain rfl : args = #[v0] := by cases args; simp_all
  obtain ⟨rfl, rfl⟩ := trodVars_none hV
  have k0 := h0
  have lt0 : ∀ x ∈ p0, x.block < W.heap.size := by obtain ⟨m, hm⟩ := k0; exact DataW.trod_lt m _ _ _ hm
  obtain ⟨ws0, rfl⟩ := okWide_string Try.underlying9 (hval 0 9 v0 rfl rfl)
  clear hA0 hval0 hsz0
  refine (Go.Proofs.YtgekngfnhhdamaaM.law_args (by kernel_rfl) Go.Proofs.YtgekngfnhhdamaaI.T_ok (.cons (Go.Proofs.YtgekngfnhhdamaaM.Ra.one 8 (by kernel_rfl) rfl rfl k0) .nil) msgParses_all).mono fun e W' ⟨he, bel⟩ => ?_
  subst he
  exact ⟨_, rfl, _, _, _, [], _, [], hW', trodAll_mk1 (shut_bool Try.underlying4 _), (trodAll_cons_mk (Below.trod laidOut (by kernel_rfl) (of_decide_eq_true (by kernel_rfl)) k0 bel lt0) trodAll_mk0), rfl, bel.frame _, fun h => by cases h⟩
theorem over : Rows.msgParsesRow.holds Try.pinned (OpenSpec.ofChange Rows.msgParsesSpec) :=
  OpenClaim.holds_of_wide 12 Try.f12 rfl rfl rfl rfl rfl rfl rfl ⟨rfl, rfl, rfl, rfl, rfl⟩ rfl rfl rfl rfl rfl (by kernel_rfl) Try.func12 (by kernel_rfl)
    (of_decide_eq_true (by kernel_rfl)) (by unfold Func.isWrapper; first | (rw [if_pos (by decide +kernel)]; kernel_rfl) | (rw [if_neg (by decide +kernel)]; exact ⟨rfl, rfl⟩))
    (fun os started H enc _ => lifted os started H enc)
theorem proved : Rows.MsgParsesSaid := over
end msgParses
theorem msgParses_holds : Rows.MsgParsesSaid := msgParses.proved

end Go.Proofs.Ytgekngfnhhdamaa
