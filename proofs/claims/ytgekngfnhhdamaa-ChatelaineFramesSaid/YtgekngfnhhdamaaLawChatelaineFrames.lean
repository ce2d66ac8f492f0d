/- For any texts, framed one behind the other and cut off anywhere: what is read back is what is whole; no conditions. -/
import Derived.Test.YtgekngfnhhdamaaG1
import Derived.Test.YtgekngfnhhdamaaM29
import Derived.Test.YtgekngfnhhdamaaRows
import Derived.WalkKit
import Derived.ProofKit
import Derived.OpenShut
import Derived.ShutString
import Derived.ChangeOld
import Derived.Below
import Derived.SizedLaws
import Derived.Lib.SmallJoins
import Derived.Deep.Slices
import Derived.Deep.Fields
import Derived.ChangeSame
namespace Go.Proofs.Ytgekngfnhhdamaa
open Go.RowKit
open Go.ChangeShapes Go.WideShapes Go.RowKit
section
open Go.Proofs.YtgekngfnhhdamaaM
theorem frames_all (cells : List AV) (H : AH) (h : TArgs H [(false, .slc .str), (false, .int .i64)] cells) : Sp Go.Proofs.YtgekngfnhhdamaaI.T 8 cells H (fun v _ => v = .bool true) := by
  cases h with
  | cons h1 h =>
  cases h with
  | cons h2 h =>
  cases h
  obtain ⟨xs, _, _, hL⟩ := TS.slc_inv (fun x : List UInt8 => Go.Proofs.YtgekngfnhhdamaaI.eS x) (fun _ => True) (fun l hl => by
    simp only [TS] at hl
    obtain ⟨s, rfl, _⟩ := hl
    refine ⟨s.data.toList, ?_, trivial⟩
    show _ = [AV.str (bs s.data.toList)]
    rw [bs_data]) (show TS H (.slc .str) [_] from h1)
  obtain ⟨c, e2, _⟩ := (show TS H (.int .i64) [_] from h2)
  obtain rfl := List.head_eq_of_cons_eq e2
  exact Go.Proofs.YtgekngfnhhdamaaI.sp8 _ xs c H hL
end
namespace chatelaineFrames
open Go.ChangeShapes Go.WideShapes Go.ChangeAt Go.RowKit
open Go.ChangeMaps (open_string shut_string)
set_option linter.unusedVariables false
theorem own : ownKnob Try.prog.godebug = none := by kernel_rfl
theorem laidOut : laidOutB Try.prog = true := by kernel_rfl
set_option maxRecDepth 100000 in
theorem lifted (os : Os) (started : os.Started) (H : Type) (enc : TypeId × Value → H) :
    ReturnsInHanded {} Try.checked os 8 .any (Rows.chatelaineFramesSpec.pre6 enc Try.prog Try.f8 Rows.chatelaineFramesRow.domain false) (Rows.chatelaineFramesSpec.post enc Try.prog Try.f8 false true false false) := by
  refine returnsInHanded_of_change_sized (C := Try.checked) own started (by kernel_rfl) Try.func8
    (ChangeSpec.witness6 (enc := enc) (C := Try.checked) false ⟨#[], #[.slice none 0 0, .int .i64 0], []⟩ 8 (by kernel_rfl) (by kernel_rfl) (by kernel_rfl) (by kernel_rfl)) ?_
  intro W base args ds gs before hval0 hW hcnd hsz0 _
  have hsz : (DataW.weightsEach Try.prog (Try.f8.params.toList ++ Rows.chatelaineFramesSpec.plain.varTypes Try.prog) (ds ++ gs)).all (· ≤ reachBytes) = true := hsz0
  have hval : ∀ (j : Nat) t v, Try.f8.params[j]? = some t → args[j]? = some v → Value.okWide Try.prog W .any base t v := hval0
  have hW' := hW
  obtain ⟨p, q, hA0, hV, rfl, hfz, hnd⟩ := hW
  have hA : DataW.TrodAll enc Try.prog W 0 (fun _ => true) true Try.f8.params.toList args.toList ds p := hA0
  rw [Try.params8] at hA hval hsz
  obtain ⟨v0, vs0, d0, ds0, p0, q0, hargs, rfl, rfl, h0, r0⟩ := trodAll_cons hA
  obtain ⟨v1, vs1, d1, ds1, p1, q1, rfl, rfl, rfl, h1, r1⟩ := trodAll_cons r0
  obtain ⟨rfl, rfl, rfl⟩ := trodAll_nil r1
  obtain rfl : args = #[v0, v1] := by cases args; simp_all
  obtain ⟨rfl, rfl⟩ := trodVars_none hV
  have k0 := h0
  have lt0 : ∀ x ∈ p0, x.block < W.heap.size := by obtain ⟨m, hm⟩ := k0; exact DataW.trod_lt m _ _ _ hm
  have k1 := h1
  have lt1 : ∀ x ∈ p1, x.block < W.heap.size := by obtain ⟨m, hm⟩ := k1; exact DataW.trod_lt m _ _ _ hm
  obtain ⟨w1, w2, w3, rfl⟩ := okWide_slice Try.underlying70 (hval 0 70 v0 rfl rfl)
  obtain ⟨w0, rfl, _, _, _⟩ := open_int Try.underlying3 (hval 1 3 v1 rfl rfl) h1
  clear hA0 hval0 hsz0
  refine (Go.Proofs.YtgekngfnhhdamaaM.law_args (by kernel_rfl) Go.Proofs.YtgekngfnhhdamaaI.T_ok (.cons (Go.Proofs.YtgekngfnhhdamaaM.Ra.one 8 (by kernel_rfl) rfl rfl k0) (.cons (Go.Proofs.YtgekngfnhhdamaaM.Ra.one 8 (by kernel_rfl) rfl rfl k1) .nil)) frames_all).mono fun e W' ⟨he, bel⟩ => ?_
  subst he
  exact ⟨_, rfl, _, _, _, [], _, [], hW', trodAll_mk1 (shut_bool Try.underlying4 _), (trodAll_cons_mk (Below.trod laidOut (by kernel_rfl) (of_decide_eq_true (by kernel_rfl)) k0 bel lt0) (trodAll_cons_mk (Below.trod laidOut (by kernel_rfl) (of_decide_eq_true (by kernel_rfl)) k1 bel lt1) trodAll_mk0)), rfl, bel.frame _, fun h => by cases h⟩
theorem over : Rows.chatelaineFramesRow.holds Try.pinned (OpenSpec.ofChange Rows.chatelaineFramesSpec) :=
  OpenClaim.holds_of_wide 8 Try.f8 rfl rfl rfl rfl rfl rfl rfl ⟨rfl, rfl, rfl, rfl, rfl⟩ rfl rfl rfl rfl rfl (by kernel_rfl) Try.func8 (by kernel_rfl)
    (of_decide_eq_true (by kernel_rfl)) (by unfold Func.isWrapper; first | (rw [if_pos (by decide +kernel)]; kernel_rfl) | (rw [if_neg (by decide +kernel)]; exact ⟨rfl, rfl⟩))
    (fun os started H enc _ => lifted os started H enc)
theorem proved : Rows.ChatelaineFramesSaid := over
end chatelaineFrames
theorem chatelaineFrames_holds : Rows.ChatelaineFramesSaid := chatelaineFrames.proved

end Go.Proofs.Ytgekngfnhhdamaa
