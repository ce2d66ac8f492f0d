/- For every number of nodes and every list of calls: call by call what is on its way, what comes, and what is cut is what the document says; no conditions. -/
import Derived.Test.YtdehmopdlbdmfaaN27
import Derived.Test.YtdehmopdlbdmfaaM29
import Derived.Test.YtdehmopdlbdmfaaRows
import Derived.WalkKit
import Derived.ProofKit
import Derived.OpenShut
import Derived.ShutString
import Derived.ChangeOld
import Derived.Below
import Derived.SizedLaws
import Derived.Lib.SmallJoins
import Derived.Deep.Slices
import Derived.Deep.Fields
import Derived.ChangeSame
namespace Go.Proofs.Ytdehmopdlbdmfaa
open Go.RowKit
open Go.ChangeShapes Go.WideShapes Go.RowKit
section
open Go.Proofs.YtdehmopdlbdmfaaM
theorem netPlays_all (cells : List AV) (H : AH) (h : TArgs H [(false, .int .i64), (false, .slc (.and (.int .i64) (.and (.int .i64) (.and (.int .i64) (.and .str .emp)))))] cells) : Sp Go.Proofs.YtdehmopdlbdmfaaI.T 6 cells H (fun v _ => v = .bool true) := by
  cases h with
  | cons h1 h =>
  cases h with
  | cons h2 h =>
  cases h
  obtain ⟨n, e1, w1⟩ := (show TS H (.int .i64) [_] from h1)
  obtain rfl := List.head_eq_of_cons_eq e1
  have b1 := wf64 w1
  obtain ⟨xs, hok, _, hLV⟩ := TS.slc_inv (fun x : Go.Proofs.YtdehmopdlbdmfaaI.Ac => Go.Proofs.YtdehmopdlbdmfaaI.e4 x) (fun _ => True) (fun l hl => by
    simp only [TS] at hl
    obtain ⟨l1, l2, rfl, ⟨a, rfl, _⟩, l3, l4, rfl, ⟨b, rfl, _⟩, l5, l6, rfl, ⟨c, rfl, _⟩, l7, l8, rfl, ⟨d, rfl, _⟩, rfl⟩ := hl
    exact ⟨(a, b, c, d), rfl, trivial⟩) (show TS H (.slc (.and (.int .i64) (.and (.int .i64) (.and (.int .i64) (.and .str .emp))))) [_] from h2)
  exact Go.Proofs.YtdehmopdlbdmfaaI.sp6 n _ xs H hLV
end
namespace netPlays
open Go.ChangeShapes Go.WideShapes Go.ChangeAt Go.RowKit
open Go.ChangeMaps (open_string shut_string)
set_option linter.unusedVariables false
theorem own : ownKnob Try.prog.godebug = none := by kernel_rfl
theorem laidOut : laidOutB Try.prog = true := by kernel_rfl
set_option maxRecDepth 100000 in
theorem lifted (os : Os) (started : os.Started) (H : Type) (enc : TypeId × Value → H) :
    ReturnsInHanded {} Try.checked os 6 .any (Rows.netPlaysSpec.pre6 enc Try.prog Try.f6 Rows.netPlaysRow.domain false) (Rows.netPlaysSpec.post enc Try.prog Try.f6 false true false false) := by
  refine returnsInHanded_of_change_sized (C := Try.checked) own started (by kernel_rfl) Try.func6
    (ChangeSpec.witness6 (enc := enc) (C := Try.checked) false ⟨#[], #[.int .i64 0, .slice none 0 0], []⟩ 8 (by kernel_rfl) (by kernel_rfl) (by kernel_rfl) (by kernel_rfl)) ?_
  intro W base args ds gs before hval0 hW hcnd hsz0 _
  have hsz : (DataW.weightsEach Try.prog (Try.f6.params.toList ++ Rows.netPlaysSpec.plain.varTypes Try.prog) (ds ++ gs)).all (· ≤ reachBytes) = true := hsz0
  have hval : ∀ (j : Nat) t v, Try.f6.params[j]? = some t → args[j]? = some v → Value.okWide Try.prog W .any base t v := hval0
  have hW' := hW
  obtain ⟨p, q, hA0, hV, rfl, hfz, hnd⟩ := hW
  have hA : DataW.TrodAll enc Try.prog W 0 (fun _ => true) true Try.f6.params.toList args.toList ds p := hA0
  rw [Try.params6] at hA hval hsz
  obtain ⟨v0, vs0, d0, ds0, p0, q0, hargs, rfl, rfl, h0, r0⟩ := trodAll_cons hA
  obtain ⟨v1, vs1, d1, ds1, p1, q1, rfl, rfl, rfl, h1, r1⟩ := trodAll_cons r0
  obtain ⟨rfl, rfl, rfl⟩ := trodAll_nil r1
  obtain rfl : args = #[v0, v1] := by cases args; simp_all
  obtain ⟨rfl, rfl⟩ := trodVars_none hV
  have k0 := h0
  have lt0 : ∀ x ∈ p0, x.block < W.heap.size := by obtain ⟨m, hm⟩ := k0; exact DataW.trod_lt m _ _ _ hm
  have k1 := h1
  have lt1 : ∀ x ∈ p1, x.block < W.heap.size := by obtain ⟨m, hm⟩ := k1; exact DataW.trod_lt m _ _ _ hm
  obtain ⟨n, rfl, _, _, wf_n⟩ := open_int Try.underlying3 (hval 0 3 v0 rfl rfl) h0
  obtain ⟨u1, u2, u3, rfl⟩ := okWide_slice Try.underlying30 (hval 1 30 v1 rfl rfl)
  clear hA0 hval0 hsz0
  refine (Go.Proofs.YtdehmopdlbdmfaaM.law_args (by kernel_rfl) Go.Proofs.YtdehmopdlbdmfaaI.T_ok (.cons (Go.Proofs.YtdehmopdlbdmfaaM.Ra.one 8 (by kernel_rfl) rfl rfl k0) (.cons (Go.Proofs.YtdehmopdlbdmfaaM.Ra.one 8 (by kernel_rfl) rfl rfl k1) .nil)) netPlays_all).mono fun e W' ⟨he, bel⟩ => ?_
  subst he
  exact ⟨_, rfl, _, _, _, [], _, [], hW', trodAll_mk1 (shut_bool Try.underlying4 _), (trodAll_cons_mk (Below.trod laidOut (by kernel_rfl) (of_decide_eq_true (by kernel_rfl)) k0 bel lt0) (trodAll_cons_mk (Below.trod laidOut (by kernel_rfl) (of_decide_eq_true (by kernel_rfl)) k1 bel lt1) trodAll_mk0)), rfl, bel.frame _, fun h => by cases h⟩
theorem over : Rows.netPlaysRow.holds Try.pinned (OpenSpec.ofChange Rows.netPlaysSpec) :=
  OpenClaim.holds_of_wide 6 Try.f6 rfl rfl rfl rfl rfl rfl rfl ⟨rfl, rfl, rfl, rfl, rfl⟩ rfl rfl rfl rfl rfl (by kernel_rfl) Try.func6 (by kernel_rfl)
    (of_decide_eq_true (by kernel_rfl)) (by unfold Func.isWrapper; first | (rw [if_pos (by decide +kernel)]; kernel_rfl) | (rw [if_neg (by decide +kernel)]; exact ⟨rfl, rfl⟩))
    (fun os started H enc _ => lifted os started H enc)
theorem proved : Rows.NetPlaysSaid := over
end netPlays
theorem netPlays_holds : Rows.NetPlaysSaid := netPlays.proved

end Go.Proofs.Ytdehmopdlbdmfaa
