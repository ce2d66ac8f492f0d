/- For any message: it is read back from its bytes; no conditions. -/
import Derived.Test.YtgekngfnhhdamaaZC5
import Derived.Test.YtgekngfnhhdamaaM29
import Derived.Test.YtgekngfnhhdamaaRows
import Derived.WalkKit
import Derived.ProofKit
import Derived.OpenShut
import Derived.ShutString
import Derived.ChangeOld
import Derived.Below
import Derived.SizedLaws
import Derived.Lib.SmallJoins
import Derived.Deep.Slices
import Derived.Deep.Fields
import Derived.ChangeSame
namespace Go.Proofs.Ytgekngfnhhdamaa
open Go.RowKit
open Go.ChangeShapes Go.WideShapes Go.RowKit
section
open Go.Proofs.YtgekngfnhhdamaaM
theorem wf64u {n : Int} (h : (Lit.int .u64 n).wf = true) : 0 ≤ n ∧ n ≤ 18446744073709551615 := by
  simp [Lit.wf, IntKind.min, IntKind.max, IntKind.signed, IntKind.bits] at h; omega
theorem ent_inv (H : AH) (l : List AV) (h : TS H (.and (.int .i64) (.and (.and (.int .u64) (.and (.int .i64) .emp)) (.and .str .emp))) l) : ∃ y : Go.Proofs.YtgekngfnhhdamaaI.En, l = Go.Proofs.YtgekngfnhhdamaaI.eM y ∧ (-9223372036854775808 ≤ y.1 ∧ y.1 ≤ 9223372036854775807) ∧ y.2.1 ≤ 18446744073709551615 ∧ -9223372036854775808 ≤ y.2.2.1 ∧ y.2.2.1 ≤ 9223372036854775807 := by
  obtain ⟨_, _, rfl, ⟨a, rfl, w1⟩, _, _, rfl, ⟨_, _, rfl, ⟨b, rfl, w2⟩, _, _, rfl, ⟨c, rfl, w3⟩, rfl⟩, _, _, rfl, ⟨d, rfl, _⟩, rfl⟩ := h
  have v1 := Go.Proofs.YtgekngfnhhdamaaM.wf64 w1
  have v2 := wf64u w2
  have v3 := Go.Proofs.YtgekngfnhhdamaaM.wf64 w3
  obtain ⟨C, rfl⟩ : ∃ C : Nat, b = C := ⟨b.toNat, by omega⟩
  refine ⟨(a, C, c, d.data.toList), ?_, v1, (by show C ≤ _; omega), v3⟩
  show _ = [AV.int .i64 a, .int .u64 (C : Int), .int .i64 c, .str (bs d.data.toList)]
  rw [bs_data]; rfl
theorem msg_inv (H : AH) (l : List AV) (h : TS H (.and (.int .i64) (.and (.int .i64) (.and (.int .i64) (.and (.int .i64) (.and (.and (.int .u64) (.and (.int .i64) .emp)) (.and (.int .i64) (.and (.int .i64) (.and .bool (.and .str (.and (.slc (.and (.int .i64) (.and (.and (.int .u64) (.and (.int .i64) .emp)) (.and .str .emp)))) .emp)))))))))) l) : ∃ (k1 k2 k3 k4 : Int) (C : Nat) (n1 s1 s2 : Int) (ok : Bool) (x : List UInt8) (S : AV) (L : List Go.Proofs.YtgekngfnhhdamaaI.En), l = [.int .i64 k1, .int .i64 k2, .int .i64 k3, .int .i64 k4, .int .u64 (C : Int), .int .i64 n1, .int .i64 s1, .int .i64 s2, .bool ok, .str (bs x), S] ∧ Go.Proofs.YtgekngfnhhdamaaI.Fa H S L ∧ (-9223372036854775808 ≤ k1 ∧ k1 ≤ 9223372036854775807) ∧ (-9223372036854775808 ≤ k2 ∧ k2 ≤ 9223372036854775807) ∧ (-9223372036854775808 ≤ k3 ∧ k3 ≤ 9223372036854775807) ∧ (-9223372036854775808 ≤ k4 ∧ k4 ≤ 9223372036854775807) ∧ C ≤ 18446744073709551615 ∧ (-9223372036854775808 ≤ n1 ∧ n1 ≤ 9223372036854775807) ∧ (-9223372036854775808 ≤ s1 ∧ s1 ≤ 9223372036854775807) ∧ (-9223372036854775808 ≤ s2 ∧ s2 ≤ 9223372036854775807) ∧ (∀ y ∈ L, (-9223372036854775808 ≤ y.1 ∧ y.1 ≤ 9223372036854775807) ∧ y.2.1 ≤ 18446744073709551615 ∧ -9223372036854775808 ≤ y.2.2.1 ∧ y.2.2.1 ≤ 9223372036854775807) := by
  obtain ⟨_, _, rfl, ⟨k1, rfl, w1⟩, _, _, rfl, ⟨k2, rfl, w2⟩, _, _, rfl, ⟨k3, rfl, w3⟩, _, _, rfl, ⟨k4, rfl, w4⟩, _, _, rfl, ⟨_, _, rfl, ⟨C, rfl, w5⟩, _, _, rfl, ⟨n1, rfl, w6⟩, rfl⟩, _, _, rfl, ⟨s1, rfl, w7⟩, _, _, rfl, ⟨s2, rfl, w8⟩, _, _, rfl, ⟨ok, rfl⟩, _, _, rfl, ⟨x, rfl, _⟩, lS, _, rfl, hS, rfl⟩ := h
  have v5 := wf64u w5
  obtain ⟨C, rfl⟩ : ∃ c : Nat, C = c := ⟨C.toNat, by omega⟩
  obtain ⟨S, rfl⟩ : ∃ a, lS = [a] := by rcases hS with rfl | ⟨i, es, rfl, _⟩ <;> exact ⟨_, rfl⟩
  obtain ⟨L, hL, _, hF⟩ := TS.slc_inv (fun y : Go.Proofs.YtgekngfnhhdamaaI.En => Go.Proofs.YtgekngfnhhdamaaI.eM y) (fun y => (-9223372036854775808 ≤ y.1 ∧ y.1 ≤ 9223372036854775807) ∧ y.2.1 ≤ 18446744073709551615 ∧ -9223372036854775808 ≤ y.2.2.1 ∧ y.2.2.1 ≤ 9223372036854775807) (fun l hl => ent_inv H l hl) hS
  refine ⟨k1, k2, k3, k4, C, n1, s1, s2, ok, x.data.toList, S, L, ?_, hF, Go.Proofs.YtgekngfnhhdamaaM.wf64 w1, Go.Proofs.YtgekngfnhhdamaaM.wf64 w2, Go.Proofs.YtgekngfnhhdamaaM.wf64 w3, Go.Proofs.YtgekngfnhhdamaaM.wf64 w4, by omega, Go.Proofs.YtgekngfnhhdamaaM.wf64 w6, Go.Proofs.YtgekngfnhhdamaaM.wf64 w7, Go.Proofs.YtgekngfnhhdamaaM.wf64 w8, hL⟩
  rw [bs_data]; rfl
theorem one_all (cells : List AV) (H : AH) (h : TArgs H [(true, (.and (.int .i64) (.and (.int .i64) (.and (.int .i64) (.and (.int .i64) (.and (.and (.int .u64) (.and (.int .i64) .emp)) (.and (.int .i64) (.and (.int .i64) (.and .bool (.and .str (.and (.slc (.and (.int .i64) (.and (.and (.int .u64) (.and (.int .i64) .emp)) (.and .str .emp)))) .emp)))))))))))] cells) : Sp Go.Proofs.YtgekngfnhhdamaaI.T 11 cells H (fun v _ => v = .bool true) := by
  cases h with
  | cons h1 h =>
  cases h
  obtain ⟨_, rfl, g1⟩ := (show ∃ l, _ = AV.agg l ∧ TS H (.and (.int .i64) (.and (.int .i64) (.and (.int .i64) (.and (.int .i64) (.and (.and (.int .u64) (.and (.int .i64) .emp)) (.and (.int .i64) (.and (.int .i64) (.and .bool (.and .str (.and (.slc (.and (.int .i64) (.and (.and (.int .u64) (.and (.int .i64) .emp)) (.and .str .emp)))) .emp)))))))))) l from h1)
  obtain ⟨k1a, k2a, k3a, k4a, Ca, n1a, s1a, s2a, oka, xa, Sa, La, rfl, hFa, r1a, r2a, r3a, r4a, r5a, r6a, r7a, r8a, rLa⟩ := msg_inv H _ g1
  exact Go.Proofs.YtgekngfnhhdamaaI.sp11 k1a k2a k3a k4a Ca n1a s1a s2a oka xa Sa La H hFa r1a r2a r3a r4a r5a r6a r7a r8a rLa
end
namespace msgBack
open Go.ChangeShapes Go.WideShapes Go.ChangeAt Go.RowKit
open Go.ChangeMaps (open_string shut_string)
set_option linter.unusedVariables false
theorem own : ownKnob Try.prog.godebug = none := by kernel_rfl
theorem laidOut : laidOutB Try.prog = true := by kernel_rfl
set_option maxRecDepth 100000 in
theorem lifted (os : Os) (started : os.Started) (H : Type) (enc : TypeId × Value → H) :
    ReturnsInHanded {} Try.checked os 11 .any (Rows.msgBackSpec.pre6 enc Try.prog Try.f11 Rows.msgBackRow.domain false) (Rows.msgBackSpec.post enc Try.prog Try.f11 false true false false) := by
  refine returnsInHanded_of_change_sized (C := Try.checked) own started (by kernel_rfl) Try.func11
    (ChangeSpec.witness6 (enc := enc) (C := Try.checked) false ⟨#[], #[.agg #[.int .i64 0, .int .i64 0, .int .i64 0, .int .i64 0, .int .u64 0, .int .i64 0, .int .i64 0, .int .i64 0, .bool false, .string ⟨#[]⟩, .slice none 0 0]], []⟩ 8 (by kernel_rfl) (by kernel_rfl) (by kernel_rfl) (by kernel_rfl)) ?_
  intro W base args ds gs before hval0 hW hcnd hsz0 _
  have hsz : (DataW.weightsEach Try.prog (Try.f11.params.toList ++ Rows.msgBackSpec.plain.varTypes Try.prog) (ds ++ gs)).all (· ≤ reachBytes) = true := hsz0
  have hval : ∀ (j : Nat) t v, Try.f11.params[j]? = some t → args[j]? = some v → Value.okWide Try.prog W .any base t v := hval0
  have hW' := hW
  obtain ⟨p, q, hA0, hV, rfl, hfz, hnd⟩ := hW
  have hA : DataW.TrodAll enc Try.prog W 0 (fun _ => true) true Try.f11.params.toList args.toList ds p := hA0
  rw [Try.params11] at hA hval hsz
  obtain ⟨v0, vs0, d0, ds0, p0, q0, hargs, rfl, rfl, h0, r0⟩ := trodAll_cons hA
  obtain ⟨rfl, rfl, rfl⟩ := trodAll_nil r0
  obtain rfl : args = #[v0] := by cases args; simp_all
  obtain ⟨rfl, rfl⟩ := trodVars_none hV
  have k0 := h0
  have lt0 : ∀ x ∈ p0, x.block < W.heap.size := by obtain ⟨m, hm⟩ := k0; exact DataW.trod_lt m _ _ _ hm
  obtain ⟨w0, rfl, _⟩ := okWide_struct Try.underlying86 (hval 0 86 v0 rfl rfl)
  clear hA0 hval0 hsz0
  refine (Go.Proofs.YtgekngfnhhdamaaM.law_args (by kernel_rfl) Go.Proofs.YtgekngfnhhdamaaI.T_ok (.cons (Go.Proofs.YtgekngfnhhdamaaM.Ra.row 16 (by kernel_rfl) ⟨_, rfl⟩ k0) .nil) one_all).mono fun e W' ⟨he, bel⟩ => ?_
  subst he
  exact ⟨_, rfl, _, _, _, [], _, [], hW', trodAll_mk1 (shut_bool Try.underlying4 _), (trodAll_cons_mk (Below.trod laidOut (by kernel_rfl) (of_decide_eq_true (by kernel_rfl)) k0 bel lt0) trodAll_mk0), rfl, bel.frame _, fun h => by cases h⟩
theorem over : Rows.msgBackRow.holds Try.pinned (OpenSpec.ofChange Rows.msgBackSpec) :=
  OpenClaim.holds_of_wide 11 Try.f11 rfl rfl rfl rfl rfl rfl rfl ⟨rfl, rfl, rfl, rfl, rfl⟩ rfl rfl rfl rfl rfl (by kernel_rfl) Try.func11 (by kernel_rfl)
    (of_decide_eq_true (by kernel_rfl)) (by unfold Func.isWrapper; first | (rw [if_pos (by decide +kernel)]; kernel_rfl) | (rw [if_neg (by decide +kernel)]; exact ⟨rfl, rfl⟩))
    (fun os started H enc _ => lifted os started H enc)
theorem proved : Rows.MsgBackSaid := over
end msgBack
theorem msgBack_holds : Rows.MsgBackSaid := msgBack.proved

end Go.Proofs.Ytgekngfnhhdamaa
