/- For every ballot, every node and every other node: Next returns the least greater ballot of the node as the reference does, another node's is another one, or the error at the end; no conditions. -/
import Derived.Test.YtllagimocmdldaaBallotPure
import Derived.Test.YtllagimocmdldaaRows
import Derived.WalkKit
import Derived.ProofKit
import Derived.OpenShut
import Derived.ShutString
import Derived.ChangeOld
import Derived.Below
import Derived.SizedLaws
import Derived.Lib.SmallJoins
import Derived.Deep.Slices
import Derived.Deep.Fields
import Derived.ChangeSame
namespace Go.Proofs.Ytllagimocmdldaa
open Go.RowKit PBallotNext Go.Proofs.YtllagimocmdldaaW.PrintWords Go.Proofs.YtllagimocmdldaaW.PrintMore
open Go.ChangeShapes Go.WideShapes Go.RowKit
theorem open_agg_2 {H : Type} {enc : TypeId × Value → H} {P : Program} {w : World} {base : Nat} {spare : Nat → Bool} {held : Bool} {r : Reach} {b0 : Nat} {t : TypeId} {f0 f1 : Field} {v : Value} {d : DataW H} {p : List MemPlace} (hs : P.underlying t = some (.struct #[f0, f1])) (hone : Deep.oneCellFields P #[f0, f1] = true) (hC : P.cellsOf t = 2)
    (hv : Value.okWide P w r b0 t v) (h : DataW.Trod enc P w base spare held t v d p) :
    ∃ (v0 v1 : Value) (y0 y1 : DataW H × List MemPlace) (n : Nat), v = .agg #[v0, v1] ∧
      DataW.trod enc P w base spare held n f0.type [v0] = some y0 ∧ DataW.trod enc P w base spare held n f1.type [v1] = some y1 := by
  obtain ⟨cs, rfl, hsz⟩ := okWide_struct hs hv
  obtain ⟨l⟩ := cs
  match l, hsz.trans hC with
  | [c0, c1], _ =>
    obtain ⟨fuel, hf⟩ := h
    obtain ⟨xs, n, _, hx, _, hlen, hg⟩ := DataW.trod_struct hs hf
    obtain ⟨o0, k0⟩ := Deep.hone_of hone 0 f0 rfl
    obtain ⟨o1, k1⟩ := Deep.hone_of hone 1 f1 rfl
    match xs, hlen with
    | [y0, y1], _ =>
      exact ⟨c0, c1, y0, y1, n, rfl, by simpa [Value.cells, o0, k0] using hg 0 f0 rfl, by simpa [Value.cells, o1, k1] using hg 1 f1 rfl⟩
theorem BallotNextF (C N n m : Int) (c0 : 0 ≤ C) (c1 : C ≤ 18446744073709551615) : chatelainelaw08_BallotNext.f 10 C N n m = some true := by
  have ha : chatelainelaw08_awake.f 10 = some true := by decide +kernel
  obtain ⟨M, hr, m0, m1, m2⟩ := right_eq C N
  unfold chatelainelaw08_BallotNext.f
  rw [ha]; simp only [Option.bind_some, if_true]
  rw [hr]; simp only [Option.bind_some]
  rw [next_eq 8 C M n c0 c1, ref_next_eq 5 C M n c0 c1]; simp only [Option.bind_some, if_true, beq_self_eq_true, Bool.not_true, Bool.or_false]
  simp only [chatelainelaw08_BallotNext.j0]
  rw [if_neg (by decide)]
  by_cases hz : (nxt C M n).2.2 = 0
  · rw [if_pos hz, next_eq 7 C M m c0 c1, compare_eq 6]; simp only [Option.bind_some]
    have hx : 0 ≤ n ∧ n < 12 ∧ (nxt C M n).2.1 = n ∧ (nxt C M n).1 > 0 ∧ (C < (nxt C M n).1 ∨ (nxt C M n).1 = C ∧ M < n) := by
      by_cases b0 : n < 0 ∨ 12 ≤ n
      · rw [nxt_bad b0] at hz; exact absurd hz (by decide)
      · by_cases b1 : 0 < C ∧ M < n
        · rw [nxt_same (by omega) (by omega) b1.1 b1.2]; simp; omega
        · by_cases b2 : C = 18446744073709551615
          · rw [nxt_end (by omega) (by omega) b1 b2] at hz; exact absurd hz (by decide)
          · rw [nxt_up (by omega) (by omega) b1 b2]; simp; omega
    obtain ⟨x0, x1, x2, x3, x4⟩ := hx
    rw [if_pos (by rw [gt_iff_lt, ← gt_iff_lt, cmpB_pos, x2]; omega), if_pos x2, if_pos x3]
    by_cases hy : (nxt C M m).2.2 = 0
    · rw [if_pos hy]
      by_cases hm : m = n
      · rw [if_pos hm]
      · rw [if_neg hm, compare_eq 6]; simp only [Option.bind_some]
        have : ¬ cmpB (nxt C M n).1 (nxt C M n).2.1 (nxt C M m).1 (nxt C M m).2.1 = 0 := by
          rw [cmpB_zero, x2]
          have : (nxt C M m).2.1 = m := by
            by_cases b0 : m < 0 ∨ 12 ≤ m
            · rw [nxt_bad b0] at hy; exact absurd hy (by decide)
            · by_cases b1 : 0 < C ∧ M < m
              · rw [nxt_same (by omega) (by omega) b1.1 b1.2]
              · by_cases b2 : C = 18446744073709551615
                · rw [nxt_end (by omega) (by omega) b1 b2] at hy; exact absurd hy (by decide)
                · rw [nxt_up (by omega) (by omega) b1 b2]
          omega
        simp [this]
    · rw [if_neg hy]
  · rw [if_neg hz]
theorem u64_of_wf {n : Int} (h : (Lit.int .u64 n).wf = true) : 0 ≤ n ∧ n ≤ 18446744073709551615 := by
  have a : IntKind.u64.min = 0 := by decide +kernel
  have b : IntKind.u64.max = 18446744073709551615 := by decide +kernel
  simp [Lit.wf] at h; omega
theorem next_any {C N n m : Int} (h : (Lit.int .u64 C).wf = true) (w : World) : Calls Try.prog 11 #[.agg #[.int .u64 C, .int .i64 N], .int .i64 n, .int .i64 m] w fun e w' => e = .returned (.bool true) ∧ Below w.heap.size w w' :=
  chatelainelaw08_BallotNext.calls 10 C N n m true w (BallotNextF C N n m (u64_of_wf h).1 (u64_of_wf h).2)
namespace ballotNext
open Go.ChangeShapes Go.WideShapes Go.ChangeAt Go.RowKit
open Go.ChangeMaps (open_string shut_string)
set_option linter.unusedVariables false
theorem own : ownKnob Try.prog.godebug = none := by kernel_rfl
theorem laidOut : laidOutB Try.prog = true := by kernel_rfl
set_option maxRecDepth 100000 in
theorem lifted (os : Os) (started : os.Started) (H : Type) (enc : TypeId × Value → H) :
    ReturnsInHanded {} Try.checked os 11 .any (Rows.ballotNextSpec.pre6 enc Try.prog Try.f11 Rows.ballotNextRow.domain false) (Rows.ballotNextSpec.post enc Try.prog Try.f11 false true false false) := by
  refine returnsInHanded_of_change_sized (C := Try.checked) own started (by kernel_rfl) Try.func11
    (ChangeSpec.witness6 (enc := enc) (C := Try.checked) false ⟨#[], #[.agg #[.int .u64 0, .int .i64 0], .int .i64 0, .int .i64 0], []⟩ 8 (by kernel_rfl) (by kernel_rfl) (by kernel_rfl) (by kernel_rfl)) ?_
  intro W base args ds gs before hval0 hW hcnd hsz0 _
  have hsz : (DataW.weightsEach Try.prog (Try.f11.params.toList ++ Rows.ballotNextSpec.plain.varTypes Try.prog) (ds ++ gs)).all (· ≤ reachBytes) = true := hsz0
  have hval : ∀ (j : Nat) t v, Try.f11.params[j]? = some t → args[j]? = some v → Value.okWide Try.prog W .any base t v := hval0
  have hW' := hW
  obtain ⟨p, q, hA0, hV, rfl, hfz, hnd⟩ := hW
  have hA : DataW.TrodAll enc Try.prog W 0 (fun _ => true) true Try.f11.params.toList args.toList ds p := hA0
  rw [Try.params11] at hA hval hsz
  obtain ⟨v0, vs0, d0, ds0, p0, q0, hargs, rfl, rfl, h0, r0⟩ := trodAll_cons hA
  obtain ⟨v1, vs1, d1, ds1, p1, q1, rfl, rfl, rfl, h1, r1⟩ := trodAll_cons r0
  obtain ⟨v2, vs2, d2, ds2, p2, q2, rfl, rfl, rfl, h2, r2⟩ := trodAll_cons r1
  obtain ⟨rfl, rfl, rfl⟩ := trodAll_nil r2
  obtain rfl : args = #[v0, v1, v2] := by cases args; simp_all
  obtain ⟨rfl, rfl⟩ := trodVars_none hV
  have k0 := h0
  have lt0 : ∀ x ∈ p0, x.block < W.heap.size := by obtain ⟨m, hm⟩ := k0; exact DataW.trod_lt m _ _ _ hm
  have k1 := h1
  have lt1 : ∀ x ∈ p1, x.block < W.heap.size := by obtain ⟨m, hm⟩ := k1; exact DataW.trod_lt m _ _ _ hm
  have k2 := h2
  have lt2 : ∀ x ∈ p2, x.block < W.heap.size := by obtain ⟨m, hm⟩ := k2; exact DataW.trod_lt m _ _ _ hm
  obtain ⟨c0, c1, y0, y1, n0, rfl, hy0, hy1⟩ := open_agg_2 Try.underlying56 (by kernel_rfl) (by kernel_rfl) (hval 0 56 v0 rfl rfl) h0
  obtain ⟨C, e0, _, wf_C⟩ := DataW.trod_int Try.underlying54 hy0
  obtain rfl := List.head_eq_of_cons_eq e0
  obtain ⟨M, e1, _, wf_M⟩ := DataW.trod_int Try.underlying3 hy1
  obtain rfl := List.head_eq_of_cons_eq e1
  obtain ⟨n, rfl, _, _, wf_n⟩ := open_int Try.underlying3 (hval 1 3 v1 rfl rfl) h1
  obtain ⟨m, rfl, _, _, wf_m⟩ := open_int Try.underlying3 (hval 2 3 v2 rfl rfl) h2
  clear hA0 hval0 hsz0
  refine (next_any wf_C W).mono fun e W' ⟨he, bel⟩ => ?_
  subst he
  exact ⟨_, rfl, _, _, _, [], _, [], hW', trodAll_mk1 (shut_bool Try.underlying4 _), (trodAll_cons_mk (Below.trod laidOut (by kernel_rfl) (of_decide_eq_true (by kernel_rfl)) k0 bel lt0) (trodAll_cons_mk (Below.trod laidOut (by kernel_rfl) (of_decide_eq_true (by kernel_rfl)) k1 bel lt1) (trodAll_cons_mk (Below.trod laidOut (by kernel_rfl) (of_decide_eq_true (by kernel_rfl)) k2 bel lt2) trodAll_mk0))), rfl, bel.frame _, fun h => by cases h⟩
theorem over : Rows.ballotNextRow.holds Try.pinned (OpenSpec.ofChange Rows.ballotNextSpec) :=
  OpenClaim.holds_of_wide 11 Try.f11 rfl rfl rfl rfl rfl rfl rfl ⟨rfl, rfl, rfl, rfl, rfl⟩ rfl rfl rfl rfl rfl (by kernel_rfl) Try.func11 (by kernel_rfl)
    (of_decide_eq_true (by kernel_rfl)) (by unfold Func.isWrapper; first | (rw [if_pos (by decide +kernel)]; kernel_rfl) | (rw [if_neg (by decide +kernel)]; exact ⟨rfl, rfl⟩))
    (fun os started H enc _ => lifted os started H enc)
theorem proved : Rows.BallotNextSaid := over
end ballotNext
theorem ballotNext_holds : Rows.BallotNextSaid := ballotNext.proved

end Go.Proofs.Ytllagimocmdldaa
