/- For all times Later returns the limited sum of the two, in either order; no conditions beyond the parameters' own kinds. -/
import Derived.Test.YtllagimocmdldaaPDriftLaterx1
namespace Go.Proofs.Ytllagimocmdldaa.Pure
open Go.RowKit Go.Proofs.Ytllagimocmdldaa.PDriftLater Go.Proofs.YtllagimocmdldaaW.PrintWords Go.Proofs.YtllagimocmdldaaW.PrintLast Go.Proofs.YtllagimocmdldaaW.PrintMore
def wn (t : Int) : Int := mx 0 (mn t 1099511627776)
theorem wn_eq (t : Int) : wn t = if t < 0 then 0 else if 1099511627776 < t then 1099511627776 else t := by unfold wn mx mn; repeat' split <;> omega
theorem w64 {x : Int} (h : -9223372036854775808 ≤ x) (h2 : x ≤ 9223372036854775807) : wrap64 x = x := by unfold wrap64; omega
def lt2 (a b : Int) : Int := wn (wn a + wn b)
theorem wn_lo (t : Int) : 0 ≤ wn t := by rw [wn_eq]; omega
theorem wn_hi (t : Int) : wn t ≤ 1099511627776 := by rw [wn_eq]; omega
theorem later_eq (a b : Int) : drift_Later.f a b = some (lt2 a b) := by
  have h0 := wn_lo a
  have h1 := wn_hi a
  have h2 := wn_lo b
  have h3 := wn_hi b
  unfold drift_Later.f
  rw [show drift_within.f a = some (wn a) from rfl, show drift_within.f b = some (wn b) from rfl]
  simp only [Option.bind_some]
  rw [w64 (by omega) (by omega)]
  rfl
theorem DriftLater : chatelainelaw04_DriftLater.Pure := by
  intro a b _ _
  have ha : chatelainelaw04_awake.f = some true := by decide +kernel
  have hc : lt2 b a = lt2 a b := by unfold lt2; rw [Int.add_comm]
  have l0 : 0 ≤ lt2 a b := wn_lo _
  have l1 : lt2 a b ≤ 1099511627776 := wn_hi _
  have hw : ∀ t, mx 0 (mn t 1099511627776) = wn t := fun _ => rfl
  have hsum : a ≥ 0 → a ≤ 549755813888 → b ≥ 0 → b ≤ 549755813888 → lt2 a b = wrap64 (a + b) := by
    intro p q r s
    rw [w64 (by omega) (by omega)]; unfold lt2; rw [wn_eq a, wn_eq b, wn_eq]; omega
  have htop : ¬ a < 1099511627776 → lt2 a b = 1099511627776 := by
    intro p; have := wn_lo b; unfold lt2; rw [wn_eq a, wn_eq]; omega
  have hzero : ¬ a > 0 → lt2 a b = wn b := by
    intro p; have := wn_lo b; have := wn_hi b; unfold lt2; rw [show wn a = 0 from by rw [wn_eq]; omega, wn_eq (0 + wn b)]; omega
  unfold chatelainelaw04_DriftLater.f
  rw [ha]; simp only [Option.bind_some, if_true, later_eq, hc, hw, ge_iff_le, l0, l1]
  by_cases b0 : 0 ≤ a <;> by_cases b1 : a ≤ 549755813888 <;> by_cases b2 : 0 ≤ b <;> by_cases b3 : b ≤ 549755813888 <;> by_cases b4 : a < 1099511627776 <;> by_cases b5 : a > 0 <;>
    simp_all <;> (intros; omega)

end Go.Proofs.Ytllagimocmdldaa.Pure
