/-
  No cell of these rows narrows 'for every input' (looked for: loops, veiled, ifaces, maps, wideKeys, modest, calm, conditions, laid).
  DERIVED. THE GIVEN ROWS OF THIS SEAT. 12 by the template 'for every input the law returns true; each argument reads behind the call as it read before'; 0 by the template 'total and deterministic' (their statements: YtllagimocmdldaaTotals.lean).
  GIVEN WITH THE SEED: the statements are not yours to turn. If you find one false, say at which input.
  Laid BY PROGRAM, IN A SANDBOX (cutbox-rows.mjs): the forced cells as the released guide's own fill.sh prints them over the translation 65854768d7139556… (all of the seat's roots in one cut). By AI agents, Wed Nov 11 2026. No macro, syntax, notation, axiom, sorry.
-/
import Derived.Test.YtllagimocmdldaaChecked
import GoSem.Claim
import GoSem.ClaimJoined
import GoSem.ClaimMapViews
import Derived.JoinedTies
import Derived.KernelRfl
namespace Go.Proofs.Ytllagimocmdldaa
/- THE CELL 'sum', in the pinned program and in every row, IS THE sha256 OF THE DUMP (.gsa) THAT YtllagimocmdldaaProg.lean LOADS. Nothing in Lean hashes anything: it is a label: what it is worth is what the hold of that sum in a sandbox is worth. -/
noncomputable def Try.pinned : Pinned := { name := "ytllagimocmdldaa", sum := "65854768d71395564c819b6cae9c13feaa6e2b9ef70055450851b8bab9b56381", checked := Try.checked }
namespace Rows
def none {H : Type} : Left H := { results := [], args := [] }

/-- 'chatelainelaw04.DriftTimes': WHATEVER THE INPUT: true; the input reads as it did. -/
def driftTimesSpec : ChangeSpec := { name := "driftTimes", fn := fun _ => fun
  | [d1, d2, d3] => { results := [.lit (.bool true)], args := [d1, d2, d3] }
  | _ => none }
def driftTimesRow : OpenClaim := { program := "ytllagimocmdldaa", sum := "65854768d71395564c819b6cae9c13feaa6e2b9ef70055450851b8bab9b56381", func := "chatelaine/chatelainelaw04.DriftTimes", spec := "driftTimes", apart := false }
def DriftTimesSaid : Prop := driftTimesRow.holds Try.pinned (OpenSpec.ofChange driftTimesSpec)

/-- ITS FALSE NEIGHBOUR: 'it returns false'. Refute it at one input. -/
def driftTimesWrong : ChangeSpec := { name := "driftTimes", fn := fun _ => fun
  | [d1, d2, d3] => { results := [.lit (.bool false)], args := [d1, d2, d3] }
  | _ => none }
def DriftTimesWrongFalsely : Prop := driftTimesRow.holds Try.pinned (OpenSpec.ofChange driftTimesWrong)

/-- 'chatelainelaw04.DriftLater': WHATEVER THE INPUT: true; the input reads as it did. -/
def driftLaterSpec : ChangeSpec := { name := "driftLater", fn := fun _ => fun
  | [d1, d2] => { results := [.lit (.bool true)], args := [d1, d2] }
  | _ => none }
def driftLaterRow : OpenClaim := { program := "ytllagimocmdldaa", sum := "65854768d71395564c819b6cae9c13feaa6e2b9ef70055450851b8bab9b56381", func := "chatelaine/chatelainelaw04.DriftLater", spec := "driftLater", apart := false }
def DriftLaterSaid : Prop := driftLaterRow.holds Try.pinned (OpenSpec.ofChange driftLaterSpec)

/-- ITS FALSE NEIGHBOUR: 'it returns false'. Refute it at one input. -/
def driftLaterWrong : ChangeSpec := { name := "driftLater", fn := fun _ => fun
  | [d1, d2] => { results := [.lit (.bool false)], args := [d1, d2] }
  | _ => none }
def DriftLaterWrongFalsely : Prop := driftLaterRow.holds Try.pinned (OpenSpec.ofChange driftLaterWrong)

/-- 'chatelainelaw04.DriftWaits': WHATEVER THE INPUT: true; the input reads as it did. -/
def driftWaitsSpec : ChangeSpec := { name := "driftWaits", fn := fun _ => fun
  | [d] => { results := [.lit (.bool true)], args := [d] }
  | _ => none }
def driftWaitsRow : OpenClaim := { program := "ytllagimocmdldaa", sum := "65854768d71395564c819b6cae9c13feaa6e2b9ef70055450851b8bab9b56381", func := "chatelaine/chatelainelaw04.DriftWaits", spec := "driftWaits", apart := false }
def DriftWaitsSaid : Prop := driftWaitsRow.holds Try.pinned (OpenSpec.ofChange driftWaitsSpec)

/-- ITS FALSE NEIGHBOUR: 'it returns false'. Refute it at one input. -/
def driftWaitsWrong : ChangeSpec := { name := "driftWaits", fn := fun _ => fun
  | [d] => { results := [.lit (.bool false)], args := [d] }
  | _ => none }
def DriftWaitsWrongFalsely : Prop := driftWaitsRow.holds Try.pinned (OpenSpec.ofChange driftWaitsWrong)

/-- 'chatelainelaw04.DriftSums': WHATEVER THE INPUT: true; the input reads as it did. -/
def driftSumsSpec : ChangeSpec := { name := "driftSums", fn := fun _ => fun
  | [d1, d2, d3] => { results := [.lit (.bool true)], args := [d1, d2, d3] }
  | _ => none }
def driftSumsRow : OpenClaim := { program := "ytllagimocmdldaa", sum := "65854768d71395564c819b6cae9c13feaa6e2b9ef70055450851b8bab9b56381", func := "chatelaine/chatelainelaw04.DriftSums", spec := "driftSums", apart := false }
def DriftSumsSaid : Prop := driftSumsRow.holds Try.pinned (OpenSpec.ofChange driftSumsSpec)

/-- ITS FALSE NEIGHBOUR: 'it returns false'. Refute it at one input. -/
def driftSumsWrong : ChangeSpec := { name := "driftSums", fn := fun _ => fun
  | [d1, d2, d3] => { results := [.lit (.bool false)], args := [d1, d2, d3] }
  | _ => none }
def DriftSumsWrongFalsely : Prop := driftSumsRow.holds Try.pinned (OpenSpec.ofChange driftSumsWrong)

/-- 'chatelainelaw04.DriftRises': WHATEVER THE INPUT: true; the input reads as it did. -/
def driftRisesSpec : ChangeSpec := { name := "driftRises", fn := fun _ => fun
  | [d] => { results := [.lit (.bool true)], args := [d] }
  | _ => none }
def driftRisesRow : OpenClaim := { program := "ytllagimocmdldaa", sum := "65854768d71395564c819b6cae9c13feaa6e2b9ef70055450851b8bab9b56381", func := "chatelaine/chatelainelaw04.DriftRises", spec := "driftRises", apart := false }
def DriftRisesSaid : Prop := driftRisesRow.holds Try.pinned (OpenSpec.ofChange driftRisesSpec)

/-- ITS FALSE NEIGHBOUR: 'it returns false'. Refute it at one input. -/
def driftRisesWrong : ChangeSpec := { name := "driftRises", fn := fun _ => fun
  | [d] => { results := [.lit (.bool false)], args := [d] }
  | _ => none }
def DriftRisesWrongFalsely : Prop := driftRisesRow.holds Try.pinned (OpenSpec.ofChange driftRisesWrong)

/-- 'chatelainelaw21.StealChecks': WHATEVER THE INPUT: true; the input reads as it did. -/
def stealChecksSpec : ChangeSpec := { name := "stealChecks", fn := fun _ => fun
  | [d1, d2] => { results := [.lit (.bool true)], args := [d1, d2] }
  | _ => none }
def stealChecksRow : OpenClaim := { program := "ytllagimocmdldaa", sum := "65854768d71395564c819b6cae9c13feaa6e2b9ef70055450851b8bab9b56381", func := "chatelaine/chatelainelaw21.StealChecks", spec := "stealChecks", apart := false }
def StealChecksSaid : Prop := stealChecksRow.holds Try.pinned (OpenSpec.ofChange stealChecksSpec)

/-- ITS FALSE NEIGHBOUR: 'it returns false'. Refute it at one input. -/
def stealChecksWrong : ChangeSpec := { name := "stealChecks", fn := fun _ => fun
  | [d1, d2] => { results := [.lit (.bool false)], args := [d1, d2] }
  | _ => none }
def StealChecksWrongFalsely : Prop := stealChecksRow.holds Try.pinned (OpenSpec.ofChange stealChecksWrong)

/-- 'chatelainelaw21.StealCounts': WHATEVER THE INPUT: true; the input reads as it did. -/
def stealCountsSpec : ChangeSpec := { name := "stealCounts", fn := fun _ => fun
  | [d1, d2, d3] => { results := [.lit (.bool true)], args := [d1, d2, d3] }
  | _ => none }
def stealCountsRow : OpenClaim := { program := "ytllagimocmdldaa", sum := "65854768d71395564c819b6cae9c13feaa6e2b9ef70055450851b8bab9b56381", func := "chatelaine/chatelainelaw21.StealCounts", spec := "stealCounts", apart := false }
def StealCountsSaid : Prop := stealCountsRow.holds Try.pinned (OpenSpec.ofChange stealCountsSpec)

/-- ITS FALSE NEIGHBOUR: 'it returns false'. Refute it at one input. -/
def stealCountsWrong : ChangeSpec := { name := "stealCounts", fn := fun _ => fun
  | [d1, d2, d3] => { results := [.lit (.bool false)], args := [d1, d2, d3] }
  | _ => none }
def StealCountsWrongFalsely : Prop := stealCountsRow.holds Try.pinned (OpenSpec.ofChange stealCountsWrong)

/-- 'chatelainelaw21.StealGives': WHATEVER THE INPUT: true; the input reads as it did. -/
def stealGivesSpec : ChangeSpec := { name := "stealGives", fn := fun _ => fun
  | [d1, d2, d3] => { results := [.lit (.bool true)], args := [d1, d2, d3] }
  | _ => none }
def stealGivesRow : OpenClaim := { program := "ytllagimocmdldaa", sum := "65854768d71395564c819b6cae9c13feaa6e2b9ef70055450851b8bab9b56381", func := "chatelaine/chatelainelaw21.StealGives", spec := "stealGives", apart := false }
def StealGivesSaid : Prop := stealGivesRow.holds Try.pinned (OpenSpec.ofChange stealGivesSpec)

/-- ITS FALSE NEIGHBOUR: 'it returns false'. Refute it at one input. -/
def stealGivesWrong : ChangeSpec := { name := "stealGives", fn := fun _ => fun
  | [d1, d2, d3] => { results := [.lit (.bool false)], args := [d1, d2, d3] }
  | _ => none }
def StealGivesWrongFalsely : Prop := stealGivesRow.holds Try.pinned (OpenSpec.ofChange stealGivesWrong)

/-- 'chatelainelaw08.BallotNext': WHATEVER THE INPUT: true; the input reads as it did. -/
def ballotNextSpec : ChangeSpec := { name := "ballotNext", fn := fun _ => fun
  | [d1, d2, d3] => { results := [.lit (.bool true)], args := [d1, d2, d3] }
  | _ => none }
def ballotNextRow : OpenClaim := { program := "ytllagimocmdldaa", sum := "65854768d71395564c819b6cae9c13feaa6e2b9ef70055450851b8bab9b56381", func := "chatelaine/chatelainelaw08.BallotNext", spec := "ballotNext", apart := false }
def BallotNextSaid : Prop := ballotNextRow.holds Try.pinned (OpenSpec.ofChange ballotNextSpec)

/-- ITS FALSE NEIGHBOUR: 'it returns false'. Refute it at one input. -/
def ballotNextWrong : ChangeSpec := { name := "ballotNext", fn := fun _ => fun
  | [d1, d2, d3] => { results := [.lit (.bool false)], args := [d1, d2, d3] }
  | _ => none }
def BallotNextWrongFalsely : Prop := ballotNextRow.holds Try.pinned (OpenSpec.ofChange ballotNextWrong)

/-- 'chatelainelaw08.BallotOrder': WHATEVER THE INPUT: true; the input reads as it did. -/
def ballotOrderSpec : ChangeSpec := { name := "ballotOrder", fn := fun _ => fun
  | [d1, d2, d3] => { results := [.lit (.bool true)], args := [d1, d2, d3] }
  | _ => none }
def ballotOrderRow : OpenClaim := { program := "ytllagimocmdldaa", sum := "65854768d71395564c819b6cae9c13feaa6e2b9ef70055450851b8bab9b56381", func := "chatelaine/chatelainelaw08.BallotOrder", spec := "ballotOrder", apart := false }
def BallotOrderSaid : Prop := ballotOrderRow.holds Try.pinned (OpenSpec.ofChange ballotOrderSpec)

/-- ITS FALSE NEIGHBOUR: 'it returns false'. Refute it at one input. -/
def ballotOrderWrong : ChangeSpec := { name := "ballotOrder", fn := fun _ => fun
  | [d1, d2, d3] => { results := [.lit (.bool false)], args := [d1, d2, d3] }
  | _ => none }
def BallotOrderWrongFalsely : Prop := ballotOrderRow.holds Try.pinned (OpenSpec.ofChange ballotOrderWrong)

/-- 'chatelainetop.ChatelaineTurns': WHATEVER THE INPUT: true; the input reads as it did. -/
def chatelaineTurnsSpec : ChangeSpec := { name := "chatelaineTurns", fn := fun _ => fun
  | [d1, d2] => { results := [.lit (.bool true)], args := [d1, d2] }
  | _ => none }
def chatelaineTurnsRow : OpenClaim := { program := "ytllagimocmdldaa", sum := "65854768d71395564c819b6cae9c13feaa6e2b9ef70055450851b8bab9b56381", func := "chatelaine/chatelainetop.ChatelaineTurns", spec := "chatelaineTurns", apart := false }
def ChatelaineTurnsSaid : Prop := chatelaineTurnsRow.holds Try.pinned (OpenSpec.ofChange chatelaineTurnsSpec)

/-- ITS FALSE NEIGHBOUR: 'it returns false'. Refute it at one input. -/
def chatelaineTurnsWrong : ChangeSpec := { name := "chatelaineTurns", fn := fun _ => fun
  | [d1, d2] => { results := [.lit (.bool false)], args := [d1, d2] }
  | _ => none }
def ChatelaineTurnsWrongFalsely : Prop := chatelaineTurnsRow.holds Try.pinned (OpenSpec.ofChange chatelaineTurnsWrong)

/-- 'chatelainetop.ChatelaineBusy': WHATEVER THE INPUT: true; the input reads as it did. -/
def chatelaineBusySpec : ChangeSpec := { name := "chatelaineBusy", fn := fun _ => fun
  | [d] => { results := [.lit (.bool true)], args := [d] }
  | _ => none }
def chatelaineBusyRow : OpenClaim := { program := "ytllagimocmdldaa", sum := "65854768d71395564c819b6cae9c13feaa6e2b9ef70055450851b8bab9b56381", func := "chatelaine/chatelainetop.ChatelaineBusy", spec := "chatelaineBusy", apart := false }
def ChatelaineBusySaid : Prop := chatelaineBusyRow.holds Try.pinned (OpenSpec.ofChange chatelaineBusySpec)

/-- ITS FALSE NEIGHBOUR: 'it returns false'. Refute it at one input. -/
def chatelaineBusyWrong : ChangeSpec := { name := "chatelaineBusy", fn := fun _ => fun
  | [d] => { results := [.lit (.bool false)], args := [d] }
  | _ => none }
def ChatelaineBusyWrongFalsely : Prop := chatelaineBusyRow.holds Try.pinned (OpenSpec.ofChange chatelaineBusyWrong)

/- THE SECOND FORM. 'bulk': how many values and letters a reading holds, each counted each time it is reached (what is shared counts as often as it is met; a slice's spare places count too). A statement '..UptoSaid' is the law's where the arguments, and the package variables that the reading takes, are together of bulk at most 1048576: NARROWER than '..Said'. Prove '..Said' where nothing that the law and all that it calls make is longer than what came in: it says more and counts as full. Else prove '..UptoSaid'. A law counts once. -/
mutual
def uptoBulk {H : Type} : DataW H → Nat
  | .lit (.string bytes) => bytes.length + 1
  | .lit _ => 1
  | .nil => 1
  | .ptr d => uptoBulk d + 1
  | .slice elems spare => uptoBulkAll elems + uptoBulkAll spare + 1
  | .agg parts => uptoBulkAll parts + 1
  | .iface _ d => uptoBulk d + 1
  | .map entries => uptoBulkEntries entries + 1
  | .held _ => 1
def uptoBulkAll {H : Type} : List (DataW H) → Nat
  | [] => 0
  | d :: r => uptoBulk d + uptoBulkAll r
def uptoBulkEntries {H : Type} : List (Lit × DataW H) → Nat
  | [] => 0
  | x :: r => uptoBulkEntry x + uptoBulkEntries r
def uptoBulkEntry {H : Type} : Lit × DataW H → Nat
  | (.string bytes, d) => bytes.length + uptoBulk d + 1
  | (_, d) => uptoBulk d + 1
 end
def uptoSmall : (H : Type) → List (DataW H) → Bool := fun _ ds => decide (uptoBulkAll ds ≤ 1048576)
def OpenSpec.upto (s : _root_.Go.ChangeSpec) : _root_.Go.OpenSpec := { _root_.Go.OpenSpec.ofChange s with cond := some uptoSmall }

/-- 'chatelainelaw04.DriftTimes', WHERE WHAT IT READS IS OF BULK AT MOST 1048576: true; the input reads as it did. -/
def driftTimesUptoRow : OpenClaim := { program := "ytllagimocmdldaa", sum := "65854768d71395564c819b6cae9c13feaa6e2b9ef70055450851b8bab9b56381", func := "chatelaine/chatelainelaw04.DriftTimes", spec := "driftTimes", apart := false, narrowed := true }
def DriftTimesUptoSaid : Prop := driftTimesUptoRow.holds Try.pinned (OpenSpec.upto driftTimesSpec)

/-- 'chatelainelaw04.DriftLater', WHERE WHAT IT READS IS OF BULK AT MOST 1048576: true; the input reads as it did. -/
def driftLaterUptoRow : OpenClaim := { program := "ytllagimocmdldaa", sum := "65854768d71395564c819b6cae9c13feaa6e2b9ef70055450851b8bab9b56381", func := "chatelaine/chatelainelaw04.DriftLater", spec := "driftLater", apart := false, narrowed := true }
def DriftLaterUptoSaid : Prop := driftLaterUptoRow.holds Try.pinned (OpenSpec.upto driftLaterSpec)

/-- 'chatelainelaw04.DriftWaits', WHERE WHAT IT READS IS OF BULK AT MOST 1048576: true; the input reads as it did. -/
def driftWaitsUptoRow : OpenClaim := { program := "ytllagimocmdldaa", sum := "65854768d71395564c819b6cae9c13feaa6e2b9ef70055450851b8bab9b56381", func := "chatelaine/chatelainelaw04.DriftWaits", spec := "driftWaits", apart := false, narrowed := true }
def DriftWaitsUptoSaid : Prop := driftWaitsUptoRow.holds Try.pinned (OpenSpec.upto driftWaitsSpec)

/-- 'chatelainelaw04.DriftSums', WHERE WHAT IT READS IS OF BULK AT MOST 1048576: true; the input reads as it did. -/
def driftSumsUptoRow : OpenClaim := { program := "ytllagimocmdldaa", sum := "65854768d71395564c819b6cae9c13feaa6e2b9ef70055450851b8bab9b56381", func := "chatelaine/chatelainelaw04.DriftSums", spec := "driftSums", apart := false, narrowed := true }
def DriftSumsUptoSaid : Prop := driftSumsUptoRow.holds Try.pinned (OpenSpec.upto driftSumsSpec)

/-- 'chatelainelaw04.DriftRises', WHERE WHAT IT READS IS OF BULK AT MOST 1048576: true; the input reads as it did. -/
def driftRisesUptoRow : OpenClaim := { program := "ytllagimocmdldaa", sum := "65854768d71395564c819b6cae9c13feaa6e2b9ef70055450851b8bab9b56381", func := "chatelaine/chatelainelaw04.DriftRises", spec := "driftRises", apart := false, narrowed := true }
def DriftRisesUptoSaid : Prop := driftRisesUptoRow.holds Try.pinned (OpenSpec.upto driftRisesSpec)

/-- 'chatelainelaw21.StealChecks', WHERE WHAT IT READS IS OF BULK AT MOST 1048576: true; the input reads as it did. -/
def stealChecksUptoRow : OpenClaim := { program := "ytllagimocmdldaa", sum := "65854768d71395564c819b6cae9c13feaa6e2b9ef70055450851b8bab9b56381", func := "chatelaine/chatelainelaw21.StealChecks", spec := "stealChecks", apart := false, narrowed := true }
def StealChecksUptoSaid : Prop := stealChecksUptoRow.holds Try.pinned (OpenSpec.upto stealChecksSpec)

/-- 'chatelainelaw21.StealCounts', WHERE WHAT IT READS IS OF BULK AT MOST 1048576: true; the input reads as it did. -/
def stealCountsUptoRow : OpenClaim := { program := "ytllagimocmdldaa", sum := "65854768d71395564c819b6cae9c13feaa6e2b9ef70055450851b8bab9b56381", func := "chatelaine/chatelainelaw21.StealCounts", spec := "stealCounts", apart := false, narrowed := true }
def StealCountsUptoSaid : Prop := stealCountsUptoRow.holds Try.pinned (OpenSpec.upto stealCountsSpec)

/-- 'chatelainelaw21.StealGives', WHERE WHAT IT READS IS OF BULK AT MOST 1048576: true; the input reads as it did. -/
def stealGivesUptoRow : OpenClaim := { program := "ytllagimocmdldaa", sum := "65854768d71395564c819b6cae9c13feaa6e2b9ef70055450851b8bab9b56381", func := "chatelaine/chatelainelaw21.StealGives", spec := "stealGives", apart := false, narrowed := true }
def StealGivesUptoSaid : Prop := stealGivesUptoRow.holds Try.pinned (OpenSpec.upto stealGivesSpec)

/-- 'chatelainelaw08.BallotNext', WHERE WHAT IT READS IS OF BULK AT MOST 1048576: true; the input reads as it did. -/
def ballotNextUptoRow : OpenClaim := { program := "ytllagimocmdldaa", sum := "65854768d71395564c819b6cae9c13feaa6e2b9ef70055450851b8bab9b56381", func := "chatelaine/chatelainelaw08.BallotNext", spec := "ballotNext", apart := false, narrowed := true }
def BallotNextUptoSaid : Prop := ballotNextUptoRow.holds Try.pinned (OpenSpec.upto ballotNextSpec)

/-- 'chatelainelaw08.BallotOrder', WHERE WHAT IT READS IS OF BULK AT MOST 1048576: true; the input reads as it did. -/
def ballotOrderUptoRow : OpenClaim := { program := "ytllagimocmdldaa", sum := "65854768d71395564c819b6cae9c13feaa6e2b9ef70055450851b8bab9b56381", func := "chatelaine/chatelainelaw08.BallotOrder", spec := "ballotOrder", apart := false, narrowed := true }
def BallotOrderUptoSaid : Prop := ballotOrderUptoRow.holds Try.pinned (OpenSpec.upto ballotOrderSpec)

/-- 'chatelainetop.ChatelaineTurns', WHERE WHAT IT READS IS OF BULK AT MOST 1048576: true; the input reads as it did. -/
def chatelaineTurnsUptoRow : OpenClaim := { program := "ytllagimocmdldaa", sum := "65854768d71395564c819b6cae9c13feaa6e2b9ef70055450851b8bab9b56381", func := "chatelaine/chatelainetop.ChatelaineTurns", spec := "chatelaineTurns", apart := false, narrowed := true }
def ChatelaineTurnsUptoSaid : Prop := chatelaineTurnsUptoRow.holds Try.pinned (OpenSpec.upto chatelaineTurnsSpec)

/-- 'chatelainetop.ChatelaineBusy', WHERE WHAT IT READS IS OF BULK AT MOST 1048576: true; the input reads as it did. -/
def chatelaineBusyUptoRow : OpenClaim := { program := "ytllagimocmdldaa", sum := "65854768d71395564c819b6cae9c13feaa6e2b9ef70055450851b8bab9b56381", func := "chatelaine/chatelainetop.ChatelaineBusy", spec := "chatelaineBusy", apart := false, narrowed := true }
def ChatelaineBusyUptoSaid : Prop := chatelaineBusyUptoRow.holds Try.pinned (OpenSpec.upto chatelaineBusySpec)

end Rows
end Go.Proofs.Ytllagimocmdldaa
