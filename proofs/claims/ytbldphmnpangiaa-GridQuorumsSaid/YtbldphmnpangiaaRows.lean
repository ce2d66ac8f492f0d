/-
  No cell of these rows narrows 'for every input' (looked for: loops, veiled, ifaces, maps, wideKeys, modest, calm, conditions, laid).
  DERIVED. THE GIVEN ROWS OF THIS SEAT. 10 by the template 'for every input the law returns true; each argument reads behind the call as it read before'; 0 by the template 'total and deterministic' (their statements: YtbldphmnpangiaaTotals.lean).
  GIVEN WITH THE SEED: the statements are not yours to turn. If you find one false, say at which input.
  Laid BY PROGRAM, IN A SANDBOX (cutbox-rows.mjs): the forced cells as the released guide's own fill.sh prints them over the translation e0952ad88c4fdcd0… (all of the seat's roots in one cut). By AI agents, Wed Nov 11 2026. No macro, syntax, notation, axiom, sorry.
-/
import Derived.Test.YtbldphmnpangiaaChecked
import GoSem.Claim
import GoSem.ClaimJoined
import GoSem.ClaimMapViews
import Derived.JoinedTies
import Derived.KernelRfl
namespace Go.Proofs.Ytbldphmnpangiaa
/- THE CELL 'sum', in the pinned program and in every row, IS THE sha256 OF THE DUMP (.gsa) THAT YtbldphmnpangiaaProg.lean LOADS. Nothing in Lean hashes anything: it is a label: what it is worth is what the hold of that sum in a sandbox is worth. -/
noncomputable def Try.pinned : Pinned := { name := "ytbldphmnpangiaa", sum := "e0952ad88c4fdcd0a9dbc88b0e04d77e2234aa7fc6e4f70943ac22b7b8b90311", checked := Try.checked }
namespace Rows
def none {H : Type} : Left H := { results := [], args := [] }

/-- 'chatelainelaw02.SealSums': WHATEVER THE INPUT: true; the input reads as it did. -/
def sealSumsSpec : ChangeSpec := { name := "sealSums", fn := fun _ => fun
  | [d1, d2] => { results := [.lit (.bool true)], args := [d1, d2] }
  | _ => none }
def sealSumsRow : OpenClaim := { program := "ytbldphmnpangiaa", sum := "e0952ad88c4fdcd0a9dbc88b0e04d77e2234aa7fc6e4f70943ac22b7b8b90311", func := "chatelaine/chatelainelaw02.SealSums", spec := "sealSums", apart := false }
def SealSumsSaid : Prop := sealSumsRow.holds Try.pinned (OpenSpec.ofChange sealSumsSpec)

/-- ITS FALSE NEIGHBOUR: 'it returns false'. Refute it at one input. -/
def sealSumsWrong : ChangeSpec := { name := "sealSums", fn := fun _ => fun
  | [d1, d2] => { results := [.lit (.bool false)], args := [d1, d2] }
  | _ => none }
def SealSumsWrongFalsely : Prop := sealSumsRow.holds Try.pinned (OpenSpec.ofChange sealSumsWrong)

/-- 'chatelainelaw02.SealFrames': WHATEVER THE INPUT: true; the input reads as it did. -/
def sealFramesSpec : ChangeSpec := { name := "sealFrames", fn := fun _ => fun
  | [d1, d2, d3] => { results := [.lit (.bool true)], args := [d1, d2, d3] }
  | _ => none }
def sealFramesRow : OpenClaim := { program := "ytbldphmnpangiaa", sum := "e0952ad88c4fdcd0a9dbc88b0e04d77e2234aa7fc6e4f70943ac22b7b8b90311", func := "chatelaine/chatelainelaw02.SealFrames", spec := "sealFrames", apart := false }
def SealFramesSaid : Prop := sealFramesRow.holds Try.pinned (OpenSpec.ofChange sealFramesSpec)

/-- ITS FALSE NEIGHBOUR: 'it returns false'. Refute it at one input. -/
def sealFramesWrong : ChangeSpec := { name := "sealFrames", fn := fun _ => fun
  | [d1, d2, d3] => { results := [.lit (.bool false)], args := [d1, d2, d3] }
  | _ => none }
def SealFramesWrongFalsely : Prop := sealFramesRow.holds Try.pinned (OpenSpec.ofChange sealFramesWrong)

/-- 'chatelainelaw02.SealOpens': WHATEVER THE INPUT: true; the input reads as it did. -/
def sealOpensSpec : ChangeSpec := { name := "sealOpens", fn := fun _ => fun
  | [d] => { results := [.lit (.bool true)], args := [d] }
  | _ => none }
def sealOpensRow : OpenClaim := { program := "ytbldphmnpangiaa", sum := "e0952ad88c4fdcd0a9dbc88b0e04d77e2234aa7fc6e4f70943ac22b7b8b90311", func := "chatelaine/chatelainelaw02.SealOpens", spec := "sealOpens", apart := false }
def SealOpensSaid : Prop := sealOpensRow.holds Try.pinned (OpenSpec.ofChange sealOpensSpec)

/-- ITS FALSE NEIGHBOUR: 'it returns false'. Refute it at one input. -/
def sealOpensWrong : ChangeSpec := { name := "sealOpens", fn := fun _ => fun
  | [d] => { results := [.lit (.bool false)], args := [d] }
  | _ => none }
def SealOpensWrongFalsely : Prop := sealOpensRow.holds Try.pinned (OpenSpec.ofChange sealOpensWrong)

/-- 'chatelainelaw02.SealTorn': WHATEVER THE INPUT: true; the input reads as it did. -/
def sealTornSpec : ChangeSpec := { name := "sealTorn", fn := fun _ => fun
  | [d1, d2] => { results := [.lit (.bool true)], args := [d1, d2] }
  | _ => none }
def sealTornRow : OpenClaim := { program := "ytbldphmnpangiaa", sum := "e0952ad88c4fdcd0a9dbc88b0e04d77e2234aa7fc6e4f70943ac22b7b8b90311", func := "chatelaine/chatelainelaw02.SealTorn", spec := "sealTorn", apart := false }
def SealTornSaid : Prop := sealTornRow.holds Try.pinned (OpenSpec.ofChange sealTornSpec)

/-- ITS FALSE NEIGHBOUR: 'it returns false'. Refute it at one input. -/
def sealTornWrong : ChangeSpec := { name := "sealTorn", fn := fun _ => fun
  | [d1, d2] => { results := [.lit (.bool false)], args := [d1, d2] }
  | _ => none }
def SealTornWrongFalsely : Prop := sealTornRow.holds Try.pinned (OpenSpec.ofChange sealTornWrong)

/-- 'chatelainelaw02.SealScans': WHATEVER THE INPUT: true; the input reads as it did. -/
def sealScansSpec : ChangeSpec := { name := "sealScans", fn := fun _ => fun
  | [d] => { results := [.lit (.bool true)], args := [d] }
  | _ => none }
def sealScansRow : OpenClaim := { program := "ytbldphmnpangiaa", sum := "e0952ad88c4fdcd0a9dbc88b0e04d77e2234aa7fc6e4f70943ac22b7b8b90311", func := "chatelaine/chatelainelaw02.SealScans", spec := "sealScans", apart := false }
def SealScansSaid : Prop := sealScansRow.holds Try.pinned (OpenSpec.ofChange sealScansSpec)

/-- ITS FALSE NEIGHBOUR: 'it returns false'. Refute it at one input. -/
def sealScansWrong : ChangeSpec := { name := "sealScans", fn := fun _ => fun
  | [d] => { results := [.lit (.bool false)], args := [d] }
  | _ => none }
def SealScansWrongFalsely : Prop := sealScansRow.holds Try.pinned (OpenSpec.ofChange sealScansWrong)

/-- 'chatelainelaw07.GridChecks': WHATEVER THE INPUT: true; the input reads as it did. -/
def gridChecksSpec : ChangeSpec := { name := "gridChecks", fn := fun _ => fun
  | [d] => { results := [.lit (.bool true)], args := [d] }
  | _ => none }
def gridChecksRow : OpenClaim := { program := "ytbldphmnpangiaa", sum := "e0952ad88c4fdcd0a9dbc88b0e04d77e2234aa7fc6e4f70943ac22b7b8b90311", func := "chatelaine/chatelainelaw07.GridChecks", spec := "gridChecks", apart := false }
def GridChecksSaid : Prop := gridChecksRow.holds Try.pinned (OpenSpec.ofChange gridChecksSpec)

/-- ITS FALSE NEIGHBOUR: 'it returns false'. Refute it at one input. -/
def gridChecksWrong : ChangeSpec := { name := "gridChecks", fn := fun _ => fun
  | [d] => { results := [.lit (.bool false)], args := [d] }
  | _ => none }
def GridChecksWrongFalsely : Prop := gridChecksRow.holds Try.pinned (OpenSpec.ofChange gridChecksWrong)

/-- 'chatelainelaw07.GridQuorums': WHATEVER THE INPUT: true; the input reads as it did. -/
def gridQuorumsSpec : ChangeSpec := { name := "gridQuorums", fn := fun _ => fun
  | [d1, d2, d3] => { results := [.lit (.bool true)], args := [d1, d2, d3] }
  | _ => none }
def gridQuorumsRow : OpenClaim := { program := "ytbldphmnpangiaa", sum := "e0952ad88c4fdcd0a9dbc88b0e04d77e2234aa7fc6e4f70943ac22b7b8b90311", func := "chatelaine/chatelainelaw07.GridQuorums", spec := "gridQuorums", apart := false }
def GridQuorumsSaid : Prop := gridQuorumsRow.holds Try.pinned (OpenSpec.ofChange gridQuorumsSpec)

/-- ITS FALSE NEIGHBOUR: 'it returns false'. Refute it at one input. -/
def gridQuorumsWrong : ChangeSpec := { name := "gridQuorums", fn := fun _ => fun
  | [d1, d2, d3] => { results := [.lit (.bool false)], args := [d1, d2, d3] }
  | _ => none }
def GridQuorumsWrongFalsely : Prop := gridQuorumsRow.holds Try.pinned (OpenSpec.ofChange gridQuorumsWrong)

/-- 'chatelainelaw07.GridMeets': WHATEVER THE INPUT: true; the input reads as it did. -/
def gridMeetsSpec : ChangeSpec := { name := "gridMeets", fn := fun _ => fun
  | [d1, d2, d3] => { results := [.lit (.bool true)], args := [d1, d2, d3] }
  | _ => none }
def gridMeetsRow : OpenClaim := { program := "ytbldphmnpangiaa", sum := "e0952ad88c4fdcd0a9dbc88b0e04d77e2234aa7fc6e4f70943ac22b7b8b90311", func := "chatelaine/chatelainelaw07.GridMeets", spec := "gridMeets", apart := false }
def GridMeetsSaid : Prop := gridMeetsRow.holds Try.pinned (OpenSpec.ofChange gridMeetsSpec)

/-- ITS FALSE NEIGHBOUR: 'it returns false'. Refute it at one input. -/
def gridMeetsWrong : ChangeSpec := { name := "gridMeets", fn := fun _ => fun
  | [d1, d2, d3] => { results := [.lit (.bool false)], args := [d1, d2, d3] }
  | _ => none }
def GridMeetsWrongFalsely : Prop := gridMeetsRow.holds Try.pinned (OpenSpec.ofChange gridMeetsWrong)

/-- 'chatelainelaw07.GridShapes': WHATEVER THE INPUT: true; the input reads as it did. -/
def gridShapesSpec : ChangeSpec := { name := "gridShapes", fn := fun _ => fun
  | [d1, d2] => { results := [.lit (.bool true)], args := [d1, d2] }
  | _ => none }
def gridShapesRow : OpenClaim := { program := "ytbldphmnpangiaa", sum := "e0952ad88c4fdcd0a9dbc88b0e04d77e2234aa7fc6e4f70943ac22b7b8b90311", func := "chatelaine/chatelainelaw07.GridShapes", spec := "gridShapes", apart := false }
def GridShapesSaid : Prop := gridShapesRow.holds Try.pinned (OpenSpec.ofChange gridShapesSpec)

/-- ITS FALSE NEIGHBOUR: 'it returns false'. Refute it at one input. -/
def gridShapesWrong : ChangeSpec := { name := "gridShapes", fn := fun _ => fun
  | [d1, d2] => { results := [.lit (.bool false)], args := [d1, d2] }
  | _ => none }
def GridShapesWrongFalsely : Prop := gridShapesRow.holds Try.pinned (OpenSpec.ofChange gridShapesWrong)

/-- 'chatelainetop.ChatelaineMeet': WHATEVER THE INPUT: true; the input reads as it did. -/
def chatelaineMeetSpec : ChangeSpec := { name := "chatelaineMeet", fn := fun _ => fun
  | [d] => { results := [.lit (.bool true)], args := [d] }
  | _ => none }
def chatelaineMeetRow : OpenClaim := { program := "ytbldphmnpangiaa", sum := "e0952ad88c4fdcd0a9dbc88b0e04d77e2234aa7fc6e4f70943ac22b7b8b90311", func := "chatelaine/chatelainetop.ChatelaineMeet", spec := "chatelaineMeet", apart := false }
def ChatelaineMeetSaid : Prop := chatelaineMeetRow.holds Try.pinned (OpenSpec.ofChange chatelaineMeetSpec)

/-- ITS FALSE NEIGHBOUR: 'it returns false'. Refute it at one input. -/
def chatelaineMeetWrong : ChangeSpec := { name := "chatelaineMeet", fn := fun _ => fun
  | [d] => { results := [.lit (.bool false)], args := [d] }
  | _ => none }
def ChatelaineMeetWrongFalsely : Prop := chatelaineMeetRow.holds Try.pinned (OpenSpec.ofChange chatelaineMeetWrong)

/- THE SECOND FORM. 'bulk': how many values and letters a reading holds, each counted each time it is reached (what is shared counts as often as it is met; a slice's spare places count too). A statement '..UptoSaid' is the law's where the arguments, and the package variables that the reading takes, are together of bulk at most 1048576: NARROWER than '..Said'. Prove '..Said' where nothing that the law and all that it calls make is longer than what came in: it says more and counts as full. Else prove '..UptoSaid'. A law counts once. -/
mutual
def uptoBulk {H : Type} : DataW H → Nat
  | .lit (.string bytes) => bytes.length + 1
  | .lit _ => 1
  | .nil => 1
  | .ptr d => uptoBulk d + 1
  | .slice elems spare => uptoBulkAll elems + uptoBulkAll spare + 1
  | .agg parts => uptoBulkAll parts + 1
  | .iface _ d => uptoBulk d + 1
  | .map entries => uptoBulkEntries entries + 1
  | .held _ => 1
def uptoBulkAll {H : Type} : List (DataW H) → Nat
  | [] => 0
  | d :: r => uptoBulk d + uptoBulkAll r
def uptoBulkEntries {H : Type} : List (Lit × DataW H) → Nat
  | [] => 0
  | x :: r => uptoBulkEntry x + uptoBulkEntries r
def uptoBulkEntry {H : Type} : Lit × DataW H → Nat
  | (.string bytes, d) => bytes.length + uptoBulk d + 1
  | (_, d) => uptoBulk d + 1
 end
def uptoSmall : (H : Type) → List (DataW H) → Bool := fun _ ds => decide (uptoBulkAll ds ≤ 1048576)
def OpenSpec.upto (s : _root_.Go.ChangeSpec) : _root_.Go.OpenSpec := { _root_.Go.OpenSpec.ofChange s with cond := some uptoSmall }

/-- 'chatelainelaw02.SealSums', WHERE WHAT IT READS IS OF BULK AT MOST 1048576: true; the input reads as it did. -/
def sealSumsUptoRow : OpenClaim := { program := "ytbldphmnpangiaa", sum := "e0952ad88c4fdcd0a9dbc88b0e04d77e2234aa7fc6e4f70943ac22b7b8b90311", func := "chatelaine/chatelainelaw02.SealSums", spec := "sealSums", apart := false, narrowed := true }
def SealSumsUptoSaid : Prop := sealSumsUptoRow.holds Try.pinned (OpenSpec.upto sealSumsSpec)

/-- 'chatelainelaw02.SealFrames', WHERE WHAT IT READS IS OF BULK AT MOST 1048576: true; the input reads as it did. -/
def sealFramesUptoRow : OpenClaim := { program := "ytbldphmnpangiaa", sum := "e0952ad88c4fdcd0a9dbc88b0e04d77e2234aa7fc6e4f70943ac22b7b8b90311", func := "chatelaine/chatelainelaw02.SealFrames", spec := "sealFrames", apart := false, narrowed := true }
def SealFramesUptoSaid : Prop := sealFramesUptoRow.holds Try.pinned (OpenSpec.upto sealFramesSpec)

/-- 'chatelainelaw02.SealOpens', WHERE WHAT IT READS IS OF BULK AT MOST 1048576: true; the input reads as it did. -/
def sealOpensUptoRow : OpenClaim := { program := "ytbldphmnpangiaa", sum := "e0952ad88c4fdcd0a9dbc88b0e04d77e2234aa7fc6e4f70943ac22b7b8b90311", func := "chatelaine/chatelainelaw02.SealOpens", spec := "sealOpens", apart := false, narrowed := true }
def SealOpensUptoSaid : Prop := sealOpensUptoRow.holds Try.pinned (OpenSpec.upto sealOpensSpec)

/-- 'chatelainelaw02.SealTorn', WHERE WHAT IT READS IS OF BULK AT MOST 1048576: true; the input reads as it did. -/
def sealTornUptoRow : OpenClaim := { program := "ytbldphmnpangiaa", sum := "e0952ad88c4fdcd0a9dbc88b0e04d77e2234aa7fc6e4f70943ac22b7b8b90311", func := "chatelaine/chatelainelaw02.SealTorn", spec := "sealTorn", apart := false, narrowed := true }
def SealTornUptoSaid : Prop := sealTornUptoRow.holds Try.pinned (OpenSpec.upto sealTornSpec)

/-- 'chatelainelaw02.SealScans', WHERE WHAT IT READS IS OF BULK AT MOST 1048576: true; the input reads as it did. -/
def sealScansUptoRow : OpenClaim := { program := "ytbldphmnpangiaa", sum := "e0952ad88c4fdcd0a9dbc88b0e04d77e2234aa7fc6e4f70943ac22b7b8b90311", func := "chatelaine/chatelainelaw02.SealScans", spec := "sealScans", apart := false, narrowed := true }
def SealScansUptoSaid : Prop := sealScansUptoRow.holds Try.pinned (OpenSpec.upto sealScansSpec)

/-- 'chatelainelaw07.GridChecks', WHERE WHAT IT READS IS OF BULK AT MOST 1048576: true; the input reads as it did. -/
def gridChecksUptoRow : OpenClaim := { program := "ytbldphmnpangiaa", sum := "e0952ad88c4fdcd0a9dbc88b0e04d77e2234aa7fc6e4f70943ac22b7b8b90311", func := "chatelaine/chatelainelaw07.GridChecks", spec := "gridChecks", apart := false, narrowed := true }
def GridChecksUptoSaid : Prop := gridChecksUptoRow.holds Try.pinned (OpenSpec.upto gridChecksSpec)

/-- 'chatelainelaw07.GridQuorums', WHERE WHAT IT READS IS OF BULK AT MOST 1048576: true; the input reads as it did. -/
def gridQuorumsUptoRow : OpenClaim := { program := "ytbldphmnpangiaa", sum := "e0952ad88c4fdcd0a9dbc88b0e04d77e2234aa7fc6e4f70943ac22b7b8b90311", func := "chatelaine/chatelainelaw07.GridQuorums", spec := "gridQuorums", apart := false, narrowed := true }
def GridQuorumsUptoSaid : Prop := gridQuorumsUptoRow.holds Try.pinned (OpenSpec.upto gridQuorumsSpec)

/-- 'chatelainelaw07.GridMeets', WHERE WHAT IT READS IS OF BULK AT MOST 1048576: true; the input reads as it did. -/
def gridMeetsUptoRow : OpenClaim := { program := "ytbldphmnpangiaa", sum := "e0952ad88c4fdcd0a9dbc88b0e04d77e2234aa7fc6e4f70943ac22b7b8b90311", func := "chatelaine/chatelainelaw07.GridMeets", spec := "gridMeets", apart := false, narrowed := true }
def GridMeetsUptoSaid : Prop := gridMeetsUptoRow.holds Try.pinned (OpenSpec.upto gridMeetsSpec)

/-- 'chatelainelaw07.GridShapes', WHERE WHAT IT READS IS OF BULK AT MOST 1048576: true; the input reads as it did. -/
def gridShapesUptoRow : OpenClaim := { program := "ytbldphmnpangiaa", sum := "e0952ad88c4fdcd0a9dbc88b0e04d77e2234aa7fc6e4f70943ac22b7b8b90311", func := "chatelaine/chatelainelaw07.GridShapes", spec := "gridShapes", apart := false, narrowed := true }
def GridShapesUptoSaid : Prop := gridShapesUptoRow.holds Try.pinned (OpenSpec.upto gridShapesSpec)

/-- 'chatelainetop.ChatelaineMeet', WHERE WHAT IT READS IS OF BULK AT MOST 1048576: true; the input reads as it did. -/
def chatelaineMeetUptoRow : OpenClaim := { program := "ytbldphmnpangiaa", sum := "e0952ad88c4fdcd0a9dbc88b0e04d77e2234aa7fc6e4f70943ac22b7b8b90311", func := "chatelaine/chatelainetop.ChatelaineMeet", spec := "chatelaineMeet", apart := false, narrowed := true }
def ChatelaineMeetUptoSaid : Prop := chatelaineMeetUptoRow.holds Try.pinned (OpenSpec.upto chatelaineMeetSpec)

end Rows
end Go.Proofs.Ytbldphmnpangiaa
