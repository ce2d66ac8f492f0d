/-
  No cell of these rows narrows 'for every input' (looked for: loops, veiled, ifaces, maps, wideKeys, modest, calm, conditions, laid).
  DERIVED. THE GIVEN ROWS OF THIS SEAT. 11 by the template 'for every input the law returns true; each argument reads behind the call as it read before'; 0 by the template 'total and deterministic' (their statements: YtdehmopdlbdmfaaTotals.lean).
  GIVEN WITH THE SEED: the statements are not yours to turn. If you find one false, say at which input.
  Laid BY PROGRAM, IN A SANDBOX (cutbox-rows.mjs): the forced cells as the released guide's own fill.sh prints them over the translation ebc7f61c53735747… (all of the seat's roots in one cut). By AI agents, Wed Nov 11 2026. No macro, syntax, notation, axiom, sorry.
-/
import Derived.Test.YtdehmopdlbdmfaaChecked
import GoSem.Claim
import GoSem.ClaimJoined
import GoSem.ClaimMapViews
import Derived.JoinedTies
import Derived.KernelRfl
namespace Go.Proofs.Ytdehmopdlbdmfaa
/- THE CELL 'sum', in the pinned program and in every row, IS THE sha256 OF THE DUMP (.gsa) THAT YtdehmopdlbdmfaaProg.lean LOADS. Nothing in Lean hashes anything: it is a label: what it is worth is what the hold of that sum in a sandbox is worth. -/
noncomputable def Try.pinned : Pinned := { name := "ytdehmopdlbdmfaa", sum := "ebc7f61c5373574795693c187ee2b97e284cda6b877c81d2a87e08477e36a73a", checked := Try.checked }
namespace Rows
def none {H : Type} : Left H := { results := [], args := [] }

/-- 'chatelainelaw14.NetFull': WHATEVER THE INPUT: true; the input reads as it did. -/
def netFullSpec : ChangeSpec := { name := "netFull", fn := fun _ => fun
  | [d] => { results := [.lit (.bool true)], args := [d] }
  | _ => none }
def netFullRow : OpenClaim := { program := "ytdehmopdlbdmfaa", sum := "ebc7f61c5373574795693c187ee2b97e284cda6b877c81d2a87e08477e36a73a", func := "chatelaine/chatelainelaw14.NetFull", spec := "netFull", apart := false }
def NetFullSaid : Prop := netFullRow.holds Try.pinned (OpenSpec.ofChange netFullSpec)

/-- ITS FALSE NEIGHBOUR: 'it returns false'. Refute it at one input. -/
def netFullWrong : ChangeSpec := { name := "netFull", fn := fun _ => fun
  | [d] => { results := [.lit (.bool false)], args := [d] }
  | _ => none }
def NetFullWrongFalsely : Prop := netFullRow.holds Try.pinned (OpenSpec.ofChange netFullWrong)

/-- 'chatelainelaw14.NetFifo': WHATEVER THE INPUT: true; the input reads as it did. -/
def netFifoSpec : ChangeSpec := { name := "netFifo", fn := fun _ => fun
  | [d1, d2] => { results := [.lit (.bool true)], args := [d1, d2] }
  | _ => none }
def netFifoRow : OpenClaim := { program := "ytdehmopdlbdmfaa", sum := "ebc7f61c5373574795693c187ee2b97e284cda6b877c81d2a87e08477e36a73a", func := "chatelaine/chatelainelaw14.NetFifo", spec := "netFifo", apart := false }
def NetFifoSaid : Prop := netFifoRow.holds Try.pinned (OpenSpec.ofChange netFifoSpec)

/-- ITS FALSE NEIGHBOUR: 'it returns false'. Refute it at one input. -/
def netFifoWrong : ChangeSpec := { name := "netFifo", fn := fun _ => fun
  | [d1, d2] => { results := [.lit (.bool false)], args := [d1, d2] }
  | _ => none }
def NetFifoWrongFalsely : Prop := netFifoRow.holds Try.pinned (OpenSpec.ofChange netFifoWrong)

/-- 'chatelainelaw14.NetCounts': WHATEVER THE INPUT: true; the input reads as it did. -/
def netCountsSpec : ChangeSpec := { name := "netCounts", fn := fun _ => fun
  | [d1, d2] => { results := [.lit (.bool true)], args := [d1, d2] }
  | _ => none }
def netCountsRow : OpenClaim := { program := "ytdehmopdlbdmfaa", sum := "ebc7f61c5373574795693c187ee2b97e284cda6b877c81d2a87e08477e36a73a", func := "chatelaine/chatelainelaw14.NetCounts", spec := "netCounts", apart := false }
def NetCountsSaid : Prop := netCountsRow.holds Try.pinned (OpenSpec.ofChange netCountsSpec)

/-- ITS FALSE NEIGHBOUR: 'it returns false'. Refute it at one input. -/
def netCountsWrong : ChangeSpec := { name := "netCounts", fn := fun _ => fun
  | [d1, d2] => { results := [.lit (.bool false)], args := [d1, d2] }
  | _ => none }
def NetCountsWrongFalsely : Prop := netCountsRow.holds Try.pinned (OpenSpec.ofChange netCountsWrong)

/-- 'chatelainelaw14.NetPlays': WHATEVER THE INPUT: true; the input reads as it did. -/
def netPlaysSpec : ChangeSpec := { name := "netPlays", fn := fun _ => fun
  | [d1, d2] => { results := [.lit (.bool true)], args := [d1, d2] }
  | _ => none }
def netPlaysRow : OpenClaim := { program := "ytdehmopdlbdmfaa", sum := "ebc7f61c5373574795693c187ee2b97e284cda6b877c81d2a87e08477e36a73a", func := "chatelaine/chatelainelaw14.NetPlays", spec := "netPlays", apart := false }
def NetPlaysSaid : Prop := netPlaysRow.holds Try.pinned (OpenSpec.ofChange netPlaysSpec)

/-- ITS FALSE NEIGHBOUR: 'it returns false'. Refute it at one input. -/
def netPlaysWrong : ChangeSpec := { name := "netPlays", fn := fun _ => fun
  | [d1, d2] => { results := [.lit (.bool false)], args := [d1, d2] }
  | _ => none }
def NetPlaysWrongFalsely : Prop := netPlaysRow.holds Try.pinned (OpenSpec.ofChange netPlaysWrong)

/-- 'chatelainelaw19.LearnOrder': WHATEVER THE INPUT: true; the input reads as it did. -/
def learnOrderSpec : ChangeSpec := { name := "learnOrder", fn := fun _ => fun
  | [d1, d2, d3] => { results := [.lit (.bool true)], args := [d1, d2, d3] }
  | _ => none }
def learnOrderRow : OpenClaim := { program := "ytdehmopdlbdmfaa", sum := "ebc7f61c5373574795693c187ee2b97e284cda6b877c81d2a87e08477e36a73a", func := "chatelaine/chatelainelaw19.LearnOrder", spec := "learnOrder", inPlace := ["slices.overlaps[chatelaine/msg.Entry]"], unfollowed := true, recurses := true, apart := false }
def LearnOrderSaid : Prop := learnOrderRow.holds Try.pinned (OpenSpec.ofChange learnOrderSpec)

/-- ITS FALSE NEIGHBOUR: 'it returns false'. Refute it at one input. -/
def learnOrderWrong : ChangeSpec := { name := "learnOrder", fn := fun _ => fun
  | [d1, d2, d3] => { results := [.lit (.bool false)], args := [d1, d2, d3] }
  | _ => none }
def LearnOrderWrongFalsely : Prop := learnOrderRow.holds Try.pinned (OpenSpec.ofChange learnOrderWrong)

/-- 'chatelainelaw19.LearnPlays': WHATEVER THE INPUT: true; the input reads as it did. -/
def learnPlaysSpec : ChangeSpec := { name := "learnPlays", fn := fun _ => fun
  | [d] => { results := [.lit (.bool true)], args := [d] }
  | _ => none }
def learnPlaysRow : OpenClaim := { program := "ytdehmopdlbdmfaa", sum := "ebc7f61c5373574795693c187ee2b97e284cda6b877c81d2a87e08477e36a73a", func := "chatelaine/chatelainelaw19.LearnPlays", spec := "learnPlays", inPlace := ["slices.overlaps[chatelaine/msg.Entry]"], unfollowed := true, recurses := true, apart := false }
def LearnPlaysSaid : Prop := learnPlaysRow.holds Try.pinned (OpenSpec.ofChange learnPlaysSpec)

/-- ITS FALSE NEIGHBOUR: 'it returns false'. Refute it at one input. -/
def learnPlaysWrong : ChangeSpec := { name := "learnPlays", fn := fun _ => fun
  | [d] => { results := [.lit (.bool false)], args := [d] }
  | _ => none }
def LearnPlaysWrongFalsely : Prop := learnPlaysRow.holds Try.pinned (OpenSpec.ofChange learnPlaysWrong)

/-- 'chatelainetop.ChatelaineLearns': WHATEVER THE INPUT: true; the input reads as it did. -/
def chatelaineLearnsSpec : ChangeSpec := { name := "chatelaineLearns", fn := fun _ => fun
  | [d1, d2, d3] => { results := [.lit (.bool true)], args := [d1, d2, d3] }
  | _ => none }
def chatelaineLearnsRow : OpenClaim := { program := "ytdehmopdlbdmfaa", sum := "ebc7f61c5373574795693c187ee2b97e284cda6b877c81d2a87e08477e36a73a", func := "chatelaine/chatelainetop.ChatelaineLearns", spec := "chatelaineLearns", inPlace := ["slices.overlaps[chatelaine/msg.Entry]"], unfollowed := true, recurses := true, apart := false }
def ChatelaineLearnsSaid : Prop := chatelaineLearnsRow.holds Try.pinned (OpenSpec.ofChange chatelaineLearnsSpec)

/-- ITS FALSE NEIGHBOUR: 'it returns false'. Refute it at one input. -/
def chatelaineLearnsWrong : ChangeSpec := { name := "chatelaineLearns", fn := fun _ => fun
  | [d1, d2, d3] => { results := [.lit (.bool false)], args := [d1, d2, d3] }
  | _ => none }
def ChatelaineLearnsWrongFalsely : Prop := chatelaineLearnsRow.holds Try.pinned (OpenSpec.ofChange chatelaineLearnsWrong)

/-- 'chatelainelaw15.ClockAlarms': WHATEVER THE INPUT: true; the input reads as it did. -/
def clockAlarmsSpec : ChangeSpec := { name := "clockAlarms", fn := fun _ => fun
  | [d1, d2] => { results := [.lit (.bool true)], args := [d1, d2] }
  | _ => none }
def clockAlarmsRow : OpenClaim := { program := "ytdehmopdlbdmfaa", sum := "ebc7f61c5373574795693c187ee2b97e284cda6b877c81d2a87e08477e36a73a", func := "chatelaine/chatelainelaw15.ClockAlarms", spec := "clockAlarms", inPlace := ["slices.overlaps[chatelaine/clock.Alarm]"], unfollowed := true, recurses := true, apart := false }
def ClockAlarmsSaid : Prop := clockAlarmsRow.holds Try.pinned (OpenSpec.ofChange clockAlarmsSpec)

/-- ITS FALSE NEIGHBOUR: 'it returns false'. Refute it at one input. -/
def clockAlarmsWrong : ChangeSpec := { name := "clockAlarms", fn := fun _ => fun
  | [d1, d2] => { results := [.lit (.bool false)], args := [d1, d2] }
  | _ => none }
def ClockAlarmsWrongFalsely : Prop := clockAlarmsRow.holds Try.pinned (OpenSpec.ofChange clockAlarmsWrong)

/-- 'chatelainelaw15.ClockGoes': WHATEVER THE INPUT: true; the input reads as it did. -/
def clockGoesSpec : ChangeSpec := { name := "clockGoes", fn := fun _ => fun
  | [d] => { results := [.lit (.bool true)], args := [d] }
  | _ => none }
def clockGoesRow : OpenClaim := { program := "ytdehmopdlbdmfaa", sum := "ebc7f61c5373574795693c187ee2b97e284cda6b877c81d2a87e08477e36a73a", func := "chatelaine/chatelainelaw15.ClockGoes", spec := "clockGoes", inPlace := ["slices.overlaps[chatelaine/clock.Alarm]"], unfollowed := true, recurses := true, apart := false }
def ClockGoesSaid : Prop := clockGoesRow.holds Try.pinned (OpenSpec.ofChange clockGoesSpec)

/-- ITS FALSE NEIGHBOUR: 'it returns false'. Refute it at one input. -/
def clockGoesWrong : ChangeSpec := { name := "clockGoes", fn := fun _ => fun
  | [d] => { results := [.lit (.bool false)], args := [d] }
  | _ => none }
def ClockGoesWrongFalsely : Prop := clockGoesRow.holds Try.pinned (OpenSpec.ofChange clockGoesWrong)

/-- 'chatelainelaw15.ClockWaits': WHATEVER THE INPUT: true; the input reads as it did. -/
def clockWaitsSpec : ChangeSpec := { name := "clockWaits", fn := fun _ => fun
  | [d1, d2, d3] => { results := [.lit (.bool true)], args := [d1, d2, d3] }
  | _ => none }
def clockWaitsRow : OpenClaim := { program := "ytdehmopdlbdmfaa", sum := "ebc7f61c5373574795693c187ee2b97e284cda6b877c81d2a87e08477e36a73a", func := "chatelaine/chatelainelaw15.ClockWaits", spec := "clockWaits", inPlace := ["slices.overlaps[chatelaine/clock.Alarm]"], unfollowed := true, recurses := true, apart := false }
def ClockWaitsSaid : Prop := clockWaitsRow.holds Try.pinned (OpenSpec.ofChange clockWaitsSpec)

/-- ITS FALSE NEIGHBOUR: 'it returns false'. Refute it at one input. -/
def clockWaitsWrong : ChangeSpec := { name := "clockWaits", fn := fun _ => fun
  | [d1, d2, d3] => { results := [.lit (.bool false)], args := [d1, d2, d3] }
  | _ => none }
def ClockWaitsWrongFalsely : Prop := clockWaitsRow.holds Try.pinned (OpenSpec.ofChange clockWaitsWrong)

/-- 'chatelainelaw20.LeaseLong': WHATEVER THE INPUT: true; the input reads as it did. -/
def leaseLongSpec : ChangeSpec := { name := "leaseLong", fn := fun _ => fun
  | [d1, d2, d3] => { results := [.lit (.bool true)], args := [d1, d2, d3] }
  | _ => none }
def leaseLongRow : OpenClaim := { program := "ytdehmopdlbdmfaa", sum := "ebc7f61c5373574795693c187ee2b97e284cda6b877c81d2a87e08477e36a73a", func := "chatelaine/chatelainelaw20.LeaseLong", spec := "leaseLong", apart := false }
def LeaseLongSaid : Prop := leaseLongRow.holds Try.pinned (OpenSpec.ofChange leaseLongSpec)

/-- ITS FALSE NEIGHBOUR: 'it returns false'. Refute it at one input. -/
def leaseLongWrong : ChangeSpec := { name := "leaseLong", fn := fun _ => fun
  | [d1, d2, d3] => { results := [.lit (.bool false)], args := [d1, d2, d3] }
  | _ => none }
def LeaseLongWrongFalsely : Prop := leaseLongRow.holds Try.pinned (OpenSpec.ofChange leaseLongWrong)

/- THE SECOND FORM. 'bulk': how many values and letters a reading holds, each counted each time it is reached (what is shared counts as often as it is met; a slice's spare places count too). A statement '..UptoSaid' is the law's where the arguments, and the package variables that the reading takes, are together of bulk at most 1048576: NARROWER than '..Said'. Prove '..Said' where nothing that the law and all that it calls make is longer than what came in: it says more and counts as full. Else prove '..UptoSaid'. A law counts once. -/
mutual
def uptoBulk {H : Type} : DataW H → Nat
  | .lit (.string bytes) => bytes.length + 1
  | .lit _ => 1
  | .nil => 1
  | .ptr d => uptoBulk d + 1
  | .slice elems spare => uptoBulkAll elems + uptoBulkAll spare + 1
  | .agg parts => uptoBulkAll parts + 1
  | .iface _ d => uptoBulk d + 1
  | .map entries => uptoBulkEntries entries + 1
  | .held _ => 1
def uptoBulkAll {H : Type} : List (DataW H) → Nat
  | [] => 0
  | d :: r => uptoBulk d + uptoBulkAll r
def uptoBulkEntries {H : Type} : List (Lit × DataW H) → Nat
  | [] => 0
  | x :: r => uptoBulkEntry x + uptoBulkEntries r
def uptoBulkEntry {H : Type} : Lit × DataW H → Nat
  | (.string bytes, d) => bytes.length + uptoBulk d + 1
  | (_, d) => uptoBulk d + 1
 end
def uptoSmall : (H : Type) → List (DataW H) → Bool := fun _ ds => decide (uptoBulkAll ds ≤ 1048576)
def OpenSpec.upto (s : _root_.Go.ChangeSpec) : _root_.Go.OpenSpec := { _root_.Go.OpenSpec.ofChange s with cond := some uptoSmall }

/-- 'chatelainelaw14.NetFull', WHERE WHAT IT READS IS OF BULK AT MOST 1048576: true; the input reads as it did. -/
def netFullUptoRow : OpenClaim := { program := "ytdehmopdlbdmfaa", sum := "ebc7f61c5373574795693c187ee2b97e284cda6b877c81d2a87e08477e36a73a", func := "chatelaine/chatelainelaw14.NetFull", spec := "netFull", apart := false, narrowed := true }
def NetFullUptoSaid : Prop := netFullUptoRow.holds Try.pinned (OpenSpec.upto netFullSpec)

/-- 'chatelainelaw14.NetFifo', WHERE WHAT IT READS IS OF BULK AT MOST 1048576: true; the input reads as it did. -/
def netFifoUptoRow : OpenClaim := { program := "ytdehmopdlbdmfaa", sum := "ebc7f61c5373574795693c187ee2b97e284cda6b877c81d2a87e08477e36a73a", func := "chatelaine/chatelainelaw14.NetFifo", spec := "netFifo", apart := false, narrowed := true }
def NetFifoUptoSaid : Prop := netFifoUptoRow.holds Try.pinned (OpenSpec.upto netFifoSpec)

/-- 'chatelainelaw14.NetCounts', WHERE WHAT IT READS IS OF BULK AT MOST 1048576: true; the input reads as it did. -/
def netCountsUptoRow : OpenClaim := { program := "ytdehmopdlbdmfaa", sum := "ebc7f61c5373574795693c187ee2b97e284cda6b877c81d2a87e08477e36a73a", func := "chatelaine/chatelainelaw14.NetCounts", spec := "netCounts", apart := false, narrowed := true }
def NetCountsUptoSaid : Prop := netCountsUptoRow.holds Try.pinned (OpenSpec.upto netCountsSpec)

/-- 'chatelainelaw14.NetPlays', WHERE WHAT IT READS IS OF BULK AT MOST 1048576: true; the input reads as it did. -/
def netPlaysUptoRow : OpenClaim := { program := "ytdehmopdlbdmfaa", sum := "ebc7f61c5373574795693c187ee2b97e284cda6b877c81d2a87e08477e36a73a", func := "chatelaine/chatelainelaw14.NetPlays", spec := "netPlays", apart := false, narrowed := true }
def NetPlaysUptoSaid : Prop := netPlaysUptoRow.holds Try.pinned (OpenSpec.upto netPlaysSpec)

/-- 'chatelainelaw19.LearnOrder', WHERE WHAT IT READS IS OF BULK AT MOST 1048576: true; the input reads as it did. -/
def learnOrderUptoRow : OpenClaim := { program := "ytdehmopdlbdmfaa", sum := "ebc7f61c5373574795693c187ee2b97e284cda6b877c81d2a87e08477e36a73a", func := "chatelaine/chatelainelaw19.LearnOrder", spec := "learnOrder", inPlace := ["slices.overlaps[chatelaine/msg.Entry]"], unfollowed := true, recurses := true, apart := false, narrowed := true }
def LearnOrderUptoSaid : Prop := learnOrderUptoRow.holds Try.pinned (OpenSpec.upto learnOrderSpec)

/-- 'chatelainelaw19.LearnPlays', WHERE WHAT IT READS IS OF BULK AT MOST 1048576: true; the input reads as it did. -/
def learnPlaysUptoRow : OpenClaim := { program := "ytdehmopdlbdmfaa", sum := "ebc7f61c5373574795693c187ee2b97e284cda6b877c81d2a87e08477e36a73a", func := "chatelaine/chatelainelaw19.LearnPlays", spec := "learnPlays", inPlace := ["slices.overlaps[chatelaine/msg.Entry]"], unfollowed := true, recurses := true, apart := false, narrowed := true }
def LearnPlaysUptoSaid : Prop := learnPlaysUptoRow.holds Try.pinned (OpenSpec.upto learnPlaysSpec)

/-- 'chatelainetop.ChatelaineLearns', WHERE WHAT IT READS IS OF BULK AT MOST 1048576: true; the input reads as it did. -/
def chatelaineLearnsUptoRow : OpenClaim := { program := "ytdehmopdlbdmfaa", sum := "ebc7f61c5373574795693c187ee2b97e284cda6b877c81d2a87e08477e36a73a", func := "chatelaine/chatelainetop.ChatelaineLearns", spec := "chatelaineLearns", inPlace := ["slices.overlaps[chatelaine/msg.Entry]"], unfollowed := true, recurses := true, apart := false, narrowed := true }
def ChatelaineLearnsUptoSaid : Prop := chatelaineLearnsUptoRow.holds Try.pinned (OpenSpec.upto chatelaineLearnsSpec)

/-- 'chatelainelaw15.ClockAlarms', WHERE WHAT IT READS IS OF BULK AT MOST 1048576: true; the input reads as it did. -/
def clockAlarmsUptoRow : OpenClaim := { program := "ytdehmopdlbdmfaa", sum := "ebc7f61c5373574795693c187ee2b97e284cda6b877c81d2a87e08477e36a73a", func := "chatelaine/chatelainelaw15.ClockAlarms", spec := "clockAlarms", inPlace := ["slices.overlaps[chatelaine/clock.Alarm]"], unfollowed := true, recurses := true, apart := false, narrowed := true }
def ClockAlarmsUptoSaid : Prop := clockAlarmsUptoRow.holds Try.pinned (OpenSpec.upto clockAlarmsSpec)

/-- 'chatelainelaw15.ClockGoes', WHERE WHAT IT READS IS OF BULK AT MOST 1048576: true; the input reads as it did. -/
def clockGoesUptoRow : OpenClaim := { program := "ytdehmopdlbdmfaa", sum := "ebc7f61c5373574795693c187ee2b97e284cda6b877c81d2a87e08477e36a73a", func := "chatelaine/chatelainelaw15.ClockGoes", spec := "clockGoes", inPlace := ["slices.overlaps[chatelaine/clock.Alarm]"], unfollowed := true, recurses := true, apart := false, narrowed := true }
def ClockGoesUptoSaid : Prop := clockGoesUptoRow.holds Try.pinned (OpenSpec.upto clockGoesSpec)

/-- 'chatelainelaw15.ClockWaits', WHERE WHAT IT READS IS OF BULK AT MOST 1048576: true; the input reads as it did. -/
def clockWaitsUptoRow : OpenClaim := { program := "ytdehmopdlbdmfaa", sum := "ebc7f61c5373574795693c187ee2b97e284cda6b877c81d2a87e08477e36a73a", func := "chatelaine/chatelainelaw15.ClockWaits", spec := "clockWaits", inPlace := ["slices.overlaps[chatelaine/clock.Alarm]"], unfollowed := true, recurses := true, apart := false, narrowed := true }
def ClockWaitsUptoSaid : Prop := clockWaitsUptoRow.holds Try.pinned (OpenSpec.upto clockWaitsSpec)

/-- 'chatelainelaw20.LeaseLong', WHERE WHAT IT READS IS OF BULK AT MOST 1048576: true; the input reads as it did. -/
def leaseLongUptoRow : OpenClaim := { program := "ytdehmopdlbdmfaa", sum := "ebc7f61c5373574795693c187ee2b97e284cda6b877c81d2a87e08477e36a73a", func := "chatelaine/chatelainelaw20.LeaseLong", spec := "leaseLong", apart := false, narrowed := true }
def LeaseLongUptoSaid : Prop := leaseLongUptoRow.holds Try.pinned (OpenSpec.upto leaseLongSpec)

end Rows
end Go.Proofs.Ytdehmopdlbdmfaa
