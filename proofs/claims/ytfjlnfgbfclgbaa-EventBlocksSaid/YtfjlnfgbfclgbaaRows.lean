/-
  No cell of these rows narrows 'for every input' (looked for: loops, veiled, ifaces, maps, wideKeys, modest, calm, conditions, laid).
  DERIVED. THE GIVEN ROWS OF THIS SEAT. 7 by the template 'for every input the law returns true; each argument reads behind the call as it read before'; 0 by the template 'total and deterministic' (their statements: YtfjlnfgbfclgbaaTotals.lean).
  GIVEN WITH THE SEED: the statements are not yours to turn. If you find one false, say at which input.
  Laid BY PROGRAM, IN A SANDBOX (cutbox-rows.mjs): the forced cells as the released guide's own fill.sh prints them over the translation 42ca829d087be1d0… (all of the seat's roots in one cut). By AI agents, Wed Nov 11 2026. No macro, syntax, notation, axiom, sorry.
-/
import Derived.Test.YtfjlnfgbfclgbaaChecked
import GoSem.Claim
import GoSem.ClaimJoined
import GoSem.ClaimMapViews
import Derived.JoinedTies
import Derived.KernelRfl
namespace Go.Proofs.Ytfjlnfgbfclgbaa
/- THE CELL 'sum', in the pinned program and in every row, IS THE sha256 OF THE DUMP (.gsa) THAT YtfjlnfgbfclgbaaProg.lean LOADS. Nothing in Lean hashes anything: it is a label: what it is worth is what the hold of that sum in a sandbox is worth. -/
noncomputable def Try.pinned : Pinned := { name := "ytfjlnfgbfclgbaa", sum := "42ca829d087be1d085afb5024912c1a5443c034d584d32652c5e74a3522732e6", checked := Try.checked }
namespace Rows
def none {H : Type} : Left H := { results := [], args := [] }

/-- 'capsulelaw25.EventNotices': WHATEVER THE INPUT: true; the input reads as it did. -/
def eventNoticesSpec : ChangeSpec := { name := "eventNotices", fn := fun _ => fun
  | [d1, d2] => { results := [.lit (.bool true)], args := [d1, d2] }
  | _ => none }
def eventNoticesRow : OpenClaim := { program := "ytfjlnfgbfclgbaa", sum := "42ca829d087be1d085afb5024912c1a5443c034d584d32652c5e74a3522732e6", func := "capsule/capsulelaw25.EventNotices", spec := "eventNotices", unfollowed := true, recurses := true, apart := false }
def EventNoticesSaid : Prop := eventNoticesRow.holds Try.pinned (OpenSpec.ofChange eventNoticesSpec)

/-- ITS FALSE NEIGHBOUR: 'it returns false'. Refute it at one input. -/
def eventNoticesWrong : ChangeSpec := { name := "eventNotices", fn := fun _ => fun
  | [d1, d2] => { results := [.lit (.bool false)], args := [d1, d2] }
  | _ => none }
def EventNoticesWrongFalsely : Prop := eventNoticesRow.holds Try.pinned (OpenSpec.ofChange eventNoticesWrong)

/-- 'capsulelaw25.EventBlocks': WHATEVER THE INPUT: true; the input reads as it did. -/
def eventBlocksSpec : ChangeSpec := { name := "eventBlocks", fn := fun _ => fun
  | [d1, d2] => { results := [.lit (.bool true)], args := [d1, d2] }
  | _ => none }
def eventBlocksRow : OpenClaim := { program := "ytfjlnfgbfclgbaa", sum := "42ca829d087be1d085afb5024912c1a5443c034d584d32652c5e74a3522732e6", func := "capsule/capsulelaw25.EventBlocks", spec := "eventBlocks", unfollowed := true, recurses := true, apart := false }
def EventBlocksSaid : Prop := eventBlocksRow.holds Try.pinned (OpenSpec.ofChange eventBlocksSpec)

/-- ITS FALSE NEIGHBOUR: 'it returns false'. Refute it at one input. -/
def eventBlocksWrong : ChangeSpec := { name := "eventBlocks", fn := fun _ => fun
  | [d1, d2] => { results := [.lit (.bool false)], args := [d1, d2] }
  | _ => none }
def EventBlocksWrongFalsely : Prop := eventBlocksRow.holds Try.pinned (OpenSpec.ofChange eventBlocksWrong)

/-- 'capsulelaw25.EventRuns': WHATEVER THE INPUT: true; the input reads as it did. -/
def eventRunsSpec : ChangeSpec := { name := "eventRuns", fn := fun _ => fun
  | [d1, d2] => { results := [.lit (.bool true)], args := [d1, d2] }
  | _ => none }
def eventRunsRow : OpenClaim := { program := "ytfjlnfgbfclgbaa", sum := "42ca829d087be1d085afb5024912c1a5443c034d584d32652c5e74a3522732e6", func := "capsule/capsulelaw25.EventRuns", spec := "eventRuns", unfollowed := true, recurses := true, apart := false }
def EventRunsSaid : Prop := eventRunsRow.holds Try.pinned (OpenSpec.ofChange eventRunsSpec)

/-- ITS FALSE NEIGHBOUR: 'it returns false'. Refute it at one input. -/
def eventRunsWrong : ChangeSpec := { name := "eventRuns", fn := fun _ => fun
  | [d1, d2] => { results := [.lit (.bool false)], args := [d1, d2] }
  | _ => none }
def EventRunsWrongFalsely : Prop := eventRunsRow.holds Try.pinned (OpenSpec.ofChange eventRunsWrong)

/-- 'capsulelaw25.EventRests': WHATEVER THE INPUT: true; the input reads as it did. -/
def eventRestsSpec : ChangeSpec := { name := "eventRests", fn := fun _ => fun
  | [d1, d2] => { results := [.lit (.bool true)], args := [d1, d2] }
  | _ => none }
def eventRestsRow : OpenClaim := { program := "ytfjlnfgbfclgbaa", sum := "42ca829d087be1d085afb5024912c1a5443c034d584d32652c5e74a3522732e6", func := "capsule/capsulelaw25.EventRests", spec := "eventRests", unfollowed := true, recurses := true, apart := false }
def EventRestsSaid : Prop := eventRestsRow.holds Try.pinned (OpenSpec.ofChange eventRestsSpec)

/-- ITS FALSE NEIGHBOUR: 'it returns false'. Refute it at one input. -/
def eventRestsWrong : ChangeSpec := { name := "eventRests", fn := fun _ => fun
  | [d1, d2] => { results := [.lit (.bool false)], args := [d1, d2] }
  | _ => none }
def EventRestsWrongFalsely : Prop := eventRestsRow.holds Try.pinned (OpenSpec.ofChange eventRestsWrong)

/-- 'capsulelaw25.EventLists': WHATEVER THE INPUT: true; the input reads as it did. -/
def eventListsSpec : ChangeSpec := { name := "eventLists", fn := fun _ => fun
  | [d1, d2, d3] => { results := [.lit (.bool true)], args := [d1, d2, d3] }
  | _ => none }
def eventListsRow : OpenClaim := { program := "ytfjlnfgbfclgbaa", sum := "42ca829d087be1d085afb5024912c1a5443c034d584d32652c5e74a3522732e6", func := "capsule/capsulelaw25.EventLists", spec := "eventLists", unfollowed := true, recurses := true, apart := false }
def EventListsSaid : Prop := eventListsRow.holds Try.pinned (OpenSpec.ofChange eventListsSpec)

/-- ITS FALSE NEIGHBOUR: 'it returns false'. Refute it at one input. -/
def eventListsWrong : ChangeSpec := { name := "eventLists", fn := fun _ => fun
  | [d1, d2, d3] => { results := [.lit (.bool false)], args := [d1, d2, d3] }
  | _ => none }
def EventListsWrongFalsely : Prop := eventListsRow.holds Try.pinned (OpenSpec.ofChange eventListsWrong)

/-- 'capsulelaw25.EventCopies': WHATEVER THE INPUT: true; the input reads as it did. -/
def eventCopiesSpec : ChangeSpec := { name := "eventCopies", fn := fun _ => fun
  | [d1, d2, d3, d4] => { results := [.lit (.bool true)], args := [d1, d2, d3, d4] }
  | _ => none }
def eventCopiesRow : OpenClaim := { program := "ytfjlnfgbfclgbaa", sum := "42ca829d087be1d085afb5024912c1a5443c034d584d32652c5e74a3522732e6", func := "capsule/capsulelaw25.EventCopies", spec := "eventCopies", inPlace := ["maps.clone"], unfollowed := true, recurses := true, apart := false }
def EventCopiesSaid : Prop := eventCopiesRow.holds Try.pinned (OpenSpec.ofChange eventCopiesSpec)

/-- ITS FALSE NEIGHBOUR: 'it returns false'. Refute it at one input. -/
def eventCopiesWrong : ChangeSpec := { name := "eventCopies", fn := fun _ => fun
  | [d1, d2, d3, d4] => { results := [.lit (.bool false)], args := [d1, d2, d3, d4] }
  | _ => none }
def EventCopiesWrongFalsely : Prop := eventCopiesRow.holds Try.pinned (OpenSpec.ofChange eventCopiesWrong)

/-- 'capsulelaw25.EventNil': WHATEVER THE INPUT: true; the input reads as it did. -/
def eventNilSpec : ChangeSpec := { name := "eventNil", fn := fun _ => fun
  | [d] => { results := [.lit (.bool true)], args := [d] }
  | _ => none }
def eventNilRow : OpenClaim := { program := "ytfjlnfgbfclgbaa", sum := "42ca829d087be1d085afb5024912c1a5443c034d584d32652c5e74a3522732e6", func := "capsule/capsulelaw25.EventNil", spec := "eventNil", inPlace := ["maps.clone"], unfollowed := true, recurses := true, apart := false }
def EventNilSaid : Prop := eventNilRow.holds Try.pinned (OpenSpec.ofChange eventNilSpec)

/-- ITS FALSE NEIGHBOUR: 'it returns false'. Refute it at one input. -/
def eventNilWrong : ChangeSpec := { name := "eventNil", fn := fun _ => fun
  | [d] => { results := [.lit (.bool false)], args := [d] }
  | _ => none }
def EventNilWrongFalsely : Prop := eventNilRow.holds Try.pinned (OpenSpec.ofChange eventNilWrong)

/- THE SECOND FORM. 'bulk': how many values and letters a reading holds, each counted each time it is reached (what is shared counts as often as it is met; a slice's spare places count too). A statement '..UptoSaid' is the law's where the arguments, and the package variables that the reading takes, are together of bulk at most 1048576: NARROWER than '..Said'. Prove '..Said' where nothing that the law and all that it calls make is longer than what came in: it says more and counts as full. Else prove '..UptoSaid'. A law counts once. -/
mutual
def uptoBulk {H : Type} : DataW H → Nat
  | .lit (.string bytes) => bytes.length + 1
  | .lit _ => 1
  | .nil => 1
  | .ptr d => uptoBulk d + 1
  | .slice elems spare => uptoBulkAll elems + uptoBulkAll spare + 1
  | .agg parts => uptoBulkAll parts + 1
  | .iface _ d => uptoBulk d + 1
  | .map entries => uptoBulkEntries entries + 1
  | .held _ => 1
def uptoBulkAll {H : Type} : List (DataW H) → Nat
  | [] => 0
  | d :: r => uptoBulk d + uptoBulkAll r
def uptoBulkEntries {H : Type} : List (Lit × DataW H) → Nat
  | [] => 0
  | x :: r => uptoBulkEntry x + uptoBulkEntries r
def uptoBulkEntry {H : Type} : Lit × DataW H → Nat
  | (.string bytes, d) => bytes.length + uptoBulk d + 1
  | (_, d) => uptoBulk d + 1
 end
def uptoSmall : (H : Type) → List (DataW H) → Bool := fun _ ds => decide (uptoBulkAll ds ≤ 1048576)
def OpenSpec.upto (s : _root_.Go.ChangeSpec) : _root_.Go.OpenSpec := { _root_.Go.OpenSpec.ofChange s with cond := some uptoSmall }

/-- 'capsulelaw25.EventNotices', WHERE WHAT IT READS IS OF BULK AT MOST 1048576: true; the input reads as it did. -/
def eventNoticesUptoRow : OpenClaim := { program := "ytfjlnfgbfclgbaa", sum := "42ca829d087be1d085afb5024912c1a5443c034d584d32652c5e74a3522732e6", func := "capsule/capsulelaw25.EventNotices", spec := "eventNotices", unfollowed := true, recurses := true, apart := false, narrowed := true }
def EventNoticesUptoSaid : Prop := eventNoticesUptoRow.holds Try.pinned (OpenSpec.upto eventNoticesSpec)

/-- 'capsulelaw25.EventBlocks', WHERE WHAT IT READS IS OF BULK AT MOST 1048576: true; the input reads as it did. -/
def eventBlocksUptoRow : OpenClaim := { program := "ytfjlnfgbfclgbaa", sum := "42ca829d087be1d085afb5024912c1a5443c034d584d32652c5e74a3522732e6", func := "capsule/capsulelaw25.EventBlocks", spec := "eventBlocks", unfollowed := true, recurses := true, apart := false, narrowed := true }
def EventBlocksUptoSaid : Prop := eventBlocksUptoRow.holds Try.pinned (OpenSpec.upto eventBlocksSpec)

/-- 'capsulelaw25.EventRuns', WHERE WHAT IT READS IS OF BULK AT MOST 1048576: true; the input reads as it did. -/
def eventRunsUptoRow : OpenClaim := { program := "ytfjlnfgbfclgbaa", sum := "42ca829d087be1d085afb5024912c1a5443c034d584d32652c5e74a3522732e6", func := "capsule/capsulelaw25.EventRuns", spec := "eventRuns", unfollowed := true, recurses := true, apart := false, narrowed := true }
def EventRunsUptoSaid : Prop := eventRunsUptoRow.holds Try.pinned (OpenSpec.upto eventRunsSpec)

/-- 'capsulelaw25.EventRests', WHERE WHAT IT READS IS OF BULK AT MOST 1048576: true; the input reads as it did. -/
def eventRestsUptoRow : OpenClaim := { program := "ytfjlnfgbfclgbaa", sum := "42ca829d087be1d085afb5024912c1a5443c034d584d32652c5e74a3522732e6", func := "capsule/capsulelaw25.EventRests", spec := "eventRests", unfollowed := true, recurses := true, apart := false, narrowed := true }
def EventRestsUptoSaid : Prop := eventRestsUptoRow.holds Try.pinned (OpenSpec.upto eventRestsSpec)

/-- 'capsulelaw25.EventLists', WHERE WHAT IT READS IS OF BULK AT MOST 1048576: true; the input reads as it did. -/
def eventListsUptoRow : OpenClaim := { program := "ytfjlnfgbfclgbaa", sum := "42ca829d087be1d085afb5024912c1a5443c034d584d32652c5e74a3522732e6", func := "capsule/capsulelaw25.EventLists", spec := "eventLists", unfollowed := true, recurses := true, apart := false, narrowed := true }
def EventListsUptoSaid : Prop := eventListsUptoRow.holds Try.pinned (OpenSpec.upto eventListsSpec)

/-- 'capsulelaw25.EventCopies', WHERE WHAT IT READS IS OF BULK AT MOST 1048576: true; the input reads as it did. -/
def eventCopiesUptoRow : OpenClaim := { program := "ytfjlnfgbfclgbaa", sum := "42ca829d087be1d085afb5024912c1a5443c034d584d32652c5e74a3522732e6", func := "capsule/capsulelaw25.EventCopies", spec := "eventCopies", inPlace := ["maps.clone"], unfollowed := true, recurses := true, apart := false, narrowed := true }
def EventCopiesUptoSaid : Prop := eventCopiesUptoRow.holds Try.pinned (OpenSpec.upto eventCopiesSpec)

/-- 'capsulelaw25.EventNil', WHERE WHAT IT READS IS OF BULK AT MOST 1048576: true; the input reads as it did. -/
def eventNilUptoRow : OpenClaim := { program := "ytfjlnfgbfclgbaa", sum := "42ca829d087be1d085afb5024912c1a5443c034d584d32652c5e74a3522732e6", func := "capsule/capsulelaw25.EventNil", spec := "eventNil", inPlace := ["maps.clone"], unfollowed := true, recurses := true, apart := false, narrowed := true }
def EventNilUptoSaid : Prop := eventNilUptoRow.holds Try.pinned (OpenSpec.upto eventNilSpec)

end Rows
end Go.Proofs.Ytfjlnfgbfclgbaa
