/-
  No cell of these rows narrows 'for every input' (looked for: loops, veiled, ifaces, maps, wideKeys, modest, calm, conditions, laid).
  DERIVED. THE GIVEN ROWS OF THIS SEAT. 6 by the template 'for every input the law returns true; each argument reads behind the call as it read before'; 0 by the template 'total and deterministic' (their statements: YtfjimghpjopgoaaTotals.lean).
  GIVEN WITH THE SEED: the statements are not yours to turn. If you find one false, say at which input.
  Laid BY PROGRAM, IN A SANDBOX (cutbox-rows.mjs): the forced cells as the released guide's own fill.sh prints them over the translation b8e23f2a2a76a30d… (all of the seat's roots in one cut). By AI agents, Wed Nov 11 2026. No macro, syntax, notation, axiom, sorry.
-/
import Derived.Test.YtfjimghpjopgoaaChecked
import GoSem.Claim
import GoSem.ClaimJoined
import GoSem.ClaimMapViews
import Derived.JoinedTies
import Derived.KernelRfl
namespace Go.Proofs.Ytfjimghpjopgoaa
/- THE CELL 'sum', in the pinned program and in every row, IS THE sha256 OF THE DUMP (.gsa) THAT YtfjimghpjopgoaaProg.lean LOADS. Nothing in Lean hashes anything: it is a label: what it is worth is what the hold of that sum in a sandbox is worth. -/
noncomputable def Try.pinned : Pinned := { name := "ytfjimghpjopgoaa", sum := "b8e23f2a2a76a30d6af35e5d02ad889497a4f207a61ea0ac550bbd3335cd4f11", checked := Try.checked }
namespace Rows
def none {H : Type} : Left H := { results := [], args := [] }

/-- 'capsulelaw30.AtomicPieces': WHATEVER THE INPUT: true; the input reads as it did. -/
def atomicPiecesSpec : ChangeSpec := { name := "atomicPieces", fn := fun _ => fun
  | [d1, d2, d3, d4] => { results := [.lit (.bool true)], args := [d1, d2, d3, d4] }
  | _ => none }
def atomicPiecesRow : OpenClaim := { program := "ytfjimghpjopgoaa", sum := "b8e23f2a2a76a30d6af35e5d02ad889497a4f207a61ea0ac550bbd3335cd4f11", func := "capsule/capsulelaw30.AtomicPieces", spec := "atomicPieces", unfollowed := true, recurses := true, apart := false }
def AtomicPiecesSaid : Prop := atomicPiecesRow.holds Try.pinned (OpenSpec.ofChange atomicPiecesSpec)

/-- ITS FALSE NEIGHBOUR: 'it returns false'. Refute it at one input. -/
def atomicPiecesWrong : ChangeSpec := { name := "atomicPieces", fn := fun _ => fun
  | [d1, d2, d3, d4] => { results := [.lit (.bool false)], args := [d1, d2, d3, d4] }
  | _ => none }
def AtomicPiecesWrongFalsely : Prop := atomicPiecesRow.holds Try.pinned (OpenSpec.ofChange atomicPiecesWrong)

/-- 'capsulelaw30.AtomicBounds': WHATEVER THE INPUT: true; the input reads as it did. -/
def atomicBoundsSpec : ChangeSpec := { name := "atomicBounds", fn := fun _ => fun
  | [d] => { results := [.lit (.bool true)], args := [d] }
  | _ => none }
def atomicBoundsRow : OpenClaim := { program := "ytfjimghpjopgoaa", sum := "b8e23f2a2a76a30d6af35e5d02ad889497a4f207a61ea0ac550bbd3335cd4f11", func := "capsule/capsulelaw30.AtomicBounds", spec := "atomicBounds", unfollowed := true, recurses := true, apart := false }
def AtomicBoundsSaid : Prop := atomicBoundsRow.holds Try.pinned (OpenSpec.ofChange atomicBoundsSpec)

/-- ITS FALSE NEIGHBOUR: 'it returns false'. Refute it at one input. -/
def atomicBoundsWrong : ChangeSpec := { name := "atomicBounds", fn := fun _ => fun
  | [d] => { results := [.lit (.bool false)], args := [d] }
  | _ => none }
def AtomicBoundsWrongFalsely : Prop := atomicBoundsRow.holds Try.pinned (OpenSpec.ofChange atomicBoundsWrong)

/-- 'capsulelaw30.AtomicHolds': WHATEVER THE INPUT: true; the input reads as it did. -/
def atomicHoldsSpec : ChangeSpec := { name := "atomicHolds", fn := fun _ => fun
  | [d1, d2, d3, d4, d5, d6] => { results := [.lit (.bool true)], args := [d1, d2, d3, d4, d5, d6] }
  | _ => none }
def atomicHoldsRow : OpenClaim := { program := "ytfjimghpjopgoaa", sum := "b8e23f2a2a76a30d6af35e5d02ad889497a4f207a61ea0ac550bbd3335cd4f11", func := "capsule/capsulelaw30.AtomicHolds", spec := "atomicHolds", unfollowed := true, recurses := true, apart := false }
def AtomicHoldsSaid : Prop := atomicHoldsRow.holds Try.pinned (OpenSpec.ofChange atomicHoldsSpec)

/-- ITS FALSE NEIGHBOUR: 'it returns false'. Refute it at one input. -/
def atomicHoldsWrong : ChangeSpec := { name := "atomicHolds", fn := fun _ => fun
  | [d1, d2, d3, d4, d5, d6] => { results := [.lit (.bool false)], args := [d1, d2, d3, d4, d5, d6] }
  | _ => none }
def AtomicHoldsWrongFalsely : Prop := atomicHoldsRow.holds Try.pinned (OpenSpec.ofChange atomicHoldsWrong)

/-- 'capsulelaw30.AtomicCopies': WHATEVER THE INPUT: true; the input reads as it did. -/
def atomicCopiesSpec : ChangeSpec := { name := "atomicCopies", fn := fun _ => fun
  | [d1, d2] => { results := [.lit (.bool true)], args := [d1, d2] }
  | _ => none }
def atomicCopiesRow : OpenClaim := { program := "ytfjimghpjopgoaa", sum := "b8e23f2a2a76a30d6af35e5d02ad889497a4f207a61ea0ac550bbd3335cd4f11", func := "capsule/capsulelaw30.AtomicCopies", spec := "atomicCopies", unfollowed := true, recurses := true, apart := false }
def AtomicCopiesSaid : Prop := atomicCopiesRow.holds Try.pinned (OpenSpec.ofChange atomicCopiesSpec)

/-- ITS FALSE NEIGHBOUR: 'it returns false'. Refute it at one input. -/
def atomicCopiesWrong : ChangeSpec := { name := "atomicCopies", fn := fun _ => fun
  | [d1, d2] => { results := [.lit (.bool false)], args := [d1, d2] }
  | _ => none }
def AtomicCopiesWrongFalsely : Prop := atomicCopiesRow.holds Try.pinned (OpenSpec.ofChange atomicCopiesWrong)

/-- 'capsulelaw30.AtomicPlays': WHATEVER THE INPUT: true; the input reads as it did. -/
def atomicPlaysSpec : ChangeSpec := { name := "atomicPlays", fn := fun _ => fun
  | [d1, d2] => { results := [.lit (.bool true)], args := [d1, d2] }
  | _ => none }
def atomicPlaysRow : OpenClaim := { program := "ytfjimghpjopgoaa", sum := "b8e23f2a2a76a30d6af35e5d02ad889497a4f207a61ea0ac550bbd3335cd4f11", func := "capsule/capsulelaw30.AtomicPlays", spec := "atomicPlays", unfollowed := true, recurses := true, apart := false }
def AtomicPlaysSaid : Prop := atomicPlaysRow.holds Try.pinned (OpenSpec.ofChange atomicPlaysSpec)

/-- ITS FALSE NEIGHBOUR: 'it returns false'. Refute it at one input. -/
def atomicPlaysWrong : ChangeSpec := { name := "atomicPlays", fn := fun _ => fun
  | [d1, d2] => { results := [.lit (.bool false)], args := [d1, d2] }
  | _ => none }
def AtomicPlaysWrongFalsely : Prop := atomicPlaysRow.holds Try.pinned (OpenSpec.ofChange atomicPlaysWrong)

/-- 'capsulelaw30.AtomicNone': WHATEVER THE INPUT: true; the input reads as it did. -/
def atomicNoneSpec : ChangeSpec := { name := "atomicNone", fn := fun _ => fun
  | [d] => { results := [.lit (.bool true)], args := [d] }
  | _ => none }
def atomicNoneRow : OpenClaim := { program := "ytfjimghpjopgoaa", sum := "b8e23f2a2a76a30d6af35e5d02ad889497a4f207a61ea0ac550bbd3335cd4f11", func := "capsule/capsulelaw30.AtomicNone", spec := "atomicNone", unfollowed := true, recurses := true, apart := false }
def AtomicNoneSaid : Prop := atomicNoneRow.holds Try.pinned (OpenSpec.ofChange atomicNoneSpec)

/-- ITS FALSE NEIGHBOUR: 'it returns false'. Refute it at one input. -/
def atomicNoneWrong : ChangeSpec := { name := "atomicNone", fn := fun _ => fun
  | [d] => { results := [.lit (.bool false)], args := [d] }
  | _ => none }
def AtomicNoneWrongFalsely : Prop := atomicNoneRow.holds Try.pinned (OpenSpec.ofChange atomicNoneWrong)

/- THE SECOND FORM. 'bulk': how many values and letters a reading holds, each counted each time it is reached (what is shared counts as often as it is met; a slice's spare places count too). A statement '..UptoSaid' is the law's where the arguments, and the package variables that the reading takes, are together of bulk at most 1048576: NARROWER than '..Said'. Prove '..Said' where nothing that the law and all that it calls make is longer than what came in: it says more and counts as full. Else prove '..UptoSaid'. A law counts once. -/
mutual
def uptoBulk {H : Type} : DataW H → Nat
  | .lit (.string bytes) => bytes.length + 1
  | .lit _ => 1
  | .nil => 1
  | .ptr d => uptoBulk d + 1
  | .slice elems spare => uptoBulkAll elems + uptoBulkAll spare + 1
  | .agg parts => uptoBulkAll parts + 1
  | .iface _ d => uptoBulk d + 1
  | .map entries => uptoBulkEntries entries + 1
  | .held _ => 1
def uptoBulkAll {H : Type} : List (DataW H) → Nat
  | [] => 0
  | d :: r => uptoBulk d + uptoBulkAll r
def uptoBulkEntries {H : Type} : List (Lit × DataW H) → Nat
  | [] => 0
  | x :: r => uptoBulkEntry x + uptoBulkEntries r
def uptoBulkEntry {H : Type} : Lit × DataW H → Nat
  | (.string bytes, d) => bytes.length + uptoBulk d + 1
  | (_, d) => uptoBulk d + 1
 end
def uptoSmall : (H : Type) → List (DataW H) → Bool := fun _ ds => decide (uptoBulkAll ds ≤ 1048576)
def OpenSpec.upto (s : _root_.Go.ChangeSpec) : _root_.Go.OpenSpec := { _root_.Go.OpenSpec.ofChange s with cond := some uptoSmall }

/-- 'capsulelaw30.AtomicPieces', WHERE WHAT IT READS IS OF BULK AT MOST 1048576: true; the input reads as it did. -/
def atomicPiecesUptoRow : OpenClaim := { program := "ytfjimghpjopgoaa", sum := "b8e23f2a2a76a30d6af35e5d02ad889497a4f207a61ea0ac550bbd3335cd4f11", func := "capsule/capsulelaw30.AtomicPieces", spec := "atomicPieces", unfollowed := true, recurses := true, apart := false, narrowed := true }
def AtomicPiecesUptoSaid : Prop := atomicPiecesUptoRow.holds Try.pinned (OpenSpec.upto atomicPiecesSpec)

/-- 'capsulelaw30.AtomicBounds', WHERE WHAT IT READS IS OF BULK AT MOST 1048576: true; the input reads as it did. -/
def atomicBoundsUptoRow : OpenClaim := { program := "ytfjimghpjopgoaa", sum := "b8e23f2a2a76a30d6af35e5d02ad889497a4f207a61ea0ac550bbd3335cd4f11", func := "capsule/capsulelaw30.AtomicBounds", spec := "atomicBounds", unfollowed := true, recurses := true, apart := false, narrowed := true }
def AtomicBoundsUptoSaid : Prop := atomicBoundsUptoRow.holds Try.pinned (OpenSpec.upto atomicBoundsSpec)

/-- 'capsulelaw30.AtomicHolds', WHERE WHAT IT READS IS OF BULK AT MOST 1048576: true; the input reads as it did. -/
def atomicHoldsUptoRow : OpenClaim := { program := "ytfjimghpjopgoaa", sum := "b8e23f2a2a76a30d6af35e5d02ad889497a4f207a61ea0ac550bbd3335cd4f11", func := "capsule/capsulelaw30.AtomicHolds", spec := "atomicHolds", unfollowed := true, recurses := true, apart := false, narrowed := true }
def AtomicHoldsUptoSaid : Prop := atomicHoldsUptoRow.holds Try.pinned (OpenSpec.upto atomicHoldsSpec)

/-- 'capsulelaw30.AtomicCopies', WHERE WHAT IT READS IS OF BULK AT MOST 1048576: true; the input reads as it did. -/
def atomicCopiesUptoRow : OpenClaim := { program := "ytfjimghpjopgoaa", sum := "b8e23f2a2a76a30d6af35e5d02ad889497a4f207a61ea0ac550bbd3335cd4f11", func := "capsule/capsulelaw30.AtomicCopies", spec := "atomicCopies", unfollowed := true, recurses := true, apart := false, narrowed := true }
def AtomicCopiesUptoSaid : Prop := atomicCopiesUptoRow.holds Try.pinned (OpenSpec.upto atomicCopiesSpec)

/-- 'capsulelaw30.AtomicPlays', WHERE WHAT IT READS IS OF BULK AT MOST 1048576: true; the input reads as it did. -/
def atomicPlaysUptoRow : OpenClaim := { program := "ytfjimghpjopgoaa", sum := "b8e23f2a2a76a30d6af35e5d02ad889497a4f207a61ea0ac550bbd3335cd4f11", func := "capsule/capsulelaw30.AtomicPlays", spec := "atomicPlays", unfollowed := true, recurses := true, apart := false, narrowed := true }
def AtomicPlaysUptoSaid : Prop := atomicPlaysUptoRow.holds Try.pinned (OpenSpec.upto atomicPlaysSpec)

/-- 'capsulelaw30.AtomicNone', WHERE WHAT IT READS IS OF BULK AT MOST 1048576: true; the input reads as it did. -/
def atomicNoneUptoRow : OpenClaim := { program := "ytfjimghpjopgoaa", sum := "b8e23f2a2a76a30d6af35e5d02ad889497a4f207a61ea0ac550bbd3335cd4f11", func := "capsule/capsulelaw30.AtomicNone", spec := "atomicNone", unfollowed := true, recurses := true, apart := false, narrowed := true }
def AtomicNoneUptoSaid : Prop := atomicNoneUptoRow.holds Try.pinned (OpenSpec.upto atomicNoneSpec)

end Rows
end Go.Proofs.Ytfjimghpjopgoaa
