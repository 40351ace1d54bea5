/-
  No cell of these rows narrows 'for every input' (looked for: loops, veiled, ifaces, maps, wideKeys, modest, calm, conditions, laid).
  DERIVED. THE GIVEN ROWS OF THIS SEAT. 7 by the template 'for every input the law returns true; each argument reads behind the call as it read before'; 0 by the template 'total and deterministic' (their statements: YtngemhmjpphpaaaTotals.lean).
  GIVEN WITH THE SEED: the statements are not yours to turn. If you find one false, say at which input.
  Laid BY PROGRAM, IN A SANDBOX (cutbox-rows.mjs): the forced cells as the released guide's own fill.sh prints them over the translation 034882ece8c43bbb… (all of the seat's roots in one cut). By AI agents, Wed Nov 11 2026. No macro, syntax, notation, axiom, sorry.
-/
import Derived.Test.YtngemhmjpphpaaaChecked
import GoSem.Claim
import GoSem.ClaimJoined
import GoSem.ClaimMapViews
import Derived.JoinedTies
import Derived.KernelRfl
namespace Go.Proofs.Ytngemhmjpphpaaa
/- THE CELL 'sum', in the pinned program and in every row, IS THE sha256 OF THE DUMP (.gsa) THAT YtngemhmjpphpaaaProg.lean LOADS. Nothing in Lean hashes anything: it is a label: what it is worth is what the hold of that sum in a sandbox is worth. -/
noncomputable def Try.pinned : Pinned := { name := "ytngemhmjpphpaaa", sum := "034882ece8c43bbbeb3810c6d798d973c96d0e3fa17c9e3f7acd9d54fe26b131", checked := Try.checked }
namespace Rows
def none {H : Type} : Left H := { results := [], args := [] }

/-- 'capsulelaw18.FormatPlaces': WHATEVER THE INPUT: true; the input reads as it did. -/
def formatPlacesSpec : ChangeSpec := { name := "formatPlaces", fn := fun _ => fun
  | [d1, d2, d3] => { results := [.lit (.bool true)], args := [d1, d2, d3] }
  | _ => none }
def formatPlacesRow : OpenClaim := { program := "ytngemhmjpphpaaa", sum := "034882ece8c43bbbeb3810c6d798d973c96d0e3fa17c9e3f7acd9d54fe26b131", func := "capsule/capsulelaw18.FormatPlaces", spec := "formatPlaces", unfollowed := true, recurses := true, apart := false }
def FormatPlacesSaid : Prop := formatPlacesRow.holds Try.pinned (OpenSpec.ofChange formatPlacesSpec)

/-- ITS FALSE NEIGHBOUR: 'it returns false'. Refute it at one input. -/
def formatPlacesWrong : ChangeSpec := { name := "formatPlaces", fn := fun _ => fun
  | [d1, d2, d3] => { results := [.lit (.bool false)], args := [d1, d2, d3] }
  | _ => none }
def FormatPlacesWrongFalsely : Prop := formatPlacesRow.holds Try.pinned (OpenSpec.ofChange formatPlacesWrong)

/-- 'capsulelaw18.FormatSplits': WHATEVER THE INPUT: true; the input reads as it did. -/
def formatSplitsSpec : ChangeSpec := { name := "formatSplits", fn := fun _ => fun
  | [d1, d2, d3, d4, d5] => { results := [.lit (.bool true)], args := [d1, d2, d3, d4, d5] }
  | _ => none }
def formatSplitsRow : OpenClaim := { program := "ytngemhmjpphpaaa", sum := "034882ece8c43bbbeb3810c6d798d973c96d0e3fa17c9e3f7acd9d54fe26b131", func := "capsule/capsulelaw18.FormatSplits", spec := "formatSplits", unfollowed := true, recurses := true, apart := false }
def FormatSplitsSaid : Prop := formatSplitsRow.holds Try.pinned (OpenSpec.ofChange formatSplitsSpec)

/-- ITS FALSE NEIGHBOUR: 'it returns false'. Refute it at one input. -/
def formatSplitsWrong : ChangeSpec := { name := "formatSplits", fn := fun _ => fun
  | [d1, d2, d3, d4, d5] => { results := [.lit (.bool false)], args := [d1, d2, d3, d4, d5] }
  | _ => none }
def FormatSplitsWrongFalsely : Prop := formatSplitsRow.holds Try.pinned (OpenSpec.ofChange formatSplitsWrong)

/-- 'capsulelaw18.FormatBounds': WHATEVER THE INPUT: true; the input reads as it did. -/
def formatBoundsSpec : ChangeSpec := { name := "formatBounds", fn := fun _ => fun
  | [d1, d2] => { results := [.lit (.bool true)], args := [d1, d2] }
  | _ => none }
def formatBoundsRow : OpenClaim := { program := "ytngemhmjpphpaaa", sum := "034882ece8c43bbbeb3810c6d798d973c96d0e3fa17c9e3f7acd9d54fe26b131", func := "capsule/capsulelaw18.FormatBounds", spec := "formatBounds", unfollowed := true, recurses := true, apart := false }
def FormatBoundsSaid : Prop := formatBoundsRow.holds Try.pinned (OpenSpec.ofChange formatBoundsSpec)

/-- ITS FALSE NEIGHBOUR: 'it returns false'. Refute it at one input. -/
def formatBoundsWrong : ChangeSpec := { name := "formatBounds", fn := fun _ => fun
  | [d1, d2] => { results := [.lit (.bool false)], args := [d1, d2] }
  | _ => none }
def FormatBoundsWrongFalsely : Prop := formatBoundsRow.holds Try.pinned (OpenSpec.ofChange formatBoundsWrong)

/-- 'capsulelaw18.FormatEach': WHATEVER THE INPUT: true; the input reads as it did. -/
def formatEachSpec : ChangeSpec := { name := "formatEach", fn := fun _ => fun
  | [d1, d2, d3, d4] => { results := [.lit (.bool true)], args := [d1, d2, d3, d4] }
  | _ => none }
def formatEachRow : OpenClaim := { program := "ytngemhmjpphpaaa", sum := "034882ece8c43bbbeb3810c6d798d973c96d0e3fa17c9e3f7acd9d54fe26b131", func := "capsule/capsulelaw18.FormatEach", spec := "formatEach", unfollowed := true, recurses := true, apart := false }
def FormatEachSaid : Prop := formatEachRow.holds Try.pinned (OpenSpec.ofChange formatEachSpec)

/-- ITS FALSE NEIGHBOUR: 'it returns false'. Refute it at one input. -/
def formatEachWrong : ChangeSpec := { name := "formatEach", fn := fun _ => fun
  | [d1, d2, d3, d4] => { results := [.lit (.bool false)], args := [d1, d2, d3, d4] }
  | _ => none }
def FormatEachWrongFalsely : Prop := formatEachRow.holds Try.pinned (OpenSpec.ofChange formatEachWrong)

/-- 'capsulelaw18.FormatJoins': WHATEVER THE INPUT: true; the input reads as it did. -/
def formatJoinsSpec : ChangeSpec := { name := "formatJoins", fn := fun _ => fun
  | [d1, d2, d3] => { results := [.lit (.bool true)], args := [d1, d2, d3] }
  | _ => none }
def formatJoinsRow : OpenClaim := { program := "ytngemhmjpphpaaa", sum := "034882ece8c43bbbeb3810c6d798d973c96d0e3fa17c9e3f7acd9d54fe26b131", func := "capsule/capsulelaw18.FormatJoins", spec := "formatJoins", unfollowed := true, recurses := true, apart := false }
def FormatJoinsSaid : Prop := formatJoinsRow.holds Try.pinned (OpenSpec.ofChange formatJoinsSpec)

/-- ITS FALSE NEIGHBOUR: 'it returns false'. Refute it at one input. -/
def formatJoinsWrong : ChangeSpec := { name := "formatJoins", fn := fun _ => fun
  | [d1, d2, d3] => { results := [.lit (.bool false)], args := [d1, d2, d3] }
  | _ => none }
def FormatJoinsWrongFalsely : Prop := formatJoinsRow.holds Try.pinned (OpenSpec.ofChange formatJoinsWrong)

/-- 'capsulelaw18.FormatPacks': WHATEVER THE INPUT: true; the input reads as it did. -/
def formatPacksSpec : ChangeSpec := { name := "formatPacks", fn := fun _ => fun
  | [d1, d2, d3] => { results := [.lit (.bool true)], args := [d1, d2, d3] }
  | _ => none }
def formatPacksRow : OpenClaim := { program := "ytngemhmjpphpaaa", sum := "034882ece8c43bbbeb3810c6d798d973c96d0e3fa17c9e3f7acd9d54fe26b131", func := "capsule/capsulelaw18.FormatPacks", spec := "formatPacks", unfollowed := true, recurses := true, apart := false }
def FormatPacksSaid : Prop := formatPacksRow.holds Try.pinned (OpenSpec.ofChange formatPacksSpec)

/-- ITS FALSE NEIGHBOUR: 'it returns false'. Refute it at one input. -/
def formatPacksWrong : ChangeSpec := { name := "formatPacks", fn := fun _ => fun
  | [d1, d2, d3] => { results := [.lit (.bool false)], args := [d1, d2, d3] }
  | _ => none }
def FormatPacksWrongFalsely : Prop := formatPacksRow.holds Try.pinned (OpenSpec.ofChange formatPacksWrong)

/-- 'capsulelaw18.FormatHolds': WHATEVER THE INPUT: true; the input reads as it did. -/
def formatHoldsSpec : ChangeSpec := { name := "formatHolds", fn := fun _ => fun
  | [d1, d2, d3, d4, d5, d6] => { results := [.lit (.bool true)], args := [d1, d2, d3, d4, d5, d6] }
  | _ => none }
def formatHoldsRow : OpenClaim := { program := "ytngemhmjpphpaaa", sum := "034882ece8c43bbbeb3810c6d798d973c96d0e3fa17c9e3f7acd9d54fe26b131", func := "capsule/capsulelaw18.FormatHolds", spec := "formatHolds", unfollowed := true, recurses := true, apart := false }
def FormatHoldsSaid : Prop := formatHoldsRow.holds Try.pinned (OpenSpec.ofChange formatHoldsSpec)

/-- ITS FALSE NEIGHBOUR: 'it returns false'. Refute it at one input. -/
def formatHoldsWrong : ChangeSpec := { name := "formatHolds", fn := fun _ => fun
  | [d1, d2, d3, d4, d5, d6] => { results := [.lit (.bool false)], args := [d1, d2, d3, d4, d5, d6] }
  | _ => none }
def FormatHoldsWrongFalsely : Prop := formatHoldsRow.holds Try.pinned (OpenSpec.ofChange formatHoldsWrong)

/- THE SECOND FORM. 'bulk': how many values and letters a reading holds, each counted each time it is reached (what is shared counts as often as it is met; a slice's spare places count too). A statement '..UptoSaid' is the law's where the arguments, and the package variables that the reading takes, are together of bulk at most 1048576: NARROWER than '..Said'. Prove '..Said' where nothing that the law and all that it calls make is longer than what came in: it says more and counts as full. Else prove '..UptoSaid'. A law counts once. -/
mutual
def uptoBulk {H : Type} : DataW H → Nat
  | .lit (.string bytes) => bytes.length + 1
  | .lit _ => 1
  | .nil => 1
  | .ptr d => uptoBulk d + 1
  | .slice elems spare => uptoBulkAll elems + uptoBulkAll spare + 1
  | .agg parts => uptoBulkAll parts + 1
  | .iface _ d => uptoBulk d + 1
  | .map entries => uptoBulkEntries entries + 1
  | .held _ => 1
def uptoBulkAll {H : Type} : List (DataW H) → Nat
  | [] => 0
  | d :: r => uptoBulk d + uptoBulkAll r
def uptoBulkEntries {H : Type} : List (Lit × DataW H) → Nat
  | [] => 0
  | x :: r => uptoBulkEntry x + uptoBulkEntries r
def uptoBulkEntry {H : Type} : Lit × DataW H → Nat
  | (.string bytes, d) => bytes.length + uptoBulk d + 1
  | (_, d) => uptoBulk d + 1
 end
def uptoSmall : (H : Type) → List (DataW H) → Bool := fun _ ds => decide (uptoBulkAll ds ≤ 1048576)
def OpenSpec.upto (s : _root_.Go.ChangeSpec) : _root_.Go.OpenSpec := { _root_.Go.OpenSpec.ofChange s with cond := some uptoSmall }

/-- 'capsulelaw18.FormatPlaces', WHERE WHAT IT READS IS OF BULK AT MOST 1048576: true; the input reads as it did. -/
def formatPlacesUptoRow : OpenClaim := { program := "ytngemhmjpphpaaa", sum := "034882ece8c43bbbeb3810c6d798d973c96d0e3fa17c9e3f7acd9d54fe26b131", func := "capsule/capsulelaw18.FormatPlaces", spec := "formatPlaces", unfollowed := true, recurses := true, apart := false, narrowed := true }
def FormatPlacesUptoSaid : Prop := formatPlacesUptoRow.holds Try.pinned (OpenSpec.upto formatPlacesSpec)

/-- 'capsulelaw18.FormatSplits', WHERE WHAT IT READS IS OF BULK AT MOST 1048576: true; the input reads as it did. -/
def formatSplitsUptoRow : OpenClaim := { program := "ytngemhmjpphpaaa", sum := "034882ece8c43bbbeb3810c6d798d973c96d0e3fa17c9e3f7acd9d54fe26b131", func := "capsule/capsulelaw18.FormatSplits", spec := "formatSplits", unfollowed := true, recurses := true, apart := false, narrowed := true }
def FormatSplitsUptoSaid : Prop := formatSplitsUptoRow.holds Try.pinned (OpenSpec.upto formatSplitsSpec)

/-- 'capsulelaw18.FormatBounds', WHERE WHAT IT READS IS OF BULK AT MOST 1048576: true; the input reads as it did. -/
def formatBoundsUptoRow : OpenClaim := { program := "ytngemhmjpphpaaa", sum := "034882ece8c43bbbeb3810c6d798d973c96d0e3fa17c9e3f7acd9d54fe26b131", func := "capsule/capsulelaw18.FormatBounds", spec := "formatBounds", unfollowed := true, recurses := true, apart := false, narrowed := true }
def FormatBoundsUptoSaid : Prop := formatBoundsUptoRow.holds Try.pinned (OpenSpec.upto formatBoundsSpec)

/-- 'capsulelaw18.FormatEach', WHERE WHAT IT READS IS OF BULK AT MOST 1048576: true; the input reads as it did. -/
def formatEachUptoRow : OpenClaim := { program := "ytngemhmjpphpaaa", sum := "034882ece8c43bbbeb3810c6d798d973c96d0e3fa17c9e3f7acd9d54fe26b131", func := "capsule/capsulelaw18.FormatEach", spec := "formatEach", unfollowed := true, recurses := true, apart := false, narrowed := true }
def FormatEachUptoSaid : Prop := formatEachUptoRow.holds Try.pinned (OpenSpec.upto formatEachSpec)

/-- 'capsulelaw18.FormatJoins', WHERE WHAT IT READS IS OF BULK AT MOST 1048576: true; the input reads as it did. -/
def formatJoinsUptoRow : OpenClaim := { program := "ytngemhmjpphpaaa", sum := "034882ece8c43bbbeb3810c6d798d973c96d0e3fa17c9e3f7acd9d54fe26b131", func := "capsule/capsulelaw18.FormatJoins", spec := "formatJoins", unfollowed := true, recurses := true, apart := false, narrowed := true }
def FormatJoinsUptoSaid : Prop := formatJoinsUptoRow.holds Try.pinned (OpenSpec.upto formatJoinsSpec)

/-- 'capsulelaw18.FormatPacks', WHERE WHAT IT READS IS OF BULK AT MOST 1048576: true; the input reads as it did. -/
def formatPacksUptoRow : OpenClaim := { program := "ytngemhmjpphpaaa", sum := "034882ece8c43bbbeb3810c6d798d973c96d0e3fa17c9e3f7acd9d54fe26b131", func := "capsule/capsulelaw18.FormatPacks", spec := "formatPacks", unfollowed := true, recurses := true, apart := false, narrowed := true }
def FormatPacksUptoSaid : Prop := formatPacksUptoRow.holds Try.pinned (OpenSpec.upto formatPacksSpec)

/-- 'capsulelaw18.FormatHolds', WHERE WHAT IT READS IS OF BULK AT MOST 1048576: true; the input reads as it did. -/
def formatHoldsUptoRow : OpenClaim := { program := "ytngemhmjpphpaaa", sum := "034882ece8c43bbbeb3810c6d798d973c96d0e3fa17c9e3f7acd9d54fe26b131", func := "capsule/capsulelaw18.FormatHolds", spec := "formatHolds", unfollowed := true, recurses := true, apart := false, narrowed := true }
def FormatHoldsUptoSaid : Prop := formatHoldsUptoRow.holds Try.pinned (OpenSpec.upto formatHoldsSpec)

end Rows
end Go.Proofs.Ytngemhmjpphpaaa
