/-
  No cell of these rows narrows 'for every input' (looked for: loops, veiled, ifaces, maps, wideKeys, modest, calm, conditions, laid).
  DERIVED. THE GIVEN ROWS OF THIS SEAT. 7 by the template 'for every input the law returns true; each argument reads behind the call as it read before'; 0 by the template 'total and deterministic' (their statements: YtifmajnhcbicnaaTotals.lean).
  GIVEN WITH THE SEED: the statements are not yours to turn. If you find one false, say at which input.
  Laid BY PROGRAM, IN A SANDBOX (cutbox-rows.mjs): the forced cells as the released guide's own fill.sh prints them over the translation bd521727d51728ea… (all of the seat's roots in one cut). By AI agents, Wed Nov 11 2026. No macro, syntax, notation, axiom, sorry.
-/
import Derived.Test.YtifmajnhcbicnaaChecked
import GoSem.Claim
import GoSem.ClaimJoined
import GoSem.ClaimMapViews
import Derived.JoinedTies
import Derived.KernelRfl
namespace Go.Proofs.Ytifmajnhcbicnaa
/- THE CELL 'sum', in the pinned program and in every row, IS THE sha256 OF THE DUMP (.gsa) THAT YtifmajnhcbicnaaProg.lean LOADS. Nothing in Lean hashes anything: it is a label: what it is worth is what the hold of that sum in a sandbox is worth. -/
noncomputable def Try.pinned : Pinned := { name := "ytifmajnhcbicnaa", sum := "bd521727d51728ead6fc011ba499791b0683c44dbe62176b2f6da7f9434f128b", checked := Try.checked }
namespace Rows
def none {H : Type} : Left H := { results := [], args := [] }

/-- 'remoralaw08.DeltaChecks': WHATEVER THE INPUT: true; the input reads as it did. -/
def deltaChecksSpec : ChangeSpec := { name := "deltaChecks", fn := fun _ => fun
  | [d1, d2] => { results := [.lit (.bool true)], args := [d1, d2] }
  | _ => none }
def deltaChecksRow : OpenClaim := { program := "ytifmajnhcbicnaa", sum := "bd521727d51728ead6fc011ba499791b0683c44dbe62176b2f6da7f9434f128b", func := "remora/remoralaw08.DeltaChecks", spec := "deltaChecks", unfollowed := true, recurses := true, apart := false }
def DeltaChecksSaid : Prop := deltaChecksRow.holds Try.pinned (OpenSpec.ofChange deltaChecksSpec)

/-- ITS FALSE NEIGHBOUR: 'it returns false'. Refute it at one input. -/
def deltaChecksWrong : ChangeSpec := { name := "deltaChecks", fn := fun _ => fun
  | [d1, d2] => { results := [.lit (.bool false)], args := [d1, d2] }
  | _ => none }
def DeltaChecksWrongFalsely : Prop := deltaChecksRow.holds Try.pinned (OpenSpec.ofChange deltaChecksWrong)

/-- 'remoralaw08.DeltaApplies': WHATEVER THE INPUT: true; the input reads as it did. -/
def deltaAppliesSpec : ChangeSpec := { name := "deltaApplies", fn := fun _ => fun
  | [d1, d2, d3] => { results := [.lit (.bool true)], args := [d1, d2, d3] }
  | _ => none }
def deltaAppliesRow : OpenClaim := { program := "ytifmajnhcbicnaa", sum := "bd521727d51728ead6fc011ba499791b0683c44dbe62176b2f6da7f9434f128b", func := "remora/remoralaw08.DeltaApplies", spec := "deltaApplies", unfollowed := true, recurses := true, apart := false }
def DeltaAppliesSaid : Prop := deltaAppliesRow.holds Try.pinned (OpenSpec.ofChange deltaAppliesSpec)

/-- ITS FALSE NEIGHBOUR: 'it returns false'. Refute it at one input. -/
def deltaAppliesWrong : ChangeSpec := { name := "deltaApplies", fn := fun _ => fun
  | [d1, d2, d3] => { results := [.lit (.bool false)], args := [d1, d2, d3] }
  | _ => none }
def DeltaAppliesWrongFalsely : Prop := deltaAppliesRow.holds Try.pinned (OpenSpec.ofChange deltaAppliesWrong)

/-- 'remoralaw08.DeltaMeans': WHATEVER THE INPUT: true; the input reads as it did. -/
def deltaMeansSpec : ChangeSpec := { name := "deltaMeans", fn := fun _ => fun
  | [d1, d2] => { results := [.lit (.bool true)], args := [d1, d2] }
  | _ => none }
def deltaMeansRow : OpenClaim := { program := "ytifmajnhcbicnaa", sum := "bd521727d51728ead6fc011ba499791b0683c44dbe62176b2f6da7f9434f128b", func := "remora/remoralaw08.DeltaMeans", spec := "deltaMeans", unfollowed := true, recurses := true, apart := false }
def DeltaMeansSaid : Prop := deltaMeansRow.holds Try.pinned (OpenSpec.ofChange deltaMeansSpec)

/-- ITS FALSE NEIGHBOUR: 'it returns false'. Refute it at one input. -/
def deltaMeansWrong : ChangeSpec := { name := "deltaMeans", fn := fun _ => fun
  | [d1, d2] => { results := [.lit (.bool false)], args := [d1, d2] }
  | _ => none }
def DeltaMeansWrongFalsely : Prop := deltaMeansRow.holds Try.pinned (OpenSpec.ofChange deltaMeansWrong)

/-- 'remoralaw08.DeltaParts': WHATEVER THE INPUT: true; the input reads as it did. -/
def deltaPartsSpec : ChangeSpec := { name := "deltaParts", fn := fun _ => fun
  | [d1, d2, d3] => { results := [.lit (.bool true)], args := [d1, d2, d3] }
  | _ => none }
def deltaPartsRow : OpenClaim := { program := "ytifmajnhcbicnaa", sum := "bd521727d51728ead6fc011ba499791b0683c44dbe62176b2f6da7f9434f128b", func := "remora/remoralaw08.DeltaParts", spec := "deltaParts", unfollowed := true, recurses := true, apart := false }
def DeltaPartsSaid : Prop := deltaPartsRow.holds Try.pinned (OpenSpec.ofChange deltaPartsSpec)

/-- ITS FALSE NEIGHBOUR: 'it returns false'. Refute it at one input. -/
def deltaPartsWrong : ChangeSpec := { name := "deltaParts", fn := fun _ => fun
  | [d1, d2, d3] => { results := [.lit (.bool false)], args := [d1, d2, d3] }
  | _ => none }
def DeltaPartsWrongFalsely : Prop := deltaPartsRow.holds Try.pinned (OpenSpec.ofChange deltaPartsWrong)

/-- 'remoralaw08.DeltaCuts': WHATEVER THE INPUT: true; the input reads as it did. -/
def deltaCutsSpec : ChangeSpec := { name := "deltaCuts", fn := fun _ => fun
  | [d1, d2, d3] => { results := [.lit (.bool true)], args := [d1, d2, d3] }
  | _ => none }
def deltaCutsRow : OpenClaim := { program := "ytifmajnhcbicnaa", sum := "bd521727d51728ead6fc011ba499791b0683c44dbe62176b2f6da7f9434f128b", func := "remora/remoralaw08.DeltaCuts", spec := "deltaCuts", unfollowed := true, recurses := true, apart := false }
def DeltaCutsSaid : Prop := deltaCutsRow.holds Try.pinned (OpenSpec.ofChange deltaCutsSpec)

/-- ITS FALSE NEIGHBOUR: 'it returns false'. Refute it at one input. -/
def deltaCutsWrong : ChangeSpec := { name := "deltaCuts", fn := fun _ => fun
  | [d1, d2, d3] => { results := [.lit (.bool false)], args := [d1, d2, d3] }
  | _ => none }
def DeltaCutsWrongFalsely : Prop := deltaCutsRow.holds Try.pinned (OpenSpec.ofChange deltaCutsWrong)

/-- 'remoralaw08.DeltaThens': WHATEVER THE INPUT: true; the input reads as it did. -/
def deltaThensSpec : ChangeSpec := { name := "deltaThens", fn := fun _ => fun
  | [d1, d2] => { results := [.lit (.bool true)], args := [d1, d2] }
  | _ => none }
def deltaThensRow : OpenClaim := { program := "ytifmajnhcbicnaa", sum := "bd521727d51728ead6fc011ba499791b0683c44dbe62176b2f6da7f9434f128b", func := "remora/remoralaw08.DeltaThens", spec := "deltaThens", unfollowed := true, recurses := true, apart := false }
def DeltaThensSaid : Prop := deltaThensRow.holds Try.pinned (OpenSpec.ofChange deltaThensSpec)

/-- ITS FALSE NEIGHBOUR: 'it returns false'. Refute it at one input. -/
def deltaThensWrong : ChangeSpec := { name := "deltaThens", fn := fun _ => fun
  | [d1, d2] => { results := [.lit (.bool false)], args := [d1, d2] }
  | _ => none }
def DeltaThensWrongFalsely : Prop := deltaThensRow.holds Try.pinned (OpenSpec.ofChange deltaThensWrong)

/-- 'remoralaw08.DeltaComposes': WHATEVER THE INPUT: true; the input reads as it did. -/
def deltaComposesSpec : ChangeSpec := { name := "deltaComposes", fn := fun _ => fun
  | [d1, d2, d3] => { results := [.lit (.bool true)], args := [d1, d2, d3] }
  | _ => none }
def deltaComposesRow : OpenClaim := { program := "ytifmajnhcbicnaa", sum := "bd521727d51728ead6fc011ba499791b0683c44dbe62176b2f6da7f9434f128b", func := "remora/remoralaw08.DeltaComposes", spec := "deltaComposes", unfollowed := true, recurses := true, apart := false }
def DeltaComposesSaid : Prop := deltaComposesRow.holds Try.pinned (OpenSpec.ofChange deltaComposesSpec)

/-- ITS FALSE NEIGHBOUR: 'it returns false'. Refute it at one input. -/
def deltaComposesWrong : ChangeSpec := { name := "deltaComposes", fn := fun _ => fun
  | [d1, d2, d3] => { results := [.lit (.bool false)], args := [d1, d2, d3] }
  | _ => none }
def DeltaComposesWrongFalsely : Prop := deltaComposesRow.holds Try.pinned (OpenSpec.ofChange deltaComposesWrong)

/- THE SECOND FORM. 'bulk': how many values and letters a reading holds, each counted each time it is reached (what is shared counts as often as it is met; a slice's spare places count too). A statement '..UptoSaid' is the law's where the arguments, and the package variables that the reading takes, are together of bulk at most 1048576: NARROWER than '..Said'. Prove '..Said' where nothing that the law and all that it calls make is longer than what came in: it says more and counts as full. Else prove '..UptoSaid'. A law counts once. -/
mutual
def uptoBulk {H : Type} : DataW H → Nat
  | .lit (.string bytes) => bytes.length + 1
  | .lit _ => 1
  | .nil => 1
  | .ptr d => uptoBulk d + 1
  | .slice elems spare => uptoBulkAll elems + uptoBulkAll spare + 1
  | .agg parts => uptoBulkAll parts + 1
  | .iface _ d => uptoBulk d + 1
  | .map entries => uptoBulkEntries entries + 1
  | .held _ => 1
def uptoBulkAll {H : Type} : List (DataW H) → Nat
  | [] => 0
  | d :: r => uptoBulk d + uptoBulkAll r
def uptoBulkEntries {H : Type} : List (Lit × DataW H) → Nat
  | [] => 0
  | x :: r => uptoBulkEntry x + uptoBulkEntries r
def uptoBulkEntry {H : Type} : Lit × DataW H → Nat
  | (.string bytes, d) => bytes.length + uptoBulk d + 1
  | (_, d) => uptoBulk d + 1
 end
def uptoSmall : (H : Type) → List (DataW H) → Bool := fun _ ds => decide (uptoBulkAll ds ≤ 1048576)
def OpenSpec.upto (s : _root_.Go.ChangeSpec) : _root_.Go.OpenSpec := { _root_.Go.OpenSpec.ofChange s with cond := some uptoSmall }

/-- 'remoralaw08.DeltaChecks', WHERE WHAT IT READS IS OF BULK AT MOST 1048576: true; the input reads as it did. -/
def deltaChecksUptoRow : OpenClaim := { program := "ytifmajnhcbicnaa", sum := "bd521727d51728ead6fc011ba499791b0683c44dbe62176b2f6da7f9434f128b", func := "remora/remoralaw08.DeltaChecks", spec := "deltaChecks", unfollowed := true, recurses := true, apart := false, narrowed := true }
def DeltaChecksUptoSaid : Prop := deltaChecksUptoRow.holds Try.pinned (OpenSpec.upto deltaChecksSpec)

/-- 'remoralaw08.DeltaApplies', WHERE WHAT IT READS IS OF BULK AT MOST 1048576: true; the input reads as it did. -/
def deltaAppliesUptoRow : OpenClaim := { program := "ytifmajnhcbicnaa", sum := "bd521727d51728ead6fc011ba499791b0683c44dbe62176b2f6da7f9434f128b", func := "remora/remoralaw08.DeltaApplies", spec := "deltaApplies", unfollowed := true, recurses := true, apart := false, narrowed := true }
def DeltaAppliesUptoSaid : Prop := deltaAppliesUptoRow.holds Try.pinned (OpenSpec.upto deltaAppliesSpec)

/-- 'remoralaw08.DeltaMeans', WHERE WHAT IT READS IS OF BULK AT MOST 1048576: true; the input reads as it did. -/
def deltaMeansUptoRow : OpenClaim := { program := "ytifmajnhcbicnaa", sum := "bd521727d51728ead6fc011ba499791b0683c44dbe62176b2f6da7f9434f128b", func := "remora/remoralaw08.DeltaMeans", spec := "deltaMeans", unfollowed := true, recurses := true, apart := false, narrowed := true }
def DeltaMeansUptoSaid : Prop := deltaMeansUptoRow.holds Try.pinned (OpenSpec.upto deltaMeansSpec)

/-- 'remoralaw08.DeltaParts', WHERE WHAT IT READS IS OF BULK AT MOST 1048576: true; the input reads as it did. -/
def deltaPartsUptoRow : OpenClaim := { program := "ytifmajnhcbicnaa", sum := "bd521727d51728ead6fc011ba499791b0683c44dbe62176b2f6da7f9434f128b", func := "remora/remoralaw08.DeltaParts", spec := "deltaParts", unfollowed := true, recurses := true, apart := false, narrowed := true }
def DeltaPartsUptoSaid : Prop := deltaPartsUptoRow.holds Try.pinned (OpenSpec.upto deltaPartsSpec)

/-- 'remoralaw08.DeltaCuts', WHERE WHAT IT READS IS OF BULK AT MOST 1048576: true; the input reads as it did. -/
def deltaCutsUptoRow : OpenClaim := { program := "ytifmajnhcbicnaa", sum := "bd521727d51728ead6fc011ba499791b0683c44dbe62176b2f6da7f9434f128b", func := "remora/remoralaw08.DeltaCuts", spec := "deltaCuts", unfollowed := true, recurses := true, apart := false, narrowed := true }
def DeltaCutsUptoSaid : Prop := deltaCutsUptoRow.holds Try.pinned (OpenSpec.upto deltaCutsSpec)

/-- 'remoralaw08.DeltaThens', WHERE WHAT IT READS IS OF BULK AT MOST 1048576: true; the input reads as it did. -/
def deltaThensUptoRow : OpenClaim := { program := "ytifmajnhcbicnaa", sum := "bd521727d51728ead6fc011ba499791b0683c44dbe62176b2f6da7f9434f128b", func := "remora/remoralaw08.DeltaThens", spec := "deltaThens", unfollowed := true, recurses := true, apart := false, narrowed := true }
def DeltaThensUptoSaid : Prop := deltaThensUptoRow.holds Try.pinned (OpenSpec.upto deltaThensSpec)

/-- 'remoralaw08.DeltaComposes', WHERE WHAT IT READS IS OF BULK AT MOST 1048576: true; the input reads as it did. -/
def deltaComposesUptoRow : OpenClaim := { program := "ytifmajnhcbicnaa", sum := "bd521727d51728ead6fc011ba499791b0683c44dbe62176b2f6da7f9434f128b", func := "remora/remoralaw08.DeltaComposes", spec := "deltaComposes", unfollowed := true, recurses := true, apart := false, narrowed := true }
def DeltaComposesUptoSaid : Prop := deltaComposesUptoRow.holds Try.pinned (OpenSpec.upto deltaComposesSpec)

end Rows
end Go.Proofs.Ytifmajnhcbicnaa
