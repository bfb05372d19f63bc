/-
  No cell of these rows narrows 'for every input' (looked for: loops, veiled, ifaces, maps, wideKeys, modest, calm, conditions, laid).
  DERIVED. THE GIVEN ROWS OF THIS SEAT. 6 by the template 'for every input the law returns true; each argument reads behind the call as it read before'; 0 by the template 'total and deterministic' (their statements: YtlndkemblbbfaaaTotals.lean).
  GIVEN WITH THE SEED: the statements are not yours to turn. If you find one false, say at which input.
  Laid BY PROGRAM, IN A SANDBOX (cutbox-rows.mjs): the forced cells as the released guide's own fill.sh prints them over the translation c090eae7586cc2f5… (all of the seat's roots in one cut). By AI agents, Wed Nov 11 2026. No macro, syntax, notation, axiom, sorry.
-/
import Derived.Test.YtlndkemblbbfaaaChecked
import GoSem.Claim
import GoSem.ClaimJoined
import GoSem.ClaimMapViews
import Derived.JoinedTies
import Derived.KernelRfl
namespace Go.Proofs.Ytlndkemblbbfaaa
/- THE CELL 'sum', in the pinned program and in every row, IS THE sha256 OF THE DUMP (.gsa) THAT YtlndkemblbbfaaaProg.lean LOADS. Nothing in Lean hashes anything: it is a label: what it is worth is what the hold of that sum in a sandbox is worth. -/
noncomputable def Try.pinned : Pinned := { name := "ytlndkemblbbfaaa", sum := "c090eae7586cc2f5ab161ae2998a4f6732de750928bb467cea01e5e3ddc901bf", checked := Try.checked }
namespace Rows
def none {H : Type} : Left H := { results := [], args := [] }

/-- 'remoralaw07.IndexPicks': WHATEVER THE INPUT: true; the input reads as it did. -/
def indexPicksSpec : ChangeSpec := { name := "indexPicks", fn := fun _ => fun
  | [d1, d2] => { results := [.lit (.bool true)], args := [d1, d2] }
  | _ => none }
def indexPicksRow : OpenClaim := { program := "ytlndkemblbbfaaa", sum := "c090eae7586cc2f5ab161ae2998a4f6732de750928bb467cea01e5e3ddc901bf", func := "remora/remoralaw07.IndexPicks", spec := "indexPicks", unfollowed := true, recurses := true, apart := false }
def IndexPicksSaid : Prop := indexPicksRow.holds Try.pinned (OpenSpec.ofChange indexPicksSpec)

/-- ITS FALSE NEIGHBOUR: 'it returns false'. Refute it at one input. -/
def indexPicksWrong : ChangeSpec := { name := "indexPicks", fn := fun _ => fun
  | [d1, d2] => { results := [.lit (.bool false)], args := [d1, d2] }
  | _ => none }
def IndexPicksWrongFalsely : Prop := indexPicksRow.holds Try.pinned (OpenSpec.ofChange indexPicksWrong)

/-- 'remoralaw07.IndexNot': WHATEVER THE INPUT: true; the input reads as it did. -/
def indexNotSpec : ChangeSpec := { name := "indexNot", fn := fun _ => fun
  | [d1, d2] => { results := [.lit (.bool true)], args := [d1, d2] }
  | _ => none }
def indexNotRow : OpenClaim := { program := "ytlndkemblbbfaaa", sum := "c090eae7586cc2f5ab161ae2998a4f6732de750928bb467cea01e5e3ddc901bf", func := "remora/remoralaw07.IndexNot", spec := "indexNot", unfollowed := true, recurses := true, apart := false }
def IndexNotSaid : Prop := indexNotRow.holds Try.pinned (OpenSpec.ofChange indexNotSpec)

/-- ITS FALSE NEIGHBOUR: 'it returns false'. Refute it at one input. -/
def indexNotWrong : ChangeSpec := { name := "indexNot", fn := fun _ => fun
  | [d1, d2] => { results := [.lit (.bool false)], args := [d1, d2] }
  | _ => none }
def IndexNotWrongFalsely : Prop := indexNotRow.holds Try.pinned (OpenSpec.ofChange indexNotWrong)

/-- 'remoralaw07.IndexFinds': WHATEVER THE INPUT: true; the input reads as it did. -/
def indexFindsSpec : ChangeSpec := { name := "indexFinds", fn := fun _ => fun
  | [d1, d2] => { results := [.lit (.bool true)], args := [d1, d2] }
  | _ => none }
def indexFindsRow : OpenClaim := { program := "ytlndkemblbbfaaa", sum := "c090eae7586cc2f5ab161ae2998a4f6732de750928bb467cea01e5e3ddc901bf", func := "remora/remoralaw07.IndexFinds", spec := "indexFinds", unfollowed := true, recurses := true, apart := false }
def IndexFindsSaid : Prop := indexFindsRow.holds Try.pinned (OpenSpec.ofChange indexFindsSpec)

/-- ITS FALSE NEIGHBOUR: 'it returns false'. Refute it at one input. -/
def indexFindsWrong : ChangeSpec := { name := "indexFinds", fn := fun _ => fun
  | [d1, d2] => { results := [.lit (.bool false)], args := [d1, d2] }
  | _ => none }
def IndexFindsWrongFalsely : Prop := indexFindsRow.holds Try.pinned (OpenSpec.ofChange indexFindsWrong)

/-- 'remoralaw07.IndexOwn': WHATEVER THE INPUT: true; the input reads as it did. -/
def indexOwnSpec : ChangeSpec := { name := "indexOwn", fn := fun _ => fun
  | [d1, d2, d3] => { results := [.lit (.bool true)], args := [d1, d2, d3] }
  | _ => none }
def indexOwnRow : OpenClaim := { program := "ytlndkemblbbfaaa", sum := "c090eae7586cc2f5ab161ae2998a4f6732de750928bb467cea01e5e3ddc901bf", func := "remora/remoralaw07.IndexOwn", spec := "indexOwn", unfollowed := true, recurses := true, apart := false }
def IndexOwnSaid : Prop := indexOwnRow.holds Try.pinned (OpenSpec.ofChange indexOwnSpec)

/-- ITS FALSE NEIGHBOUR: 'it returns false'. Refute it at one input. -/
def indexOwnWrong : ChangeSpec := { name := "indexOwn", fn := fun _ => fun
  | [d1, d2, d3] => { results := [.lit (.bool false)], args := [d1, d2, d3] }
  | _ => none }
def IndexOwnWrongFalsely : Prop := indexOwnRow.holds Try.pinned (OpenSpec.ofChange indexOwnWrong)

/-- 'remoralaw07.IndexLoads': WHATEVER THE INPUT: true; the input reads as it did. -/
def indexLoadsSpec : ChangeSpec := { name := "indexLoads", fn := fun _ => fun
  | [d] => { results := [.lit (.bool true)], args := [d] }
  | _ => none }
def indexLoadsRow : OpenClaim := { program := "ytlndkemblbbfaaa", sum := "c090eae7586cc2f5ab161ae2998a4f6732de750928bb467cea01e5e3ddc901bf", func := "remora/remoralaw07.IndexLoads", spec := "indexLoads", unfollowed := true, recurses := true, apart := false }
def IndexLoadsSaid : Prop := indexLoadsRow.holds Try.pinned (OpenSpec.ofChange indexLoadsSpec)

/-- ITS FALSE NEIGHBOUR: 'it returns false'. Refute it at one input. -/
def indexLoadsWrong : ChangeSpec := { name := "indexLoads", fn := fun _ => fun
  | [d] => { results := [.lit (.bool false)], args := [d] }
  | _ => none }
def IndexLoadsWrongFalsely : Prop := indexLoadsRow.holds Try.pinned (OpenSpec.ofChange indexLoadsWrong)

/-- 'remoralaw07.IndexNone': WHATEVER THE INPUT: true; the input reads as it did. -/
def indexNoneSpec : ChangeSpec := { name := "indexNone", fn := fun _ => fun
  | [d] => { results := [.lit (.bool true)], args := [d] }
  | _ => none }
def indexNoneRow : OpenClaim := { program := "ytlndkemblbbfaaa", sum := "c090eae7586cc2f5ab161ae2998a4f6732de750928bb467cea01e5e3ddc901bf", func := "remora/remoralaw07.IndexNone", spec := "indexNone", unfollowed := true, recurses := true, apart := false }
def IndexNoneSaid : Prop := indexNoneRow.holds Try.pinned (OpenSpec.ofChange indexNoneSpec)

/-- ITS FALSE NEIGHBOUR: 'it returns false'. Refute it at one input. -/
def indexNoneWrong : ChangeSpec := { name := "indexNone", fn := fun _ => fun
  | [d] => { results := [.lit (.bool false)], args := [d] }
  | _ => none }
def IndexNoneWrongFalsely : Prop := indexNoneRow.holds Try.pinned (OpenSpec.ofChange indexNoneWrong)

/- THE SECOND FORM. 'bulk': how many values and letters a reading holds, each counted each time it is reached (what is shared counts as often as it is met; a slice's spare places count too). A statement '..UptoSaid' is the law's where the arguments, and the package variables that the reading takes, are together of bulk at most 1048576: NARROWER than '..Said'. Prove '..Said' where nothing that the law and all that it calls make is longer than what came in: it says more and counts as full. Else prove '..UptoSaid'. A law counts once. -/
mutual
def uptoBulk {H : Type} : DataW H → Nat
  | .lit (.string bytes) => bytes.length + 1
  | .lit _ => 1
  | .nil => 1
  | .ptr d => uptoBulk d + 1
  | .slice elems spare => uptoBulkAll elems + uptoBulkAll spare + 1
  | .agg parts => uptoBulkAll parts + 1
  | .iface _ d => uptoBulk d + 1
  | .map entries => uptoBulkEntries entries + 1
  | .held _ => 1
def uptoBulkAll {H : Type} : List (DataW H) → Nat
  | [] => 0
  | d :: r => uptoBulk d + uptoBulkAll r
def uptoBulkEntries {H : Type} : List (Lit × DataW H) → Nat
  | [] => 0
  | x :: r => uptoBulkEntry x + uptoBulkEntries r
def uptoBulkEntry {H : Type} : Lit × DataW H → Nat
  | (.string bytes, d) => bytes.length + uptoBulk d + 1
  | (_, d) => uptoBulk d + 1
 end
def uptoSmall : (H : Type) → List (DataW H) → Bool := fun _ ds => decide (uptoBulkAll ds ≤ 1048576)
def OpenSpec.upto (s : _root_.Go.ChangeSpec) : _root_.Go.OpenSpec := { _root_.Go.OpenSpec.ofChange s with cond := some uptoSmall }

/-- 'remoralaw07.IndexPicks', WHERE WHAT IT READS IS OF BULK AT MOST 1048576: true; the input reads as it did. -/
def indexPicksUptoRow : OpenClaim := { program := "ytlndkemblbbfaaa", sum := "c090eae7586cc2f5ab161ae2998a4f6732de750928bb467cea01e5e3ddc901bf", func := "remora/remoralaw07.IndexPicks", spec := "indexPicks", unfollowed := true, recurses := true, apart := false, narrowed := true }
def IndexPicksUptoSaid : Prop := indexPicksUptoRow.holds Try.pinned (OpenSpec.upto indexPicksSpec)

/-- 'remoralaw07.IndexNot', WHERE WHAT IT READS IS OF BULK AT MOST 1048576: true; the input reads as it did. -/
def indexNotUptoRow : OpenClaim := { program := "ytlndkemblbbfaaa", sum := "c090eae7586cc2f5ab161ae2998a4f6732de750928bb467cea01e5e3ddc901bf", func := "remora/remoralaw07.IndexNot", spec := "indexNot", unfollowed := true, recurses := true, apart := false, narrowed := true }
def IndexNotUptoSaid : Prop := indexNotUptoRow.holds Try.pinned (OpenSpec.upto indexNotSpec)

/-- 'remoralaw07.IndexFinds', WHERE WHAT IT READS IS OF BULK AT MOST 1048576: true; the input reads as it did. -/
def indexFindsUptoRow : OpenClaim := { program := "ytlndkemblbbfaaa", sum := "c090eae7586cc2f5ab161ae2998a4f6732de750928bb467cea01e5e3ddc901bf", func := "remora/remoralaw07.IndexFinds", spec := "indexFinds", unfollowed := true, recurses := true, apart := false, narrowed := true }
def IndexFindsUptoSaid : Prop := indexFindsUptoRow.holds Try.pinned (OpenSpec.upto indexFindsSpec)

/-- 'remoralaw07.IndexOwn', WHERE WHAT IT READS IS OF BULK AT MOST 1048576: true; the input reads as it did. -/
def indexOwnUptoRow : OpenClaim := { program := "ytlndkemblbbfaaa", sum := "c090eae7586cc2f5ab161ae2998a4f6732de750928bb467cea01e5e3ddc901bf", func := "remora/remoralaw07.IndexOwn", spec := "indexOwn", unfollowed := true, recurses := true, apart := false, narrowed := true }
def IndexOwnUptoSaid : Prop := indexOwnUptoRow.holds Try.pinned (OpenSpec.upto indexOwnSpec)

/-- 'remoralaw07.IndexLoads', WHERE WHAT IT READS IS OF BULK AT MOST 1048576: true; the input reads as it did. -/
def indexLoadsUptoRow : OpenClaim := { program := "ytlndkemblbbfaaa", sum := "c090eae7586cc2f5ab161ae2998a4f6732de750928bb467cea01e5e3ddc901bf", func := "remora/remoralaw07.IndexLoads", spec := "indexLoads", unfollowed := true, recurses := true, apart := false, narrowed := true }
def IndexLoadsUptoSaid : Prop := indexLoadsUptoRow.holds Try.pinned (OpenSpec.upto indexLoadsSpec)

/-- 'remoralaw07.IndexNone', WHERE WHAT IT READS IS OF BULK AT MOST 1048576: true; the input reads as it did. -/
def indexNoneUptoRow : OpenClaim := { program := "ytlndkemblbbfaaa", sum := "c090eae7586cc2f5ab161ae2998a4f6732de750928bb467cea01e5e3ddc901bf", func := "remora/remoralaw07.IndexNone", spec := "indexNone", unfollowed := true, recurses := true, apart := false, narrowed := true }
def IndexNoneUptoSaid : Prop := indexNoneUptoRow.holds Try.pinned (OpenSpec.upto indexNoneSpec)

end Rows
end Go.Proofs.Ytlndkemblbbfaaa
