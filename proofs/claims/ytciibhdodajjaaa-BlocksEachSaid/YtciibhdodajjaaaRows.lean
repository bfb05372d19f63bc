/-
  No cell of these rows narrows 'for every input' (looked for: loops, veiled, ifaces, maps, wideKeys, modest, calm, conditions, laid).
  DERIVED. THE GIVEN ROWS OF THIS SEAT. 7 by the template 'for every input the law returns true; each argument reads behind the call as it read before'; 0 by the template 'total and deterministic' (their statements: YtciibhdodajjaaaTotals.lean).
  GIVEN WITH THE SEED: the statements are not yours to turn. If you find one false, say at which input.
  Laid BY PROGRAM, IN A SANDBOX (cutbox-rows.mjs): the forced cells as the released guide's own fill.sh prints them over the translation bcdc3640bc6f15b0… (all of the seat's roots in one cut). By AI agents, Wed Nov 11 2026. No macro, syntax, notation, axiom, sorry.
-/
import Derived.Test.YtciibhdodajjaaaChecked
import GoSem.Claim
import GoSem.ClaimJoined
import GoSem.ClaimMapViews
import Derived.JoinedTies
import Derived.KernelRfl
namespace Go.Proofs.Ytciibhdodajjaaa
/- THE CELL 'sum', in the pinned program and in every row, IS THE sha256 OF THE DUMP (.gsa) THAT YtciibhdodajjaaaProg.lean LOADS. Nothing in Lean hashes anything: it is a label: what it is worth is what the hold of that sum in a sandbox is worth. -/
noncomputable def Try.pinned : Pinned := { name := "ytciibhdodajjaaa", sum := "bcdc3640bc6f15b0234a553b2302902d1d608415e5b856c8e778b4423b0e4bdd", checked := Try.checked }
namespace Rows
def none {H : Type} : Left H := { results := [], args := [] }

/-- 'remoralaw05.BlocksRight': WHATEVER THE INPUT: true; the input reads as it did. -/
def blocksRightSpec : ChangeSpec := { name := "blocksRight", fn := fun _ => fun
  | [d1, d2] => { results := [.lit (.bool true)], args := [d1, d2] }
  | _ => none }
def blocksRightRow : OpenClaim := { program := "ytciibhdodajjaaa", sum := "bcdc3640bc6f15b0234a553b2302902d1d608415e5b856c8e778b4423b0e4bdd", func := "remora/remoralaw05.BlocksRight", spec := "blocksRight", apart := false }
def BlocksRightSaid : Prop := blocksRightRow.holds Try.pinned (OpenSpec.ofChange blocksRightSpec)

/-- ITS FALSE NEIGHBOUR: 'it returns false'. Refute it at one input. -/
def blocksRightWrong : ChangeSpec := { name := "blocksRight", fn := fun _ => fun
  | [d1, d2] => { results := [.lit (.bool false)], args := [d1, d2] }
  | _ => none }
def BlocksRightWrongFalsely : Prop := blocksRightRow.holds Try.pinned (OpenSpec.ofChange blocksRightWrong)

/-- 'remoralaw05.BlocksRange': WHATEVER THE INPUT: true; the input reads as it did. -/
def blocksRangeSpec : ChangeSpec := { name := "blocksRange", fn := fun _ => fun
  | [d1, d2, d3] => { results := [.lit (.bool true)], args := [d1, d2, d3] }
  | _ => none }
def blocksRangeRow : OpenClaim := { program := "ytciibhdodajjaaa", sum := "bcdc3640bc6f15b0234a553b2302902d1d608415e5b856c8e778b4423b0e4bdd", func := "remora/remoralaw05.BlocksRange", spec := "blocksRange", apart := false }
def BlocksRangeSaid : Prop := blocksRangeRow.holds Try.pinned (OpenSpec.ofChange blocksRangeSpec)

/-- ITS FALSE NEIGHBOUR: 'it returns false'. Refute it at one input. -/
def blocksRangeWrong : ChangeSpec := { name := "blocksRange", fn := fun _ => fun
  | [d1, d2, d3] => { results := [.lit (.bool false)], args := [d1, d2, d3] }
  | _ => none }
def BlocksRangeWrongFalsely : Prop := blocksRangeRow.holds Try.pinned (OpenSpec.ofChange blocksRangeWrong)

/-- 'remoralaw05.BlocksWhich': WHATEVER THE INPUT: true; the input reads as it did. -/
def blocksWhichSpec : ChangeSpec := { name := "blocksWhich", fn := fun _ => fun
  | [d1, d2, d3] => { results := [.lit (.bool true)], args := [d1, d2, d3] }
  | _ => none }
def blocksWhichRow : OpenClaim := { program := "ytciibhdodajjaaa", sum := "bcdc3640bc6f15b0234a553b2302902d1d608415e5b856c8e778b4423b0e4bdd", func := "remora/remoralaw05.BlocksWhich", spec := "blocksWhich", apart := false }
def BlocksWhichSaid : Prop := blocksWhichRow.holds Try.pinned (OpenSpec.ofChange blocksWhichSpec)

/-- ITS FALSE NEIGHBOUR: 'it returns false'. Refute it at one input. -/
def blocksWhichWrong : ChangeSpec := { name := "blocksWhich", fn := fun _ => fun
  | [d1, d2, d3] => { results := [.lit (.bool false)], args := [d1, d2, d3] }
  | _ => none }
def BlocksWhichWrongFalsely : Prop := blocksWhichRow.holds Try.pinned (OpenSpec.ofChange blocksWhichWrong)

/-- 'remoralaw05.BlocksSquare': WHATEVER THE INPUT: true; the input reads as it did. -/
def blocksSquareSpec : ChangeSpec := { name := "blocksSquare", fn := fun _ => fun
  | [d] => { results := [.lit (.bool true)], args := [d] }
  | _ => none }
def blocksSquareRow : OpenClaim := { program := "ytciibhdodajjaaa", sum := "bcdc3640bc6f15b0234a553b2302902d1d608415e5b856c8e778b4423b0e4bdd", func := "remora/remoralaw05.BlocksSquare", spec := "blocksSquare", apart := false }
def BlocksSquareSaid : Prop := blocksSquareRow.holds Try.pinned (OpenSpec.ofChange blocksSquareSpec)

/-- ITS FALSE NEIGHBOUR: 'it returns false'. Refute it at one input. -/
def blocksSquareWrong : ChangeSpec := { name := "blocksSquare", fn := fun _ => fun
  | [d] => { results := [.lit (.bool false)], args := [d] }
  | _ => none }
def BlocksSquareWrongFalsely : Prop := blocksSquareRow.holds Try.pinned (OpenSpec.ofChange blocksSquareWrong)

/-- 'remoralaw05.BlocksEach': WHATEVER THE INPUT: true; the input reads as it did. -/
def blocksEachSpec : ChangeSpec := { name := "blocksEach", fn := fun _ => fun
  | [d1, d2, d3] => { results := [.lit (.bool true)], args := [d1, d2, d3] }
  | _ => none }
def blocksEachRow : OpenClaim := { program := "ytciibhdodajjaaa", sum := "bcdc3640bc6f15b0234a553b2302902d1d608415e5b856c8e778b4423b0e4bdd", func := "remora/remoralaw05.BlocksEach", spec := "blocksEach", unfollowed := true, recurses := true, apart := false }
def BlocksEachSaid : Prop := blocksEachRow.holds Try.pinned (OpenSpec.ofChange blocksEachSpec)

/-- ITS FALSE NEIGHBOUR: 'it returns false'. Refute it at one input. -/
def blocksEachWrong : ChangeSpec := { name := "blocksEach", fn := fun _ => fun
  | [d1, d2, d3] => { results := [.lit (.bool false)], args := [d1, d2, d3] }
  | _ => none }
def BlocksEachWrongFalsely : Prop := blocksEachRow.holds Try.pinned (OpenSpec.ofChange blocksEachWrong)

/-- 'remoralaw05.BlocksCut': WHATEVER THE INPUT: true; the input reads as it did. -/
def blocksCutSpec : ChangeSpec := { name := "blocksCut", fn := fun _ => fun
  | [d1, d2] => { results := [.lit (.bool true)], args := [d1, d2] }
  | _ => none }
def blocksCutRow : OpenClaim := { program := "ytciibhdodajjaaa", sum := "bcdc3640bc6f15b0234a553b2302902d1d608415e5b856c8e778b4423b0e4bdd", func := "remora/remoralaw05.BlocksCut", spec := "blocksCut", unfollowed := true, recurses := true, apart := false }
def BlocksCutSaid : Prop := blocksCutRow.holds Try.pinned (OpenSpec.ofChange blocksCutSpec)

/-- ITS FALSE NEIGHBOUR: 'it returns false'. Refute it at one input. -/
def blocksCutWrong : ChangeSpec := { name := "blocksCut", fn := fun _ => fun
  | [d1, d2] => { results := [.lit (.bool false)], args := [d1, d2] }
  | _ => none }
def BlocksCutWrongFalsely : Prop := blocksCutRow.holds Try.pinned (OpenSpec.ofChange blocksCutWrong)

/-- 'remoralaw05.BlocksWhole': WHATEVER THE INPUT: true; the input reads as it did. -/
def blocksWholeSpec : ChangeSpec := { name := "blocksWhole", fn := fun _ => fun
  | [d1, d2] => { results := [.lit (.bool true)], args := [d1, d2] }
  | _ => none }
def blocksWholeRow : OpenClaim := { program := "ytciibhdodajjaaa", sum := "bcdc3640bc6f15b0234a553b2302902d1d608415e5b856c8e778b4423b0e4bdd", func := "remora/remoralaw05.BlocksWhole", spec := "blocksWhole", unfollowed := true, recurses := true, apart := false }
def BlocksWholeSaid : Prop := blocksWholeRow.holds Try.pinned (OpenSpec.ofChange blocksWholeSpec)

/-- ITS FALSE NEIGHBOUR: 'it returns false'. Refute it at one input. -/
def blocksWholeWrong : ChangeSpec := { name := "blocksWhole", fn := fun _ => fun
  | [d1, d2] => { results := [.lit (.bool false)], args := [d1, d2] }
  | _ => none }
def BlocksWholeWrongFalsely : Prop := blocksWholeRow.holds Try.pinned (OpenSpec.ofChange blocksWholeWrong)

/- THE SECOND FORM. 'bulk': how many values and letters a reading holds, each counted each time it is reached (what is shared counts as often as it is met; a slice's spare places count too). A statement '..UptoSaid' is the law's where the arguments, and the package variables that the reading takes, are together of bulk at most 1048576: NARROWER than '..Said'. Prove '..Said' where nothing that the law and all that it calls make is longer than what came in: it says more and counts as full. Else prove '..UptoSaid'. A law counts once. -/
mutual
def uptoBulk {H : Type} : DataW H → Nat
  | .lit (.string bytes) => bytes.length + 1
  | .lit _ => 1
  | .nil => 1
  | .ptr d => uptoBulk d + 1
  | .slice elems spare => uptoBulkAll elems + uptoBulkAll spare + 1
  | .agg parts => uptoBulkAll parts + 1
  | .iface _ d => uptoBulk d + 1
  | .map entries => uptoBulkEntries entries + 1
  | .held _ => 1
def uptoBulkAll {H : Type} : List (DataW H) → Nat
  | [] => 0
  | d :: r => uptoBulk d + uptoBulkAll r
def uptoBulkEntries {H : Type} : List (Lit × DataW H) → Nat
  | [] => 0
  | x :: r => uptoBulkEntry x + uptoBulkEntries r
def uptoBulkEntry {H : Type} : Lit × DataW H → Nat
  | (.string bytes, d) => bytes.length + uptoBulk d + 1
  | (_, d) => uptoBulk d + 1
 end
def uptoSmall : (H : Type) → List (DataW H) → Bool := fun _ ds => decide (uptoBulkAll ds ≤ 1048576)
def OpenSpec.upto (s : _root_.Go.ChangeSpec) : _root_.Go.OpenSpec := { _root_.Go.OpenSpec.ofChange s with cond := some uptoSmall }

/-- 'remoralaw05.BlocksRight', WHERE WHAT IT READS IS OF BULK AT MOST 1048576: true; the input reads as it did. -/
def blocksRightUptoRow : OpenClaim := { program := "ytciibhdodajjaaa", sum := "bcdc3640bc6f15b0234a553b2302902d1d608415e5b856c8e778b4423b0e4bdd", func := "remora/remoralaw05.BlocksRight", spec := "blocksRight", apart := false, narrowed := true }
def BlocksRightUptoSaid : Prop := blocksRightUptoRow.holds Try.pinned (OpenSpec.upto blocksRightSpec)

/-- 'remoralaw05.BlocksRange', WHERE WHAT IT READS IS OF BULK AT MOST 1048576: true; the input reads as it did. -/
def blocksRangeUptoRow : OpenClaim := { program := "ytciibhdodajjaaa", sum := "bcdc3640bc6f15b0234a553b2302902d1d608415e5b856c8e778b4423b0e4bdd", func := "remora/remoralaw05.BlocksRange", spec := "blocksRange", apart := false, narrowed := true }
def BlocksRangeUptoSaid : Prop := blocksRangeUptoRow.holds Try.pinned (OpenSpec.upto blocksRangeSpec)

/-- 'remoralaw05.BlocksWhich', WHERE WHAT IT READS IS OF BULK AT MOST 1048576: true; the input reads as it did. -/
def blocksWhichUptoRow : OpenClaim := { program := "ytciibhdodajjaaa", sum := "bcdc3640bc6f15b0234a553b2302902d1d608415e5b856c8e778b4423b0e4bdd", func := "remora/remoralaw05.BlocksWhich", spec := "blocksWhich", apart := false, narrowed := true }
def BlocksWhichUptoSaid : Prop := blocksWhichUptoRow.holds Try.pinned (OpenSpec.upto blocksWhichSpec)

/-- 'remoralaw05.BlocksSquare', WHERE WHAT IT READS IS OF BULK AT MOST 1048576: true; the input reads as it did. -/
def blocksSquareUptoRow : OpenClaim := { program := "ytciibhdodajjaaa", sum := "bcdc3640bc6f15b0234a553b2302902d1d608415e5b856c8e778b4423b0e4bdd", func := "remora/remoralaw05.BlocksSquare", spec := "blocksSquare", apart := false, narrowed := true }
def BlocksSquareUptoSaid : Prop := blocksSquareUptoRow.holds Try.pinned (OpenSpec.upto blocksSquareSpec)

/-- 'remoralaw05.BlocksEach', WHERE WHAT IT READS IS OF BULK AT MOST 1048576: true; the input reads as it did. -/
def blocksEachUptoRow : OpenClaim := { program := "ytciibhdodajjaaa", sum := "bcdc3640bc6f15b0234a553b2302902d1d608415e5b856c8e778b4423b0e4bdd", func := "remora/remoralaw05.BlocksEach", spec := "blocksEach", unfollowed := true, recurses := true, apart := false, narrowed := true }
def BlocksEachUptoSaid : Prop := blocksEachUptoRow.holds Try.pinned (OpenSpec.upto blocksEachSpec)

/-- 'remoralaw05.BlocksCut', WHERE WHAT IT READS IS OF BULK AT MOST 1048576: true; the input reads as it did. -/
def blocksCutUptoRow : OpenClaim := { program := "ytciibhdodajjaaa", sum := "bcdc3640bc6f15b0234a553b2302902d1d608415e5b856c8e778b4423b0e4bdd", func := "remora/remoralaw05.BlocksCut", spec := "blocksCut", unfollowed := true, recurses := true, apart := false, narrowed := true }
def BlocksCutUptoSaid : Prop := blocksCutUptoRow.holds Try.pinned (OpenSpec.upto blocksCutSpec)

/-- 'remoralaw05.BlocksWhole', WHERE WHAT IT READS IS OF BULK AT MOST 1048576: true; the input reads as it did. -/
def blocksWholeUptoRow : OpenClaim := { program := "ytciibhdodajjaaa", sum := "bcdc3640bc6f15b0234a553b2302902d1d608415e5b856c8e778b4423b0e4bdd", func := "remora/remoralaw05.BlocksWhole", spec := "blocksWhole", unfollowed := true, recurses := true, apart := false, narrowed := true }
def BlocksWholeUptoSaid : Prop := blocksWholeUptoRow.holds Try.pinned (OpenSpec.upto blocksWholeSpec)

end Rows
end Go.Proofs.Ytciibhdodajjaaa
