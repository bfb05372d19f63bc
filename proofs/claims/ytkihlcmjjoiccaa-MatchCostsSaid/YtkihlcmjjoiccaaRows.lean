/-
  No cell of these rows narrows 'for every input' (looked for: loops, veiled, ifaces, maps, wideKeys, modest, calm, conditions, laid).
  DERIVED. THE GIVEN ROWS OF THIS SEAT. 4 by the template 'for every input the law returns true; each argument reads behind the call as it read before'; 0 by the template 'total and deterministic' (their statements: YtkihlcmjjoiccaaTotals.lean).
  GIVEN WITH THE SEED: the statements are not yours to turn. If you find one false, say at which input.
  Laid BY PROGRAM, IN A SANDBOX (cutbox-rows.mjs): the forced cells as the released guide's own fill.sh prints them over the translation 1ad79aa80a8f685a… (all of the seat's roots in one cut). By AI agents, Wed Nov 11 2026. No macro, syntax, notation, axiom, sorry.
-/
import Derived.Test.YtkihlcmjjoiccaaChecked
import GoSem.Claim
import GoSem.ClaimJoined
import GoSem.ClaimMapViews
import Derived.JoinedTies
import Derived.KernelRfl
namespace Go.Proofs.Ytkihlcmjjoiccaa
/- THE CELL 'sum', in the pinned program and in every row, IS THE sha256 OF THE DUMP (.gsa) THAT YtkihlcmjjoiccaaProg.lean LOADS. Nothing in Lean hashes anything: it is a label: what it is worth is what the hold of that sum in a sandbox is worth. -/
noncomputable def Try.pinned : Pinned := { name := "ytkihlcmjjoiccaa", sum := "1ad79aa80a8f685ae1fcc5b88c1927694c2a7b374bcad4ef8d6091eb4f453e1a", checked := Try.checked }
namespace Rows
def none {H : Type} : Left H := { results := [], args := [] }

/-- 'remoralaw09.MatchPieces': WHATEVER THE INPUT: true; the input reads as it did. -/
def matchPiecesSpec : ChangeSpec := { name := "matchPieces", fn := fun _ => fun
  | [d1, d2] => { results := [.lit (.bool true)], args := [d1, d2] }
  | _ => none }
def matchPiecesRow : OpenClaim := { program := "ytkihlcmjjoiccaa", sum := "1ad79aa80a8f685ae1fcc5b88c1927694c2a7b374bcad4ef8d6091eb4f453e1a", func := "remora/remoralaw09.MatchPieces", spec := "matchPieces", unfollowed := true, recurses := true, apart := false }
def MatchPiecesSaid : Prop := matchPiecesRow.holds Try.pinned (OpenSpec.ofChange matchPiecesSpec)

/-- ITS FALSE NEIGHBOUR: 'it returns false'. Refute it at one input. -/
def matchPiecesWrong : ChangeSpec := { name := "matchPieces", fn := fun _ => fun
  | [d1, d2] => { results := [.lit (.bool false)], args := [d1, d2] }
  | _ => none }
def MatchPiecesWrongFalsely : Prop := matchPiecesRow.holds Try.pinned (OpenSpec.ofChange matchPiecesWrong)

/-- 'remoralaw09.MatchLimits': WHATEVER THE INPUT: true; the input reads as it did. -/
def matchLimitsSpec : ChangeSpec := { name := "matchLimits", fn := fun _ => fun
  | [d1, d2] => { results := [.lit (.bool true)], args := [d1, d2] }
  | _ => none }
def matchLimitsRow : OpenClaim := { program := "ytkihlcmjjoiccaa", sum := "1ad79aa80a8f685ae1fcc5b88c1927694c2a7b374bcad4ef8d6091eb4f453e1a", func := "remora/remoralaw09.MatchLimits", spec := "matchLimits", unfollowed := true, recurses := true, apart := false }
def MatchLimitsSaid : Prop := matchLimitsRow.holds Try.pinned (OpenSpec.ofChange matchLimitsSpec)

/-- ITS FALSE NEIGHBOUR: 'it returns false'. Refute it at one input. -/
def matchLimitsWrong : ChangeSpec := { name := "matchLimits", fn := fun _ => fun
  | [d1, d2] => { results := [.lit (.bool false)], args := [d1, d2] }
  | _ => none }
def MatchLimitsWrongFalsely : Prop := matchLimitsRow.holds Try.pinned (OpenSpec.ofChange matchLimitsWrong)

/-- 'remoralaw09.MatchSame': WHATEVER THE INPUT: true; the input reads as it did. -/
def matchSameSpec : ChangeSpec := { name := "matchSame", fn := fun _ => fun
  | [d1, d2, d3] => { results := [.lit (.bool true)], args := [d1, d2, d3] }
  | _ => none }
def matchSameRow : OpenClaim := { program := "ytkihlcmjjoiccaa", sum := "1ad79aa80a8f685ae1fcc5b88c1927694c2a7b374bcad4ef8d6091eb4f453e1a", func := "remora/remoralaw09.MatchSame", spec := "matchSame", unfollowed := true, recurses := true, apart := false }
def MatchSameSaid : Prop := matchSameRow.holds Try.pinned (OpenSpec.ofChange matchSameSpec)

/-- ITS FALSE NEIGHBOUR: 'it returns false'. Refute it at one input. -/
def matchSameWrong : ChangeSpec := { name := "matchSame", fn := fun _ => fun
  | [d1, d2, d3] => { results := [.lit (.bool false)], args := [d1, d2, d3] }
  | _ => none }
def MatchSameWrongFalsely : Prop := matchSameRow.holds Try.pinned (OpenSpec.ofChange matchSameWrong)

/-- 'remoralaw09.MatchCosts': WHATEVER THE INPUT: true; the input reads as it did. -/
def matchCostsSpec : ChangeSpec := { name := "matchCosts", fn := fun _ => fun
  | [d1, d2] => { results := [.lit (.bool true)], args := [d1, d2] }
  | _ => none }
def matchCostsRow : OpenClaim := { program := "ytkihlcmjjoiccaa", sum := "1ad79aa80a8f685ae1fcc5b88c1927694c2a7b374bcad4ef8d6091eb4f453e1a", func := "remora/remoralaw09.MatchCosts", spec := "matchCosts", unfollowed := true, recurses := true, apart := false }
def MatchCostsSaid : Prop := matchCostsRow.holds Try.pinned (OpenSpec.ofChange matchCostsSpec)

/-- ITS FALSE NEIGHBOUR: 'it returns false'. Refute it at one input. -/
def matchCostsWrong : ChangeSpec := { name := "matchCosts", fn := fun _ => fun
  | [d1, d2] => { results := [.lit (.bool false)], args := [d1, d2] }
  | _ => none }
def MatchCostsWrongFalsely : Prop := matchCostsRow.holds Try.pinned (OpenSpec.ofChange matchCostsWrong)

/- THE SECOND FORM. 'bulk': how many values and letters a reading holds, each counted each time it is reached (what is shared counts as often as it is met; a slice's spare places count too). A statement '..UptoSaid' is the law's where the arguments, and the package variables that the reading takes, are together of bulk at most 1048576: NARROWER than '..Said'. Prove '..Said' where nothing that the law and all that it calls make is longer than what came in: it says more and counts as full. Else prove '..UptoSaid'. A law counts once. -/
mutual
def uptoBulk {H : Type} : DataW H → Nat
  | .lit (.string bytes) => bytes.length + 1
  | .lit _ => 1
  | .nil => 1
  | .ptr d => uptoBulk d + 1
  | .slice elems spare => uptoBulkAll elems + uptoBulkAll spare + 1
  | .agg parts => uptoBulkAll parts + 1
  | .iface _ d => uptoBulk d + 1
  | .map entries => uptoBulkEntries entries + 1
  | .held _ => 1
def uptoBulkAll {H : Type} : List (DataW H) → Nat
  | [] => 0
  | d :: r => uptoBulk d + uptoBulkAll r
def uptoBulkEntries {H : Type} : List (Lit × DataW H) → Nat
  | [] => 0
  | x :: r => uptoBulkEntry x + uptoBulkEntries r
def uptoBulkEntry {H : Type} : Lit × DataW H → Nat
  | (.string bytes, d) => bytes.length + uptoBulk d + 1
  | (_, d) => uptoBulk d + 1
 end
def uptoSmall : (H : Type) → List (DataW H) → Bool := fun _ ds => decide (uptoBulkAll ds ≤ 1048576)
def OpenSpec.upto (s : _root_.Go.ChangeSpec) : _root_.Go.OpenSpec := { _root_.Go.OpenSpec.ofChange s with cond := some uptoSmall }

/-- 'remoralaw09.MatchPieces', WHERE WHAT IT READS IS OF BULK AT MOST 1048576: true; the input reads as it did. -/
def matchPiecesUptoRow : OpenClaim := { program := "ytkihlcmjjoiccaa", sum := "1ad79aa80a8f685ae1fcc5b88c1927694c2a7b374bcad4ef8d6091eb4f453e1a", func := "remora/remoralaw09.MatchPieces", spec := "matchPieces", unfollowed := true, recurses := true, apart := false, narrowed := true }
def MatchPiecesUptoSaid : Prop := matchPiecesUptoRow.holds Try.pinned (OpenSpec.upto matchPiecesSpec)

/-- 'remoralaw09.MatchLimits', WHERE WHAT IT READS IS OF BULK AT MOST 1048576: true; the input reads as it did. -/
def matchLimitsUptoRow : OpenClaim := { program := "ytkihlcmjjoiccaa", sum := "1ad79aa80a8f685ae1fcc5b88c1927694c2a7b374bcad4ef8d6091eb4f453e1a", func := "remora/remoralaw09.MatchLimits", spec := "matchLimits", unfollowed := true, recurses := true, apart := false, narrowed := true }
def MatchLimitsUptoSaid : Prop := matchLimitsUptoRow.holds Try.pinned (OpenSpec.upto matchLimitsSpec)

/-- 'remoralaw09.MatchSame', WHERE WHAT IT READS IS OF BULK AT MOST 1048576: true; the input reads as it did. -/
def matchSameUptoRow : OpenClaim := { program := "ytkihlcmjjoiccaa", sum := "1ad79aa80a8f685ae1fcc5b88c1927694c2a7b374bcad4ef8d6091eb4f453e1a", func := "remora/remoralaw09.MatchSame", spec := "matchSame", unfollowed := true, recurses := true, apart := false, narrowed := true }
def MatchSameUptoSaid : Prop := matchSameUptoRow.holds Try.pinned (OpenSpec.upto matchSameSpec)

/-- 'remoralaw09.MatchCosts', WHERE WHAT IT READS IS OF BULK AT MOST 1048576: true; the input reads as it did. -/
def matchCostsUptoRow : OpenClaim := { program := "ytkihlcmjjoiccaa", sum := "1ad79aa80a8f685ae1fcc5b88c1927694c2a7b374bcad4ef8d6091eb4f453e1a", func := "remora/remoralaw09.MatchCosts", spec := "matchCosts", unfollowed := true, recurses := true, apart := false, narrowed := true }
def MatchCostsUptoSaid : Prop := matchCostsUptoRow.holds Try.pinned (OpenSpec.upto matchCostsSpec)

end Rows
end Go.Proofs.Ytkihlcmjjoiccaa
