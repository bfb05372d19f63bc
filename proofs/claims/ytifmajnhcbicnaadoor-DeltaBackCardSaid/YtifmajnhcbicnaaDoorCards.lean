/-
  DERIVED. GIVEN WITH THE SEED: THE CARDS: each row of YtifmajnhcbicnaaDoorRows.lean that lists a variable, with what it lists TIED to the program's text (the seventh form; the later family's looks); each row that meets fmt, with fmt's text TOLD by the authors' own Lean function (tested against real Go, not proved from fmt's source: count such statements apart). THE CARD IS WHAT COUNTS. Prove the row's statement (the work); the ties are given (YtifmajnhcbicnaaDoorTie.lean); close each card by the builder's one call (the guide's Derived/Test/ToyasCard.lean, 'card_holds'). Laid BY PROGRAM, IN A SANDBOX (cutbox-door.mjs). By AI agents, Wed Nov 11 2026. No macro, syntax, notation, axiom, sorry.
-/
import Derived.Test.YtifmajnhcbicnaaDoorRows
import GoSem.ClaimSeven
namespace Go.Proofs.YtifmajnhcbicnaaDoor
namespace Rows

/-- THE TIED CARD OF 'remoralaw08.DeltaBytes'. -/
def deltaBytesCard : Claim7 := { stood := { row := deltaBytesRow, standIns := [], harness := (true, "850772652d43c2aca5bb4913b613bb38c1f7e9858535441dc3d31032a61b1545"), looks := false }, kinds := [], alts := [], laidByText := true, laidKinds := [.data], laidTests := true, laidLooks := .later }
def DeltaBytesCardSaid : Prop := Claim7.holds Tryd.pinned (.plain (OpenSpec.ofChange deltaBytesSpec)) deltaBytesCard

/-- THE TIED CARD OF 'remoralaw08.DeltaReads'. -/
def deltaReadsCard : Claim7 := { stood := { row := deltaReadsRow, standIns := [], harness := (true, "850772652d43c2aca5bb4913b613bb38c1f7e9858535441dc3d31032a61b1545"), looks := false }, kinds := [], alts := [], laidByText := true, laidKinds := [.data], laidTests := true, laidLooks := .later }
def DeltaReadsCardSaid : Prop := Claim7.holds Tryd.pinned (.plain (OpenSpec.ofChange deltaReadsSpec)) deltaReadsCard

/-- THE TIED CARD OF 'remoralaw08.DeltaBack'. -/
def deltaBackCard : Claim7 := { stood := { row := deltaBackRow, standIns := [], harness := (true, "850772652d43c2aca5bb4913b613bb38c1f7e9858535441dc3d31032a61b1545"), looks := false }, kinds := [], alts := [], laidByText := true, laidKinds := [.data], laidTests := true, laidLooks := .later }
def DeltaBackCardSaid : Prop := Claim7.holds Tryd.pinned (.plain (OpenSpec.ofChange deltaBackSpec)) deltaBackCard

/-- THE SECOND FORM's CARD OF 'remoralaw08.DeltaBytes'. -/
def deltaBytesUptoCard : Claim7 := { stood := { row := deltaBytesUptoRow, standIns := [], harness := (true, "850772652d43c2aca5bb4913b613bb38c1f7e9858535441dc3d31032a61b1545"), looks := false }, kinds := [], alts := [], laidByText := true, laidKinds := [.data], laidTests := true, laidLooks := .later }
def DeltaBytesUptoCardSaid : Prop := Claim7.holds Tryd.pinned (.plain (OpenSpec.upto deltaBytesSpec)) deltaBytesUptoCard

/-- THE SECOND FORM's CARD OF 'remoralaw08.DeltaReads'. -/
def deltaReadsUptoCard : Claim7 := { stood := { row := deltaReadsUptoRow, standIns := [], harness := (true, "850772652d43c2aca5bb4913b613bb38c1f7e9858535441dc3d31032a61b1545"), looks := false }, kinds := [], alts := [], laidByText := true, laidKinds := [.data], laidTests := true, laidLooks := .later }
def DeltaReadsUptoCardSaid : Prop := Claim7.holds Tryd.pinned (.plain (OpenSpec.upto deltaReadsSpec)) deltaReadsUptoCard

/-- THE SECOND FORM's CARD OF 'remoralaw08.DeltaBack'. -/
def deltaBackUptoCard : Claim7 := { stood := { row := deltaBackUptoRow, standIns := [], harness := (true, "850772652d43c2aca5bb4913b613bb38c1f7e9858535441dc3d31032a61b1545"), looks := false }, kinds := [], alts := [], laidByText := true, laidKinds := [.data], laidTests := true, laidLooks := .later }
def DeltaBackUptoCardSaid : Prop := Claim7.holds Tryd.pinned (.plain (OpenSpec.upto deltaBackSpec)) deltaBackUptoCard
end Rows
end Go.Proofs.YtifmajnhcbicnaaDoor
