/-
  DERIVED. GIVEN WITH THE SEED: THE CARDS: each row of YtjhgeppjpofjpaaDoorRows.lean that lists a variable, with what it lists TIED to the program's text (the seventh form; the later family's looks); each row that meets fmt, with fmt's text TOLD by the authors' own Lean function (tested against real Go, not proved from fmt's source: count such statements apart). THE CARD IS WHAT COUNTS. Prove the row's statement (the work); the ties are given (YtjhgeppjpofjpaaDoorTie.lean); close each card by the builder's one call (the guide's Derived/Test/ToyasCard.lean, 'card_holds'). Laid BY PROGRAM, IN A SANDBOX (cutbox-door.mjs). By AI agents, Wed Nov 11 2026. No macro, syntax, notation, axiom, sorry.
-/
import Derived.Test.YtjhgeppjpofjpaaDoorRows
import GoSem.ClaimSeven
namespace Go.Proofs.YtjhgeppjpofjpaaDoor
namespace Rows

/-- THE TIED CARD OF 'remoralaw06.SigOf'. -/
def sigOfCard : Claim7 := { stood := { row := sigOfRow, standIns := [], harness := (true, "da55afbea98e5147bce023d713bea481fb370c16e0ea97e30293bad4cbb1faf2"), looks := false }, kinds := [], alts := [], laidByText := true, laidKinds := [.data, .data], laidTests := true, laidLooks := .later }
def SigOfCardSaid : Prop := Claim7.holds Tryd.pinned (.plain (OpenSpec.ofChange sigOfSpec)) sigOfCard

/-- THE TIED CARD OF 'remoralaw06.SigFits'. -/
def sigFitsCard : Claim7 := { stood := { row := sigFitsRow, standIns := [], harness := (true, "da55afbea98e5147bce023d713bea481fb370c16e0ea97e30293bad4cbb1faf2"), looks := false }, kinds := [], alts := [], laidByText := true, laidKinds := [.data, .data], laidTests := true, laidLooks := .later }
def SigFitsCardSaid : Prop := Claim7.holds Tryd.pinned (.plain (OpenSpec.ofChange sigFitsSpec)) sigFitsCard

/-- THE TIED CARD OF 'remoralaw06.SigMays'. -/
def sigMaysCard : Claim7 := { stood := { row := sigMaysRow, standIns := [], harness := (true, "da55afbea98e5147bce023d713bea481fb370c16e0ea97e30293bad4cbb1faf2"), looks := false }, kinds := [], alts := [], laidByText := true, laidKinds := [.data], laidTests := true, laidLooks := .later }
def SigMaysCardSaid : Prop := Claim7.holds Tryd.pinned (.plain (OpenSpec.ofChange sigMaysSpec)) sigMaysCard

/-- THE TIED CARD OF 'remoralaw06.SigParts'. -/
def sigPartsCard : Claim7 := { stood := { row := sigPartsRow, standIns := [], harness := (true, "da55afbea98e5147bce023d713bea481fb370c16e0ea97e30293bad4cbb1faf2"), looks := false }, kinds := [], alts := [], laidByText := true, laidKinds := [.data], laidTests := true, laidLooks := .later }
def SigPartsCardSaid : Prop := Claim7.holds Tryd.pinned (.plain (OpenSpec.ofChange sigPartsSpec)) sigPartsCard

/-- THE TIED CARD OF 'remoralaw06.SigHead'. -/
def sigHeadCard : Claim7 := { stood := { row := sigHeadRow, standIns := [], harness := (true, "da55afbea98e5147bce023d713bea481fb370c16e0ea97e30293bad4cbb1faf2"), looks := false }, kinds := [], alts := [], laidByText := true, laidKinds := [.data], laidTests := true, laidLooks := .later }
def SigHeadCardSaid : Prop := Claim7.holds Tryd.pinned (.plain (OpenSpec.ofChange sigHeadSpec)) sigHeadCard

/-- THE TIED CARD OF 'remoralaw06.SigReads'. -/
def sigReadsCard : Claim7 := { stood := { row := sigReadsRow, standIns := [], harness := (true, "da55afbea98e5147bce023d713bea481fb370c16e0ea97e30293bad4cbb1faf2"), looks := false }, kinds := [], alts := [], laidByText := true, laidKinds := [.data], laidTests := true, laidLooks := .later }
def SigReadsCardSaid : Prop := Claim7.holds Tryd.pinned (.plain (OpenSpec.ofChange sigReadsSpec)) sigReadsCard

/-- THE TIED CARD OF 'remoralaw06.SigBack'. -/
def sigBackCard : Claim7 := { stood := { row := sigBackRow, standIns := [], harness := (true, "da55afbea98e5147bce023d713bea481fb370c16e0ea97e30293bad4cbb1faf2"), looks := false }, kinds := [], alts := [], laidByText := true, laidKinds := [.data], laidTests := true, laidLooks := .later }
def SigBackCardSaid : Prop := Claim7.holds Tryd.pinned (.plain (OpenSpec.ofChange sigBackSpec)) sigBackCard

/-- THE SECOND FORM's CARD OF 'remoralaw06.SigOf'. -/
def sigOfUptoCard : Claim7 := { stood := { row := sigOfUptoRow, standIns := [], harness := (true, "da55afbea98e5147bce023d713bea481fb370c16e0ea97e30293bad4cbb1faf2"), looks := false }, kinds := [], alts := [], laidByText := true, laidKinds := [.data, .data], laidTests := true, laidLooks := .later }
def SigOfUptoCardSaid : Prop := Claim7.holds Tryd.pinned (.plain (OpenSpec.upto sigOfSpec)) sigOfUptoCard

/-- THE SECOND FORM's CARD OF 'remoralaw06.SigFits'. -/
def sigFitsUptoCard : Claim7 := { stood := { row := sigFitsUptoRow, standIns := [], harness := (true, "da55afbea98e5147bce023d713bea481fb370c16e0ea97e30293bad4cbb1faf2"), looks := false }, kinds := [], alts := [], laidByText := true, laidKinds := [.data, .data], laidTests := true, laidLooks := .later }
def SigFitsUptoCardSaid : Prop := Claim7.holds Tryd.pinned (.plain (OpenSpec.upto sigFitsSpec)) sigFitsUptoCard

/-- THE SECOND FORM's CARD OF 'remoralaw06.SigMays'. -/
def sigMaysUptoCard : Claim7 := { stood := { row := sigMaysUptoRow, standIns := [], harness := (true, "da55afbea98e5147bce023d713bea481fb370c16e0ea97e30293bad4cbb1faf2"), looks := false }, kinds := [], alts := [], laidByText := true, laidKinds := [.data], laidTests := true, laidLooks := .later }
def SigMaysUptoCardSaid : Prop := Claim7.holds Tryd.pinned (.plain (OpenSpec.upto sigMaysSpec)) sigMaysUptoCard

/-- THE SECOND FORM's CARD OF 'remoralaw06.SigParts'. -/
def sigPartsUptoCard : Claim7 := { stood := { row := sigPartsUptoRow, standIns := [], harness := (true, "da55afbea98e5147bce023d713bea481fb370c16e0ea97e30293bad4cbb1faf2"), looks := false }, kinds := [], alts := [], laidByText := true, laidKinds := [.data], laidTests := true, laidLooks := .later }
def SigPartsUptoCardSaid : Prop := Claim7.holds Tryd.pinned (.plain (OpenSpec.upto sigPartsSpec)) sigPartsUptoCard

/-- THE SECOND FORM's CARD OF 'remoralaw06.SigHead'. -/
def sigHeadUptoCard : Claim7 := { stood := { row := sigHeadUptoRow, standIns := [], harness := (true, "da55afbea98e5147bce023d713bea481fb370c16e0ea97e30293bad4cbb1faf2"), looks := false }, kinds := [], alts := [], laidByText := true, laidKinds := [.data], laidTests := true, laidLooks := .later }
def SigHeadUptoCardSaid : Prop := Claim7.holds Tryd.pinned (.plain (OpenSpec.upto sigHeadSpec)) sigHeadUptoCard

/-- THE SECOND FORM's CARD OF 'remoralaw06.SigReads'. -/
def sigReadsUptoCard : Claim7 := { stood := { row := sigReadsUptoRow, standIns := [], harness := (true, "da55afbea98e5147bce023d713bea481fb370c16e0ea97e30293bad4cbb1faf2"), looks := false }, kinds := [], alts := [], laidByText := true, laidKinds := [.data], laidTests := true, laidLooks := .later }
def SigReadsUptoCardSaid : Prop := Claim7.holds Tryd.pinned (.plain (OpenSpec.upto sigReadsSpec)) sigReadsUptoCard

/-- THE SECOND FORM's CARD OF 'remoralaw06.SigBack'. -/
def sigBackUptoCard : Claim7 := { stood := { row := sigBackUptoRow, standIns := [], harness := (true, "da55afbea98e5147bce023d713bea481fb370c16e0ea97e30293bad4cbb1faf2"), looks := false }, kinds := [], alts := [], laidByText := true, laidKinds := [.data], laidTests := true, laidLooks := .later }
def SigBackUptoCardSaid : Prop := Claim7.holds Tryd.pinned (.plain (OpenSpec.upto sigBackSpec)) sigBackUptoCard
end Rows
end Go.Proofs.YtjhgeppjpofjpaaDoor
