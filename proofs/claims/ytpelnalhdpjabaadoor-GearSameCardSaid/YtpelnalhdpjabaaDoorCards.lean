/-
  DERIVED. GIVEN WITH THE SEED: THE CARDS: each row of YtpelnalhdpjabaaDoorRows.lean that lists a variable, with what it lists TIED to the program's text (the seventh form; the later family's looks); each row that meets fmt, with fmt's text TOLD by the authors' own Lean function (tested against real Go, not proved from fmt's source: count such statements apart). THE CARD IS WHAT COUNTS. Prove the row's statement (the work); the ties are given (YtpelnalhdpjabaaDoorTie.lean); close each card by the builder's one call (the guide's Derived/Test/ToyasCard.lean, 'card_holds'). Laid BY PROGRAM, IN A SANDBOX (cutbox-door.mjs). By AI agents, Wed Nov 11 2026. No macro, syntax, notation, axiom, sorry.
-/
import Derived.Test.YtpelnalhdpjabaaDoorRows
import GoSem.ClaimSeven
namespace Go.Proofs.YtpelnalhdpjabaaDoor
namespace Rows

/-- THE TIED CARD OF 'remoralaw11.GearTable'. -/
def gearTableCard : Claim7 := { stood := { row := gearTableRow, standIns := [], harness := (true, "17feaed5bb5c4912873e64dc72ef8d5e2756065bb334fac99405ead9a0b766d9"), looks := false }, kinds := [], alts := [], laidByText := true, laidKinds := [.data], laidTests := true, laidLooks := .later }
def GearTableCardSaid : Prop := Claim7.holds Tryd.pinned (.plain (OpenSpec.ofChange gearTableSpec)) gearTableCard

/-- THE TIED CARD OF 'remoralaw11.GearNext'. -/
def gearNextCard : Claim7 := { stood := { row := gearNextRow, standIns := [], harness := (true, "17feaed5bb5c4912873e64dc72ef8d5e2756065bb334fac99405ead9a0b766d9"), looks := false }, kinds := [], alts := [], laidByText := true, laidKinds := [.data], laidTests := true, laidLooks := .later }
def GearNextCardSaid : Prop := Claim7.holds Tryd.pinned (.plain (OpenSpec.ofChange gearNextSpec)) gearNextCard

/-- THE TIED CARD OF 'remoralaw11.GearSame'. -/
def gearSameCard : Claim7 := { stood := { row := gearSameRow, standIns := [], harness := (true, "17feaed5bb5c4912873e64dc72ef8d5e2756065bb334fac99405ead9a0b766d9"), looks := false }, kinds := [], alts := [], laidByText := true, laidKinds := [.data], laidTests := true, laidLooks := .later }
def GearSameCardSaid : Prop := Claim7.holds Tryd.pinned (.plain (OpenSpec.ofChange gearSameSpec)) gearSameCard

/-- THE TIED CARD OF 'remoralaw11.GearLast'. -/
def gearLastCard : Claim7 := { stood := { row := gearLastRow, standIns := [], harness := (true, "17feaed5bb5c4912873e64dc72ef8d5e2756065bb334fac99405ead9a0b766d9"), looks := false }, kinds := [], alts := [], laidByText := true, laidKinds := [.data], laidTests := true, laidLooks := .later }
def GearLastCardSaid : Prop := Claim7.holds Tryd.pinned (.plain (OpenSpec.ofChange gearLastSpec)) gearLastCard

/-- THE TIED CARD OF 'remoralaw11.GearCuts'. -/
def gearCutsCard : Claim7 := { stood := { row := gearCutsRow, standIns := [], harness := (true, "17feaed5bb5c4912873e64dc72ef8d5e2756065bb334fac99405ead9a0b766d9"), looks := false }, kinds := [], alts := [], laidByText := true, laidKinds := [.data], laidTests := true, laidLooks := .later }
def GearCutsCardSaid : Prop := Claim7.holds Tryd.pinned (.plain (OpenSpec.ofChange gearCutsSpec)) gearCutsCard

/-- THE TIED CARD OF 'remoralaw11.GearLong'. -/
def gearLongCard : Claim7 := { stood := { row := gearLongRow, standIns := [], harness := (true, "17feaed5bb5c4912873e64dc72ef8d5e2756065bb334fac99405ead9a0b766d9"), looks := false }, kinds := [], alts := [], laidByText := true, laidKinds := [.data], laidTests := true, laidLooks := .later }
def GearLongCardSaid : Prop := Claim7.holds Tryd.pinned (.plain (OpenSpec.ofChange gearLongSpec)) gearLongCard

/-- THE TIED CARD OF 'remoralaw11.GearWhole'. -/
def gearWholeCard : Claim7 := { stood := { row := gearWholeRow, standIns := [], harness := (true, "17feaed5bb5c4912873e64dc72ef8d5e2756065bb334fac99405ead9a0b766d9"), looks := false }, kinds := [], alts := [], laidByText := true, laidKinds := [.data], laidTests := true, laidLooks := .later }
def GearWholeCardSaid : Prop := Claim7.holds Tryd.pinned (.plain (OpenSpec.ofChange gearWholeSpec)) gearWholeCard

/-- THE SECOND FORM's CARD OF 'remoralaw11.GearTable'. -/
def gearTableUptoCard : Claim7 := { stood := { row := gearTableUptoRow, standIns := [], harness := (true, "17feaed5bb5c4912873e64dc72ef8d5e2756065bb334fac99405ead9a0b766d9"), looks := false }, kinds := [], alts := [], laidByText := true, laidKinds := [.data], laidTests := true, laidLooks := .later }
def GearTableUptoCardSaid : Prop := Claim7.holds Tryd.pinned (.plain (OpenSpec.upto gearTableSpec)) gearTableUptoCard

/-- THE SECOND FORM's CARD OF 'remoralaw11.GearNext'. -/
def gearNextUptoCard : Claim7 := { stood := { row := gearNextUptoRow, standIns := [], harness := (true, "17feaed5bb5c4912873e64dc72ef8d5e2756065bb334fac99405ead9a0b766d9"), looks := false }, kinds := [], alts := [], laidByText := true, laidKinds := [.data], laidTests := true, laidLooks := .later }
def GearNextUptoCardSaid : Prop := Claim7.holds Tryd.pinned (.plain (OpenSpec.upto gearNextSpec)) gearNextUptoCard

/-- THE SECOND FORM's CARD OF 'remoralaw11.GearSame'. -/
def gearSameUptoCard : Claim7 := { stood := { row := gearSameUptoRow, standIns := [], harness := (true, "17feaed5bb5c4912873e64dc72ef8d5e2756065bb334fac99405ead9a0b766d9"), looks := false }, kinds := [], alts := [], laidByText := true, laidKinds := [.data], laidTests := true, laidLooks := .later }
def GearSameUptoCardSaid : Prop := Claim7.holds Tryd.pinned (.plain (OpenSpec.upto gearSameSpec)) gearSameUptoCard

/-- THE SECOND FORM's CARD OF 'remoralaw11.GearLast'. -/
def gearLastUptoCard : Claim7 := { stood := { row := gearLastUptoRow, standIns := [], harness := (true, "17feaed5bb5c4912873e64dc72ef8d5e2756065bb334fac99405ead9a0b766d9"), looks := false }, kinds := [], alts := [], laidByText := true, laidKinds := [.data], laidTests := true, laidLooks := .later }
def GearLastUptoCardSaid : Prop := Claim7.holds Tryd.pinned (.plain (OpenSpec.upto gearLastSpec)) gearLastUptoCard

/-- THE SECOND FORM's CARD OF 'remoralaw11.GearCuts'. -/
def gearCutsUptoCard : Claim7 := { stood := { row := gearCutsUptoRow, standIns := [], harness := (true, "17feaed5bb5c4912873e64dc72ef8d5e2756065bb334fac99405ead9a0b766d9"), looks := false }, kinds := [], alts := [], laidByText := true, laidKinds := [.data], laidTests := true, laidLooks := .later }
def GearCutsUptoCardSaid : Prop := Claim7.holds Tryd.pinned (.plain (OpenSpec.upto gearCutsSpec)) gearCutsUptoCard

/-- THE SECOND FORM's CARD OF 'remoralaw11.GearLong'. -/
def gearLongUptoCard : Claim7 := { stood := { row := gearLongUptoRow, standIns := [], harness := (true, "17feaed5bb5c4912873e64dc72ef8d5e2756065bb334fac99405ead9a0b766d9"), looks := false }, kinds := [], alts := [], laidByText := true, laidKinds := [.data], laidTests := true, laidLooks := .later }
def GearLongUptoCardSaid : Prop := Claim7.holds Tryd.pinned (.plain (OpenSpec.upto gearLongSpec)) gearLongUptoCard

/-- THE SECOND FORM's CARD OF 'remoralaw11.GearWhole'. -/
def gearWholeUptoCard : Claim7 := { stood := { row := gearWholeUptoRow, standIns := [], harness := (true, "17feaed5bb5c4912873e64dc72ef8d5e2756065bb334fac99405ead9a0b766d9"), looks := false }, kinds := [], alts := [], laidByText := true, laidKinds := [.data], laidTests := true, laidLooks := .later }
def GearWholeUptoCardSaid : Prop := Claim7.holds Tryd.pinned (.plain (OpenSpec.upto gearWholeSpec)) gearWholeUptoCard
end Rows
end Go.Proofs.YtpelnalhdpjabaaDoor
