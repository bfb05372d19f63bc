/-
  DERIVED. GIVEN WITH THE SEED: THE CARDS: each row of YtffiakioddhicaaDoorRows.lean that lists a variable, with what it lists TIED to the program's text (the seventh form; the later family's looks); each row that meets fmt, with fmt's text TOLD by the authors' own Lean function (tested against real Go, not proved from fmt's source: count such statements apart). THE CARD IS WHAT COUNTS. Prove the row's statement (the work); the ties are given (YtffiakioddhicaaDoorTie.lean); close each card by the builder's one call (the guide's Derived/Test/ToyasCard.lean, 'card_holds'). Laid BY PROGRAM, IN A SANDBOX (cutbox-door.mjs). By AI agents, Wed Nov 11 2026. No macro, syntax, notation, axiom, sorry.
-/
import Derived.Test.YtffiakioddhicaaDoorRows
import GoSem.ClaimSeven
namespace Go.Proofs.YtffiakioddhicaaDoor
namespace Rows

/-- THE TIED CARD OF 'remoralaw03.ShaEdges'. -/
def shaEdgesCard : Claim7 := { stood := { row := shaEdgesRow, standIns := [], harness := (true, "97c5774facc42a214c79e9f17998ddb80a1c3b3a89ed7f690b55b47dd99be5b9"), looks := false }, kinds := [], alts := [], laidByText := true, laidKinds := [.data], laidTests := true, laidLooks := .later }
def ShaEdgesCardSaid : Prop := Claim7.holds Tryd.pinned (.plain (OpenSpec.ofChange shaEdgesSpec)) shaEdgesCard

/-- THE TIED CARD OF 'remoralaw03.ShaSums'. -/
def shaSumsCard : Claim7 := { stood := { row := shaSumsRow, standIns := [], harness := (true, "97c5774facc42a214c79e9f17998ddb80a1c3b3a89ed7f690b55b47dd99be5b9"), looks := false }, kinds := [], alts := [], laidByText := true, laidKinds := [.data], laidTests := true, laidLooks := .later }
def ShaSumsCardSaid : Prop := Claim7.holds Tryd.pinned (.plain (OpenSpec.ofChange shaSumsSpec)) shaSumsCard

/-- THE TIED CARD OF 'remoralaw03.ShaPieces'. -/
def shaPiecesCard : Claim7 := { stood := { row := shaPiecesRow, standIns := [], harness := (true, "97c5774facc42a214c79e9f17998ddb80a1c3b3a89ed7f690b55b47dd99be5b9"), looks := false }, kinds := [], alts := [], laidByText := true, laidKinds := [.data], laidTests := true, laidLooks := .later }
def ShaPiecesCardSaid : Prop := Claim7.holds Tryd.pinned (.plain (OpenSpec.ofChange shaPiecesSpec)) shaPiecesCard

/-- THE TIED CARD OF 'remoralaw03.ShaCopies'. -/
def shaCopiesCard : Claim7 := { stood := { row := shaCopiesRow, standIns := [], harness := (true, "97c5774facc42a214c79e9f17998ddb80a1c3b3a89ed7f690b55b47dd99be5b9"), looks := false }, kinds := [], alts := [], laidByText := true, laidKinds := [.data], laidTests := true, laidLooks := .later }
def ShaCopiesCardSaid : Prop := Claim7.holds Tryd.pinned (.plain (OpenSpec.ofChange shaCopiesSpec)) shaCopiesCard

/-- THE SECOND FORM's CARD OF 'remoralaw03.ShaEdges'. -/
def shaEdgesUptoCard : Claim7 := { stood := { row := shaEdgesUptoRow, standIns := [], harness := (true, "97c5774facc42a214c79e9f17998ddb80a1c3b3a89ed7f690b55b47dd99be5b9"), looks := false }, kinds := [], alts := [], laidByText := true, laidKinds := [.data], laidTests := true, laidLooks := .later }
def ShaEdgesUptoCardSaid : Prop := Claim7.holds Tryd.pinned (.plain (OpenSpec.upto shaEdgesSpec)) shaEdgesUptoCard

/-- THE SECOND FORM's CARD OF 'remoralaw03.ShaSums'. -/
def shaSumsUptoCard : Claim7 := { stood := { row := shaSumsUptoRow, standIns := [], harness := (true, "97c5774facc42a214c79e9f17998ddb80a1c3b3a89ed7f690b55b47dd99be5b9"), looks := false }, kinds := [], alts := [], laidByText := true, laidKinds := [.data], laidTests := true, laidLooks := .later }
def ShaSumsUptoCardSaid : Prop := Claim7.holds Tryd.pinned (.plain (OpenSpec.upto shaSumsSpec)) shaSumsUptoCard

/-- THE SECOND FORM's CARD OF 'remoralaw03.ShaPieces'. -/
def shaPiecesUptoCard : Claim7 := { stood := { row := shaPiecesUptoRow, standIns := [], harness := (true, "97c5774facc42a214c79e9f17998ddb80a1c3b3a89ed7f690b55b47dd99be5b9"), looks := false }, kinds := [], alts := [], laidByText := true, laidKinds := [.data], laidTests := true, laidLooks := .later }
def ShaPiecesUptoCardSaid : Prop := Claim7.holds Tryd.pinned (.plain (OpenSpec.upto shaPiecesSpec)) shaPiecesUptoCard

/-- THE SECOND FORM's CARD OF 'remoralaw03.ShaCopies'. -/
def shaCopiesUptoCard : Claim7 := { stood := { row := shaCopiesUptoRow, standIns := [], harness := (true, "97c5774facc42a214c79e9f17998ddb80a1c3b3a89ed7f690b55b47dd99be5b9"), looks := false }, kinds := [], alts := [], laidByText := true, laidKinds := [.data], laidTests := true, laidLooks := .later }
def ShaCopiesUptoCardSaid : Prop := Claim7.holds Tryd.pinned (.plain (OpenSpec.upto shaCopiesSpec)) shaCopiesUptoCard
end Rows
end Go.Proofs.YtffiakioddhicaaDoor
