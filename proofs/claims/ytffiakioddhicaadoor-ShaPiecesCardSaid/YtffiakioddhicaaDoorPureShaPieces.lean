/- The plain law of ShaPieces: what the printed functions compute answers true, for all arguments within the bounds of the row. -/
import Derived.Test.YtffiakioddhicaaDoorPShaPiecesx7
namespace Go.Proofs.YtffiakioddhicaaDoor.Pure
open Go.RowKit Go.Proofs.YtffiakioddhicaaDoor.PShaPieces Go.Proofs.YtffiakioddhicaaDoorW.PrintWords Go.Proofs.YtffiakioddhicaaDoorW.PrintLast
set_option linter.unusedVariables false
theorem ShaPieces : remoralaw03_ShaPieces.Pure := by
  intro l0 h0 _
  unfold remoralaw03_ShaPieces.f
  rw [if_pos]
  rw [List.all_eq_true]
  intro l hl
  have h := h0.1.2 l hl
  rw [Bool.and_eq_true, List.all_eq_true]
  exact ⟨decide_eq_true (by omega), fun x hx => decide_eq_true (byte_wf (h.1.2 x hx))⟩
end Go.Proofs.YtffiakioddhicaaDoor.Pure
