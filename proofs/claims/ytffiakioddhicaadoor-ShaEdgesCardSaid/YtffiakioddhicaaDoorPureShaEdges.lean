/- The plain law of ShaEdges: what the printed functions compute answers true, for all arguments within the bounds of the row. -/
import Derived.Test.YtffiakioddhicaaDoorPShaEdgesx7
namespace Go.Proofs.YtffiakioddhicaaDoor.Pure
open Go.RowKit Go.Proofs.YtffiakioddhicaaDoor.PShaEdges Go.Proofs.YtffiakioddhicaaDoorW.PrintWords Go.Proofs.YtffiakioddhicaaDoorW.PrintLast
set_option linter.unusedVariables false
theorem ShaEdges : remoralaw03_ShaEdges.Pure := by
  intro a0 a1 a2 h0 h1 h2
  unfold remoralaw03_ShaEdges.f
  rw [if_pos (byte_wf h0)]
end Go.Proofs.YtffiakioddhicaaDoor.Pure
