/- The plain law of ShaCopies: what the printed functions compute answers true, for all arguments within the bounds of the row. -/
import Derived.Test.YtffiakioddhicaaDoorPShaCopiesx6
namespace Go.Proofs.YtffiakioddhicaaDoor.Pure
open Go.RowKit Go.Proofs.YtffiakioddhicaaDoor.PShaCopies Go.Proofs.YtffiakioddhicaaDoorW.PrintWords Go.Proofs.YtffiakioddhicaaDoorW.PrintLast
set_option linter.unusedVariables false
theorem ShaCopies : remoralaw03_ShaCopies.Pure := by
  intro l0 l1 l2 h0 _ h1 _ h2 _
  unfold remoralaw03_ShaCopies.f
  rw [if_pos]
  rw [List.all_eq_true]
  intro x hx
  refine decide_eq_true ?_
  rcases List.mem_append.1 hx with hx | hx
  · rcases List.mem_append.1 hx with hx | hx
    · exact byte_wf (h0.2 x hx)
    · exact byte_wf (h1.2 x hx)
  · exact byte_wf (h2.2 x hx)
end Go.Proofs.YtffiakioddhicaaDoor.Pure
