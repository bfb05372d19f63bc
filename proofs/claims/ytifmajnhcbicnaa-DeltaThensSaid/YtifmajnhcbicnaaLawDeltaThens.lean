/- The row of the law DeltaThens, out of its plain statement and the walk. Conditions: none beyond the row's own. -/
import Derived.Test.YtifmajnhcbicnaaRows
import Derived.Test.YtifmajnhcbicnaaPDeltaThensx7
import Derived.Test.YtifmajnhcbicnaaPureDeltaThens
import Derived.Test.YtifmajnhcbicnaaOpen
import Derived.WalkKit
import Derived.ProofKit
import Derived.OpenShut
import Derived.ShutString
import Derived.ChangeOld
import Derived.Below
import Derived.SizedLaws
namespace Go.Proofs.Ytifmajnhcbicnaa.deltaThens
open Go.ChangeShapes Go.WideShapes Go.ChangeAt Go.RowKit Go.Proofs.Ytifmajnhcbicnaa.PDeltaThens Go.Proofs.Ytifmajnhcbicnaa.Opening Go.Proofs.YtifmajnhcbicnaaW.PrintWords
open Go.ChangeMaps (open_string shut_string)
set_option linter.unusedVariables false
theorem own : ownKnob Try.prog.godebug = none := by kernel_rfl
theorem laidOut : laidOutB Try.prog = true := by kernel_rfl
set_option maxRecDepth 100000 in
theorem lifted (os : Os) (started : os.Started) (H : Type) (enc : TypeId × Value → H) :
    ReturnsInHanded {} Try.checked os 8 .any (Rows.deltaThensSpec.pre6 enc Try.prog Try.f8 Rows.deltaThensRow.domain false) (Rows.deltaThensSpec.post enc Try.prog Try.f8 false true false false) := by
  refine returnsInHanded_of_change_sized (C := Try.checked) own started (by kernel_rfl) Try.func8
    (ChangeSpec.witness6 (enc := enc) (C := Try.checked) false ⟨#[], #[.slice none 0 0, .slice none 0 0], []⟩ 8 (by kernel_rfl) (by kernel_rfl) (by kernel_rfl) (by kernel_rfl)) ?_
  intro W base args ds gs before hval0 hW hcnd hsz0 _
  have hsz : (DataW.weightsEach Try.prog (Try.f8.params.toList ++ Rows.deltaThensSpec.plain.varTypes Try.prog) (ds ++ gs)).all (· ≤ reachBytes) = true := hsz0
  have hval : ∀ (j : Nat) t v, Try.f8.params[j]? = some t → args[j]? = some v → Value.okWide Try.prog W .any base t v := hval0
  have hW' := hW
  obtain ⟨p, q, hA0, hV, rfl, hfz, hnd⟩ := hW
  have hA : DataW.TrodAll enc Try.prog W 0 (fun _ => true) true Try.f8.params.toList args.toList ds p := hA0
  rw [Try.params8] at hA hval hsz
  obtain ⟨v0, vs0, d0, ds0, p0, q0, hargs, rfl, rfl, h0, r0⟩ := trodAll_cons hA
  obtain ⟨v1, vs1, d1, ds1, p1, q1, rfl, rfl, rfl, h1, r1⟩ := trodAll_cons r0
  obtain ⟨rfl, rfl, rfl⟩ := trodAll_nil r1
  obtain rfl : args = #[v0, v1] := by cases args; simp_all
  obtain ⟨rfl, rfl⟩ := trodVars_none hV
  have k0 := h0
  have lt0 : ∀ x ∈ p0, x.block < W.heap.size := by obtain ⟨m, hm⟩ := k0; exact DataW.trod_lt m _ _ _ hm
  obtain ⟨A0, c0, l0, rfl, hr0, hc0, ok0⟩ := opening_row (ok := (fun x0_ : List (S40) => (x0_.length ≤ maxLen ∧ ∀ q1_ ∈ x0_, ((Lit.int .i64 q1_.f0).wf = true ∧ ((Lit.int .i64 q1_.f1).wf = true ∧ (q1_.f2.length ≤ maxLen ∧ ∀ q2_ ∈ q1_.f2, (Lit.int .u8 q2_).wf = true)))))) Try.underlying22 (Opens.slice Try.underlying22 (Opens.struct Try.underlying40 (OpensF.cons (Opens.int Try.underlying3) rfl (by kernel_rfl) (OpensF.cons (Opens.int Try.underlying3) rfl (by kernel_rfl) (OpensF.one (Opens.slice Try.underlying31 (Opens.int Try.underlying5) (by kernel_rfl)) rfl (by kernel_rfl)))) (by kernel_rfl) (fun x_ : S40 => (x_.f0, x_.f1, x_.f2)) (fun y_ => ⟨y_.1, y_.2.1, y_.2.2⟩) (fun _ => rfl)) (by kernel_rfl)) (hval 0 22 v0 rfl rfl) h0
  have y0 : l0.length * 40 ≤ 140737488351232 := row_weight hsz (j := 0) (t := 22) rfl rfl Try.underlying22 (by kernel_rfl) k0
  have k1 := h1
  have lt1 : ∀ x ∈ p1, x.block < W.heap.size := by obtain ⟨m, hm⟩ := k1; exact DataW.trod_lt m _ _ _ hm
  obtain ⟨A1, c1, l1, rfl, hr1, hc1, ok1⟩ := opening_row (ok := (fun x0_ : List (S40) => (x0_.length ≤ maxLen ∧ ∀ q1_ ∈ x0_, ((Lit.int .i64 q1_.f0).wf = true ∧ ((Lit.int .i64 q1_.f1).wf = true ∧ (q1_.f2.length ≤ maxLen ∧ ∀ q2_ ∈ q1_.f2, (Lit.int .u8 q2_).wf = true)))))) Try.underlying22 (Opens.slice Try.underlying22 (Opens.struct Try.underlying40 (OpensF.cons (Opens.int Try.underlying3) rfl (by kernel_rfl) (OpensF.cons (Opens.int Try.underlying3) rfl (by kernel_rfl) (OpensF.one (Opens.slice Try.underlying31 (Opens.int Try.underlying5) (by kernel_rfl)) rfl (by kernel_rfl)))) (by kernel_rfl) (fun x_ : S40 => (x_.f0, x_.f1, x_.f2)) (fun y_ => ⟨y_.1, y_.2.1, y_.2.2⟩) (fun _ => rfl)) (by kernel_rfl)) (hval 1 22 v1 rfl rfl) h1
  have y1 : l1.length * 40 ≤ 140737488351232 := row_weight hsz (j := 1) (t := 22) rfl rfl Try.underlying22 (by kernel_rfl) k1
  clear hA0 hval0 hsz0 hsz
  obtain ⟨k_, h_⟩ := Pure.DeltaThens l0 l1 ok0 y0 ok1 y1
  refine (remoralaw08_DeltaThens.calls k_ A0 c0 l0 A1 c1 l1 true W hr0 hc0 hr1 hc1 h_).mono fun e W' ⟨he, bel0⟩ => ?_
  have bel : Below W.heap.size W W' := bel0
  subst he
  exact ⟨_, rfl, _, _, _, [], _, [], hW', trodAll_mk1 (shut_bool Try.underlying4 _), (trodAll_cons_mk (Below.trod laidOut (by kernel_rfl) (of_decide_eq_true (by kernel_rfl)) k0 bel lt0) (trodAll_cons_mk (Below.trod laidOut (by kernel_rfl) (of_decide_eq_true (by kernel_rfl)) k1 bel lt1) trodAll_mk0)), rfl, bel.frame _, fun h => by cases h⟩
theorem over : Rows.deltaThensRow.holds Try.pinned (OpenSpec.ofChange Rows.deltaThensSpec) :=
  OpenClaim.holds_of_wide 8 Try.f8 rfl rfl rfl rfl rfl rfl rfl ⟨rfl, rfl, rfl, rfl, rfl⟩ rfl rfl rfl rfl rfl (by kernel_rfl) Try.func8 (by kernel_rfl)
    (of_decide_eq_true (by kernel_rfl)) (by unfold Func.isWrapper; first | (rw [if_pos (by decide +kernel)]; kernel_rfl) | (rw [if_neg (by decide +kernel)]; exact ⟨rfl, rfl⟩))
    (fun os started H enc _ => lifted os started H enc)
theorem proved : Rows.DeltaThensSaid := over
#print axioms proved
end Go.Proofs.Ytifmajnhcbicnaa.deltaThens
namespace Go.Proofs.Ytifmajnhcbicnaa
/-- The row, under a short name, for the claim. -/
theorem deltaThens_holds : Rows.DeltaThensSaid := deltaThens.proved
end Go.Proofs.Ytifmajnhcbicnaa
