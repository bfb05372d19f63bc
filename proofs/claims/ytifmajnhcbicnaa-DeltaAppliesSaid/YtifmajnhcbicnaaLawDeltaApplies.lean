/- The row of the law DeltaApplies, out of its plain statement and the walk. Conditions: none beyond the row's own. -/
import Derived.Test.YtifmajnhcbicnaaRows
import Derived.Test.YtifmajnhcbicnaaPDeltaAppliesx6
import Derived.Test.YtifmajnhcbicnaaPureDeltaApplies
import Derived.Test.YtifmajnhcbicnaaOpen
import Derived.WalkKit
import Derived.ProofKit
import Derived.OpenShut
import Derived.ShutString
import Derived.ChangeOld
import Derived.Below
import Derived.SizedLaws
namespace Go.Proofs.Ytifmajnhcbicnaa.deltaApplies
open Go.ChangeShapes Go.WideShapes Go.ChangeAt Go.RowKit Go.Proofs.Ytifmajnhcbicnaa.PDeltaApplies Go.Proofs.Ytifmajnhcbicnaa.Opening Go.Proofs.YtifmajnhcbicnaaW.PrintWords
open Go.ChangeMaps (open_string shut_string)
set_option linter.unusedVariables false
theorem own : ownKnob Try.prog.godebug = none := by kernel_rfl
theorem laidOut : laidOutB Try.prog = true := by kernel_rfl
set_option maxRecDepth 100000 in
theorem lifted (os : Os) (started : os.Started) (H : Type) (enc : TypeId × Value → H) :
    ReturnsInHanded {} Try.checked os 4 .any (Rows.deltaAppliesSpec.pre6 enc Try.prog Try.f4 Rows.deltaAppliesRow.domain false) (Rows.deltaAppliesSpec.post enc Try.prog Try.f4 false true false false) := by
  refine returnsInHanded_of_change_sized (C := Try.checked) own started (by kernel_rfl) Try.func4
    (ChangeSpec.witness6 (enc := enc) (C := Try.checked) false ⟨#[], #[.slice none 0 0, .slice none 0 0, .slice none 0 0], []⟩ 8 (by kernel_rfl) (by kernel_rfl) (by kernel_rfl) (by kernel_rfl)) ?_
  intro W base args ds gs before hval0 hW hcnd hsz0 _
  have hsz : (DataW.weightsEach Try.prog (Try.f4.params.toList ++ Rows.deltaAppliesSpec.plain.varTypes Try.prog) (ds ++ gs)).all (· ≤ reachBytes) = true := hsz0
  have hval : ∀ (j : Nat) t v, Try.f4.params[j]? = some t → args[j]? = some v → Value.okWide Try.prog W .any base t v := hval0
  have hW' := hW
  obtain ⟨p, q, hA0, hV, rfl, hfz, hnd⟩ := hW
  have hA : DataW.TrodAll enc Try.prog W 0 (fun _ => true) true Try.f4.params.toList args.toList ds p := hA0
  rw [Try.params4] at hA hval hsz
  obtain ⟨v0, vs0, d0, ds0, p0, q0, hargs, rfl, rfl, h0, r0⟩ := trodAll_cons hA
  obtain ⟨v1, vs1, d1, ds1, p1, q1, rfl, rfl, rfl, h1, r1⟩ := trodAll_cons r0
  obtain ⟨v2, vs2, d2, ds2, p2, q2, rfl, rfl, rfl, h2, r2⟩ := trodAll_cons r1
  obtain ⟨rfl, rfl, rfl⟩ := trodAll_nil r2
  obtain rfl : args = #[v0, v1, v2] := by cases args; simp_all
  obtain ⟨rfl, rfl⟩ := trodVars_none hV
  have k0 := h0
  have lt0 : ∀ x ∈ p0, x.block < W.heap.size := by obtain ⟨m, hm⟩ := k0; exact DataW.trod_lt m _ _ _ hm
  obtain ⟨A0, c0, l0, rfl, hr0, hc0, ok0⟩ := opening_row (ok := (fun x0_ : List Int => (x0_.length ≤ maxLen ∧ ∀ q1_ ∈ x0_, (Lit.int .u8 q1_).wf = true))) Try.underlying31 (Opens.slice Try.underlying31 (Opens.int Try.underlying5) (by kernel_rfl)) (hval 0 31 v0 rfl rfl) h0
  have y0 : l0.length * 1 ≤ 140737488351232 := row_weight hsz (j := 0) (t := 31) rfl rfl Try.underlying31 (by kernel_rfl) k0
  have k1 := h1
  have lt1 : ∀ x ∈ p1, x.block < W.heap.size := by obtain ⟨m, hm⟩ := k1; exact DataW.trod_lt m _ _ _ hm
  obtain ⟨A1, c1, l1, rfl, hr1, hc1, ok1⟩ := opening_row (ok := (fun x0_ : List (S40) => (x0_.length ≤ maxLen ∧ ∀ q1_ ∈ x0_, ((Lit.int .i64 q1_.f0).wf = true ∧ ((Lit.int .i64 q1_.f1).wf = true ∧ (q1_.f2.length ≤ maxLen ∧ ∀ q2_ ∈ q1_.f2, (Lit.int .u8 q2_).wf = true)))))) Try.underlying22 (Opens.slice Try.underlying22 (Opens.struct Try.underlying40 (OpensF.cons (Opens.int Try.underlying3) rfl (by kernel_rfl) (OpensF.cons (Opens.int Try.underlying3) rfl (by kernel_rfl) (OpensF.one (Opens.slice Try.underlying31 (Opens.int Try.underlying5) (by kernel_rfl)) rfl (by kernel_rfl)))) (by kernel_rfl) (fun x_ : S40 => (x_.f0, x_.f1, x_.f2)) (fun y_ => ⟨y_.1, y_.2.1, y_.2.2⟩) (fun _ => rfl)) (by kernel_rfl)) (hval 1 22 v1 rfl rfl) h1
  have y1 : l1.length * 40 ≤ 140737488351232 := row_weight hsz (j := 1) (t := 22) rfl rfl Try.underlying22 (by kernel_rfl) k1
  have k2 := h2
  have lt2 : ∀ x ∈ p2, x.block < W.heap.size := by obtain ⟨m, hm⟩ := k2; exact DataW.trod_lt m _ _ _ hm
  obtain ⟨A2, c2, l2, rfl, hr2, hc2, ok2⟩ := opening_row (ok := (fun x0_ : List (S40) => (x0_.length ≤ maxLen ∧ ∀ q1_ ∈ x0_, ((Lit.int .i64 q1_.f0).wf = true ∧ ((Lit.int .i64 q1_.f1).wf = true ∧ (q1_.f2.length ≤ maxLen ∧ ∀ q2_ ∈ q1_.f2, (Lit.int .u8 q2_).wf = true)))))) Try.underlying22 (Opens.slice Try.underlying22 (Opens.struct Try.underlying40 (OpensF.cons (Opens.int Try.underlying3) rfl (by kernel_rfl) (OpensF.cons (Opens.int Try.underlying3) rfl (by kernel_rfl) (OpensF.one (Opens.slice Try.underlying31 (Opens.int Try.underlying5) (by kernel_rfl)) rfl (by kernel_rfl)))) (by kernel_rfl) (fun x_ : S40 => (x_.f0, x_.f1, x_.f2)) (fun y_ => ⟨y_.1, y_.2.1, y_.2.2⟩) (fun _ => rfl)) (by kernel_rfl)) (hval 2 22 v2 rfl rfl) h2
  have y2 : l2.length * 40 ≤ 140737488351232 := row_weight hsz (j := 2) (t := 22) rfl rfl Try.underlying22 (by kernel_rfl) k2
  clear hA0 hval0 hsz0 hsz
  obtain ⟨k_, h_⟩ := Pure.DeltaApplies l0 l1 l2 ok0 y0 ok1 y1 ok2 y2
  refine (remoralaw08_DeltaApplies.calls k_ A0 c0 l0 A1 c1 l1 A2 c2 l2 true W hr0 hc0 hr1 hc1 hr2 hc2 h_).mono fun e W' ⟨he, bel0⟩ => ?_
  have bel : Below W.heap.size W W' := bel0
  subst he
  exact ⟨_, rfl, _, _, _, [], _, [], hW', trodAll_mk1 (shut_bool Try.underlying4 _), (trodAll_cons_mk (Below.trod laidOut (by kernel_rfl) (of_decide_eq_true (by kernel_rfl)) k0 bel lt0) (trodAll_cons_mk (Below.trod laidOut (by kernel_rfl) (of_decide_eq_true (by kernel_rfl)) k1 bel lt1) (trodAll_cons_mk (Below.trod laidOut (by kernel_rfl) (of_decide_eq_true (by kernel_rfl)) k2 bel lt2) trodAll_mk0))), rfl, bel.frame _, fun h => by cases h⟩
theorem over : Rows.deltaAppliesRow.holds Try.pinned (OpenSpec.ofChange Rows.deltaAppliesSpec) :=
  OpenClaim.holds_of_wide 4 Try.f4 rfl rfl rfl rfl rfl rfl rfl ⟨rfl, rfl, rfl, rfl, rfl⟩ rfl rfl rfl rfl rfl (by kernel_rfl) Try.func4 (by kernel_rfl)
    (of_decide_eq_true (by kernel_rfl)) (by unfold Func.isWrapper; first | (rw [if_pos (by decide +kernel)]; kernel_rfl) | (rw [if_neg (by decide +kernel)]; exact ⟨rfl, rfl⟩))
    (fun os started H enc _ => lifted os started H enc)
theorem proved : Rows.DeltaAppliesSaid := over
#print axioms proved
end Go.Proofs.Ytifmajnhcbicnaa.deltaApplies
namespace Go.Proofs.Ytifmajnhcbicnaa
/-- The row, under a short name, for the claim. -/
theorem deltaApplies_holds : Rows.DeltaAppliesSaid := deltaApplies.proved
end Go.Proofs.Ytifmajnhcbicnaa
