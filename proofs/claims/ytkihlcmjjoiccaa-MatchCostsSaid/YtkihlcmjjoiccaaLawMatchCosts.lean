/- The row of the law MatchCosts, out of its plain statement and the walk. Conditions: none beyond the row's own. -/
import Derived.Test.YtkihlcmjjoiccaaRows
import Derived.Test.YtkihlcmjjoiccaaPMatchCostsx13
import Derived.Test.YtkihlcmjjoiccaaPureMatchCosts
import Derived.Test.YtkihlcmjjoiccaaOpen
import Derived.WalkKit
import Derived.ProofKit
import Derived.OpenShut
import Derived.ShutString
import Derived.ChangeOld
import Derived.Below
import Derived.SizedLaws
namespace Go.Proofs.Ytkihlcmjjoiccaa.matchCosts
open Go.ChangeShapes Go.WideShapes Go.ChangeAt Go.RowKit Go.Proofs.Ytkihlcmjjoiccaa.PMatchCosts Go.Proofs.Ytkihlcmjjoiccaa.Opening Go.Proofs.YtkihlcmjjoiccaaW.PrintWords
open Go.ChangeMaps (open_string shut_string)
set_option linter.unusedVariables false
theorem own : ownKnob Try.prog.godebug = none := by kernel_rfl
theorem laidOut : laidOutB Try.prog = true := by kernel_rfl
set_option maxRecDepth 100000 in
theorem lifted (os : Os) (started : os.Started) (H : Type) (enc : TypeId × Value → H) :
    ReturnsInHanded {} Try.checked os 6 .any (Rows.matchCostsSpec.pre6 enc Try.prog Try.f6 Rows.matchCostsRow.domain false) (Rows.matchCostsSpec.post enc Try.prog Try.f6 false true false false) := by
  refine returnsInHanded_of_change_sized (C := Try.checked) own started (by kernel_rfl) Try.func6
    (ChangeSpec.witness6 (enc := enc) (C := Try.checked) false ⟨#[], #[.agg #[.int .i64 0, .int .i64 0, .int .i64 0, .slice none 0 0], .slice none 0 0], []⟩ 8 (by kernel_rfl) (by kernel_rfl) (by kernel_rfl) (by kernel_rfl)) ?_
  intro W base args ds gs before hval0 hW hcnd hsz0 _
  have hsz : (DataW.weightsEach Try.prog (Try.f6.params.toList ++ Rows.matchCostsSpec.plain.varTypes Try.prog) (ds ++ gs)).all (· ≤ reachBytes) = true := hsz0
  have hval : ∀ (j : Nat) t v, Try.f6.params[j]? = some t → args[j]? = some v → Value.okWide Try.prog W .any base t v := hval0
  have hW' := hW
  obtain ⟨p, q, hA0, hV, rfl, hfz, hnd⟩ := hW
  have hA : DataW.TrodAll enc Try.prog W 0 (fun _ => true) true Try.f6.params.toList args.toList ds p := hA0
  rw [Try.params6] at hA hval hsz
  obtain ⟨v0, vs0, d0, ds0, p0, q0, hargs, rfl, rfl, h0, r0⟩ := trodAll_cons hA
  obtain ⟨v1, vs1, d1, ds1, p1, q1, rfl, rfl, rfl, h1, r1⟩ := trodAll_cons r0
  obtain ⟨rfl, rfl, rfl⟩ := trodAll_nil r1
  obtain rfl : args = #[v0, v1] := by cases args; simp_all
  obtain ⟨rfl, rfl⟩ := trodVars_none hV
  have k0 := h0
  have lt0 : ∀ x ∈ p0, x.block < W.heap.size := by obtain ⟨m, hm⟩ := k0; exact DataW.trod_lt m _ _ _ hm
  obtain ⟨x0, cs0, rfl, hk0, ok0⟩ := opening_agg (d := k24) (ok := (fun x0_ : S24 => ((Lit.int .i64 x0_.f0).wf = true ∧ ((Lit.int .i64 x0_.f1).wf = true ∧ ((Lit.int .i64 x0_.f2).wf = true ∧ (x0_.f3.length ≤ maxLen ∧ ∀ q1_ ∈ x0_.f3, ((Lit.int .u32 q1_.f0).wf = true ∧ q1_.f1.size ≤ maxLen))))))) Try.underlying24 (Opens.struct Try.underlying24 (OpensF.cons (Opens.int Try.underlying3) rfl (by kernel_rfl) (OpensF.cons (Opens.int Try.underlying3) rfl (by kernel_rfl) (OpensF.cons (Opens.int Try.underlying3) rfl (by kernel_rfl) (OpensF.one (Opens.slice Try.underlying22 (Opens.struct Try.underlying55 (OpensF.cons (Opens.int Try.underlying53) rfl (by kernel_rfl) (OpensF.one (Opens.string Try.underlying9) rfl (by kernel_rfl))) (by kernel_rfl) (fun x_ : S55 => (x_.f0, x_.f1)) (fun y_ => ⟨y_.1, y_.2⟩) (fun _ => rfl)) (by kernel_rfl)) rfl (by kernel_rfl))))) (by kernel_rfl) (fun x_ : S24 => (x_.f0, x_.f1, x_.f2, x_.f3)) (fun y_ => ⟨y_.1, y_.2.1, y_.2.2.1, y_.2.2.2⟩) (fun _ => rfl)) (hval 0 24 v0 rfl rfl) h0
  obtain ⟨cs_1, cs_2, rfl, hk_3, hk_4⟩ := hk0
  obtain rfl := one_cell hk_3
  obtain ⟨cs_5, cs_6, rfl, hk_7, hk_8⟩ := hk_4
  obtain rfl := one_cell hk_7
  obtain ⟨cs_9, cs_10, rfl, hk_11, hk_12⟩ := hk_8
  obtain rfl := one_cell hk_11
  obtain ⟨A_13, c_14, rfl, hC_15, hl_16⟩ := slice_cell hk_12
  have k1 := h1
  have lt1 : ∀ x ∈ p1, x.block < W.heap.size := by obtain ⟨m, hm⟩ := k1; exact DataW.trod_lt m _ _ _ hm
  obtain ⟨A1, c1, l1, rfl, hr1, hc1, ok1⟩ := opening_row (ok := (fun x0_ : List Int => (x0_.length ≤ maxLen ∧ ∀ q1_ ∈ x0_, (Lit.int .u8 q1_).wf = true))) Try.underlying33 (Opens.slice Try.underlying33 (Opens.int Try.underlying5) (by kernel_rfl)) (hval 1 33 v1 rfl rfl) h1
  have y1 : l1.length * 1 ≤ 140737488351232 := row_weight hsz (j := 1) (t := 33) rfl rfl Try.underlying33 (by kernel_rfl) k1
  clear hA0 hval0 hsz0 hsz
  obtain ⟨k_, h_⟩ := Pure.MatchCosts x0.f0 x0.f1 x0.f2 x0.f3 l1 ok0.1 ok0.2.1 ok0.2.2.1 ok0.2.2.2 ok1 y1
  refine (remoralaw09_MatchCosts.calls k_ x0.f0 x0.f1 x0.f2 A_13 c_14 x0.f3 A1 c1 l1 true W hC_15 hl_16 hr1 hc1 h_).mono fun e W' ⟨he, bel0⟩ => ?_
  have bel : Below W.heap.size W W' := bel0
  subst he
  exact ⟨_, rfl, _, _, _, [], _, [], hW', trodAll_mk1 (shut_bool Try.underlying4 _), (trodAll_cons_mk (Below.trod laidOut (by kernel_rfl) (of_decide_eq_true (by kernel_rfl)) k0 bel lt0) (trodAll_cons_mk (Below.trod laidOut (by kernel_rfl) (of_decide_eq_true (by kernel_rfl)) k1 bel lt1) trodAll_mk0)), rfl, bel.frame _, fun h => by cases h⟩
theorem over : Rows.matchCostsRow.holds Try.pinned (OpenSpec.ofChange Rows.matchCostsSpec) :=
  OpenClaim.holds_of_wide 6 Try.f6 rfl rfl rfl rfl rfl rfl rfl ⟨rfl, rfl, rfl, rfl, rfl⟩ rfl rfl rfl rfl rfl (by kernel_rfl) Try.func6 (by kernel_rfl)
    (of_decide_eq_true (by kernel_rfl)) (by unfold Func.isWrapper; first | (rw [if_pos (by decide +kernel)]; kernel_rfl) | (rw [if_neg (by decide +kernel)]; exact ⟨rfl, rfl⟩))
    (fun os started H enc _ => lifted os started H enc)
theorem proved : Rows.MatchCostsSaid := over
#print axioms proved
end Go.Proofs.Ytkihlcmjjoiccaa.matchCosts
namespace Go.Proofs.Ytkihlcmjjoiccaa
/-- The row, under a short name, for the claim. -/
theorem matchCosts_holds : Rows.MatchCostsSaid := matchCosts.proved
end Go.Proofs.Ytkihlcmjjoiccaa
