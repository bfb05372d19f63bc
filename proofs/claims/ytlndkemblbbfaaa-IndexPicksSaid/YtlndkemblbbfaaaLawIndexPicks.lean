/- The row of the law IndexPicks, out of its plain statement and the walk. Conditions: none beyond the row's own. -/
import Derived.Test.YtlndkemblbbfaaaRows
import Derived.Test.YtlndkemblbbfaaaPIndexPicksx12
import Derived.Test.YtlndkemblbbfaaaPureIndexPicks
import Derived.Test.YtlndkemblbbfaaaOpen
import Derived.WalkKit
import Derived.ProofKit
import Derived.OpenShut
import Derived.ShutString
import Derived.ChangeOld
import Derived.Below
import Derived.SizedLaws
namespace Go.Proofs.Ytlndkemblbbfaaa.indexPicks
open Go.ChangeShapes Go.WideShapes Go.ChangeAt Go.RowKit Go.Proofs.Ytlndkemblbbfaaa.PIndexPicks Go.Proofs.Ytlndkemblbbfaaa.Opening Go.Proofs.YtlndkemblbbfaaaW.PrintWords
open Go.ChangeMaps (open_string shut_string)
set_option linter.unusedVariables false
theorem own : ownKnob Try.prog.godebug = none := by kernel_rfl
theorem laidOut : laidOutB Try.prog = true := by kernel_rfl
set_option maxRecDepth 100000 in
theorem lifted (os : Os) (started : os.Started) (H : Type) (enc : TypeId × Value → H) :
    ReturnsInHanded {} Try.checked os 3 .any (Rows.indexPicksSpec.pre6 enc Try.prog Try.f3 Rows.indexPicksRow.domain false) (Rows.indexPicksSpec.post enc Try.prog Try.f3 false true false false) := by
  refine returnsInHanded_of_change_sized (C := Try.checked) own started (by kernel_rfl) Try.func3
    (ChangeSpec.witness6 (enc := enc) (C := Try.checked) false ⟨#[], #[.agg #[.int .i64 0, .int .i64 0, .int .i64 0, .slice none 0 0], .agg #[.int .u32 0, .string ByteArray.empty, .int .i64 0, .int .i64 0]], []⟩ 8 (by kernel_rfl) (by kernel_rfl) (by kernel_rfl) (by kernel_rfl)) ?_
  intro W base args ds gs before hval0 hW hcnd hsz0 _
  have hsz : (DataW.weightsEach Try.prog (Try.f3.params.toList ++ Rows.indexPicksSpec.plain.varTypes Try.prog) (ds ++ gs)).all (· ≤ reachBytes) = true := hsz0
  have hval : ∀ (j : Nat) t v, Try.f3.params[j]? = some t → args[j]? = some v → Value.okWide Try.prog W .any base t v := hval0
  have hW' := hW
  obtain ⟨p, q, hA0, hV, rfl, hfz, hnd⟩ := hW
  have hA : DataW.TrodAll enc Try.prog W 0 (fun _ => true) true Try.f3.params.toList args.toList ds p := hA0
  rw [Try.params3] at hA hval hsz
  obtain ⟨v0, vs0, d0, ds0, p0, q0, hargs, rfl, rfl, h0, r0⟩ := trodAll_cons hA
  obtain ⟨v1, vs1, d1, ds1, p1, q1, rfl, rfl, rfl, h1, r1⟩ := trodAll_cons r0
  obtain ⟨rfl, rfl, rfl⟩ := trodAll_nil r1
  obtain rfl : args = #[v0, v1] := by cases args; simp_all
  obtain ⟨rfl, rfl⟩ := trodVars_none hV
  have k0 := h0
  have lt0 : ∀ x ∈ p0, x.block < W.heap.size := by obtain ⟨m, hm⟩ := k0; exact DataW.trod_lt m _ _ _ hm
  obtain ⟨x0, cs0, rfl, hk0, ok0⟩ := opening_agg (d := k24) (ok := (fun x0_ : S24 => ((Lit.int .i64 x0_.f0).wf = true ∧ ((Lit.int .i64 x0_.f1).wf = true ∧ ((Lit.int .i64 x0_.f2).wf = true ∧ (x0_.f3.length ≤ maxLen ∧ ∀ q1_ ∈ x0_.f3, ((Lit.int .u32 q1_.f0).wf = true ∧ q1_.f1.size ≤ maxLen))))))) Try.underlying24 (Opens.struct Try.underlying24 (OpensF.cons (Opens.int Try.underlying3) rfl (by kernel_rfl) (OpensF.cons (Opens.int Try.underlying3) rfl (by kernel_rfl) (OpensF.cons (Opens.int Try.underlying3) rfl (by kernel_rfl) (OpensF.one (Opens.slice Try.underlying22 (Opens.struct Try.underlying44 (OpensF.cons (Opens.int Try.underlying25) rfl (by kernel_rfl) (OpensF.one (Opens.string Try.underlying9) rfl (by kernel_rfl))) (by kernel_rfl) (fun x_ : S44 => (x_.f0, x_.f1)) (fun y_ => ⟨y_.1, y_.2⟩) (fun _ => rfl)) (by kernel_rfl)) rfl (by kernel_rfl))))) (by kernel_rfl) (fun x_ : S24 => (x_.f0, x_.f1, x_.f2, x_.f3)) (fun y_ => ⟨y_.1, y_.2.1, y_.2.2.1, y_.2.2.2⟩) (fun _ => rfl)) (hval 0 24 v0 rfl rfl) h0
  obtain ⟨cs_1, cs_2, rfl, hk_3, hk_4⟩ := hk0
  obtain rfl := one_cell hk_3
  obtain ⟨cs_5, cs_6, rfl, hk_7, hk_8⟩ := hk_4
  obtain rfl := one_cell hk_7
  obtain ⟨cs_9, cs_10, rfl, hk_11, hk_12⟩ := hk_8
  obtain rfl := one_cell hk_11
  obtain ⟨A_13, c_14, rfl, hC_15, hl_16⟩ := slice_cell hk_12
  have k1 := h1
  have lt1 : ∀ x ∈ p1, x.block < W.heap.size := by obtain ⟨m, hm⟩ := k1; exact DataW.trod_lt m _ _ _ hm
  obtain ⟨x1, cs1, rfl, hk1, ok1⟩ := opening_agg (d := k27) (ok := (fun x0_ : S27 => ((Lit.int .u32 x0_.f0).wf = true ∧ (x0_.f1.size ≤ maxLen ∧ ((Lit.int .i64 x0_.f2).wf = true ∧ (Lit.int .i64 x0_.f3).wf = true))))) Try.underlying27 (Opens.struct Try.underlying27 (OpensF.cons (Opens.int Try.underlying25) rfl (by kernel_rfl) (OpensF.cons (Opens.string Try.underlying9) rfl (by kernel_rfl) (OpensF.cons (Opens.int Try.underlying3) rfl (by kernel_rfl) (OpensF.one (Opens.int Try.underlying3) rfl (by kernel_rfl))))) (by kernel_rfl) (fun x_ : S27 => (x_.f0, x_.f1, x_.f2, x_.f3)) (fun y_ => ⟨y_.1, y_.2.1, y_.2.2.1, y_.2.2.2⟩) (fun _ => rfl)) (hval 1 27 v1 rfl rfl) h1
  obtain ⟨cs_17, cs_18, rfl, hk_19, hk_20⟩ := hk1
  obtain rfl := one_cell hk_19
  obtain ⟨cs_21, cs_22, rfl, hk_23, hk_24⟩ := hk_20
  obtain rfl := one_cell hk_23
  obtain ⟨cs_25, cs_26, rfl, hk_27, hk_28⟩ := hk_24
  obtain rfl := one_cell hk_27
  obtain rfl := one_cell hk_28
  clear hA0 hval0 hsz0 hsz
  obtain ⟨k_, h_⟩ := Pure.IndexPicks x0.f0 x0.f1 x0.f2 x0.f3 x1.f0 x1.f1 x1.f2 x1.f3 ok0.1 ok0.2.1 ok0.2.2.1 ok0.2.2.2 ok1.1 ok1.2.1 ok1.2.2.1 ok1.2.2.2
  refine (remoralaw07_IndexPicks.calls k_ x0.f0 x0.f1 x0.f2 A_13 c_14 x0.f3 x1.f0 x1.f1 x1.f2 x1.f3 true W hC_15 hl_16 h_).mono fun e W' ⟨he, bel0⟩ => ?_
  have bel : Below W.heap.size W W' := bel0
  subst he
  exact ⟨_, rfl, _, _, _, [], _, [], hW', trodAll_mk1 (shut_bool Try.underlying4 _), (trodAll_cons_mk (Below.trod laidOut (by kernel_rfl) (of_decide_eq_true (by kernel_rfl)) k0 bel lt0) (trodAll_cons_mk (Below.trod laidOut (by kernel_rfl) (of_decide_eq_true (by kernel_rfl)) k1 bel lt1) trodAll_mk0)), rfl, bel.frame _, fun h => by cases h⟩
theorem over : Rows.indexPicksRow.holds Try.pinned (OpenSpec.ofChange Rows.indexPicksSpec) :=
  OpenClaim.holds_of_wide 3 Try.f3 rfl rfl rfl rfl rfl rfl rfl ⟨rfl, rfl, rfl, rfl, rfl⟩ rfl rfl rfl rfl rfl (by kernel_rfl) Try.func3 (by kernel_rfl)
    (of_decide_eq_true (by kernel_rfl)) (by unfold Func.isWrapper; first | (rw [if_pos (by decide +kernel)]; kernel_rfl) | (rw [if_neg (by decide +kernel)]; exact ⟨rfl, rfl⟩))
    (fun os started H enc _ => lifted os started H enc)
theorem proved : Rows.IndexPicksSaid := over
#print axioms proved
end Go.Proofs.Ytlndkemblbbfaaa.indexPicks
namespace Go.Proofs.Ytlndkemblbbfaaa
/-- The row, under a short name, for the claim. -/
theorem indexPicks_holds : Rows.IndexPicksSaid := indexPicks.proved
end Go.Proofs.Ytlndkemblbbfaaa
