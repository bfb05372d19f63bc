/- The row of the law IndexNone, out of its plain statement and the walk. Conditions: none beyond the row's own. -/
import Derived.Test.YtlndkemblbbfaaaRows
import Derived.Test.YtlndkemblbbfaaaPIndexNonex9
import Derived.Test.YtlndkemblbbfaaaPureIndexNone
import Derived.Test.YtlndkemblbbfaaaOpen
import Derived.WalkKit
import Derived.ProofKit
import Derived.OpenShut
import Derived.ShutString
import Derived.ChangeOld
import Derived.Below
import Derived.SizedLaws
namespace Go.Proofs.Ytlndkemblbbfaaa.indexNone
open Go.ChangeShapes Go.WideShapes Go.ChangeAt Go.RowKit Go.Proofs.Ytlndkemblbbfaaa.PIndexNone Go.Proofs.Ytlndkemblbbfaaa.Opening Go.Proofs.YtlndkemblbbfaaaW.PrintWords
open Go.ChangeMaps (open_string shut_string)
set_option linter.unusedVariables false
theorem own : ownKnob Try.prog.godebug = none := by kernel_rfl
theorem laidOut : laidOutB Try.prog = true := by kernel_rfl
set_option maxRecDepth 100000 in
theorem lifted (os : Os) (started : os.Started) (H : Type) (enc : TypeId × Value → H) :
    ReturnsInHanded {} Try.checked os 8 .any (Rows.indexNoneSpec.pre6 enc Try.prog Try.f8 Rows.indexNoneRow.domain false) (Rows.indexNoneSpec.post enc Try.prog Try.f8 false true false false) := by
  refine returnsInHanded_of_change_sized (C := Try.checked) own started (by kernel_rfl) Try.func8
    (ChangeSpec.witness6 (enc := enc) (C := Try.checked) false ⟨#[], #[.agg #[.int .u32 0, .string ByteArray.empty, .int .i64 0, .int .i64 0]], []⟩ 8 (by kernel_rfl) (by kernel_rfl) (by kernel_rfl) (by kernel_rfl)) ?_
  intro W base args ds gs before hval0 hW hcnd hsz0 _
  have hsz : (DataW.weightsEach Try.prog (Try.f8.params.toList ++ Rows.indexNoneSpec.plain.varTypes Try.prog) (ds ++ gs)).all (· ≤ reachBytes) = true := hsz0
  have hval : ∀ (j : Nat) t v, Try.f8.params[j]? = some t → args[j]? = some v → Value.okWide Try.prog W .any base t v := hval0
  have hW' := hW
  obtain ⟨p, q, hA0, hV, rfl, hfz, hnd⟩ := hW
  have hA : DataW.TrodAll enc Try.prog W 0 (fun _ => true) true Try.f8.params.toList args.toList ds p := hA0
  rw [Try.params8] at hA hval hsz
  obtain ⟨v0, vs0, d0, ds0, p0, q0, hargs, rfl, rfl, h0, r0⟩ := trodAll_cons hA
  obtain ⟨rfl, rfl, rfl⟩ := trodAll_nil r0
  obtain rfl : args = #[v0] := by cases args; simp_all
  obtain ⟨rfl, rfl⟩ := trodVars_none hV
  have k0 := h0
  have lt0 : ∀ x ∈ p0, x.block < W.heap.size := by obtain ⟨m, hm⟩ := k0; exact DataW.trod_lt m _ _ _ hm
  obtain ⟨x0, cs0, rfl, hk0, ok0⟩ := opening_agg (d := k27) (ok := (fun x0_ : S27 => ((Lit.int .u32 x0_.f0).wf = true ∧ (x0_.f1.size ≤ maxLen ∧ ((Lit.int .i64 x0_.f2).wf = true ∧ (Lit.int .i64 x0_.f3).wf = true))))) Try.underlying27 (Opens.struct Try.underlying27 (OpensF.cons (Opens.int Try.underlying25) rfl (by kernel_rfl) (OpensF.cons (Opens.string Try.underlying9) rfl (by kernel_rfl) (OpensF.cons (Opens.int Try.underlying3) rfl (by kernel_rfl) (OpensF.one (Opens.int Try.underlying3) rfl (by kernel_rfl))))) (by kernel_rfl) (fun x_ : S27 => (x_.f0, x_.f1, x_.f2, x_.f3)) (fun y_ => ⟨y_.1, y_.2.1, y_.2.2.1, y_.2.2.2⟩) (fun _ => rfl)) (hval 0 27 v0 rfl rfl) h0
  obtain ⟨cs_1, cs_2, rfl, hk_3, hk_4⟩ := hk0
  obtain rfl := one_cell hk_3
  obtain ⟨cs_5, cs_6, rfl, hk_7, hk_8⟩ := hk_4
  obtain rfl := one_cell hk_7
  obtain ⟨cs_9, cs_10, rfl, hk_11, hk_12⟩ := hk_8
  obtain rfl := one_cell hk_11
  obtain rfl := one_cell hk_12
  clear hA0 hval0 hsz0 hsz
  obtain ⟨k_, h_⟩ := Pure.IndexNone x0.f0 x0.f1 x0.f2 x0.f3 ok0.1 ok0.2.1 ok0.2.2.1 ok0.2.2.2
  refine (remoralaw07_IndexNone.calls k_ x0.f0 x0.f1 x0.f2 x0.f3 true W h_).mono fun e W' ⟨he, bel0⟩ => ?_
  have bel : Below W.heap.size W W' := bel0
  subst he
  exact ⟨_, rfl, _, _, _, [], _, [], hW', trodAll_mk1 (shut_bool Try.underlying4 _), (trodAll_cons_mk (Below.trod laidOut (by kernel_rfl) (of_decide_eq_true (by kernel_rfl)) k0 bel lt0) trodAll_mk0), rfl, bel.frame _, fun h => by cases h⟩
theorem over : Rows.indexNoneRow.holds Try.pinned (OpenSpec.ofChange Rows.indexNoneSpec) :=
  OpenClaim.holds_of_wide 8 Try.f8 rfl rfl rfl rfl rfl rfl rfl ⟨rfl, rfl, rfl, rfl, rfl⟩ rfl rfl rfl rfl rfl (by kernel_rfl) Try.func8 (by kernel_rfl)
    (of_decide_eq_true (by kernel_rfl)) (by unfold Func.isWrapper; first | (rw [if_pos (by decide +kernel)]; kernel_rfl) | (rw [if_neg (by decide +kernel)]; exact ⟨rfl, rfl⟩))
    (fun os started H enc _ => lifted os started H enc)
theorem proved : Rows.IndexNoneSaid := over
#print axioms proved
end Go.Proofs.Ytlndkemblbbfaaa.indexNone
namespace Go.Proofs.Ytlndkemblbbfaaa
/-- The row, under a short name, for the claim. -/
theorem indexNone_holds : Rows.IndexNoneSaid := indexNone.proved
end Go.Proofs.Ytlndkemblbbfaaa
