/- The row of the law SigBack, out of its plain statement and the walk. Conditions: none beyond the row's own. -/
import Derived.Test.YtjhgeppjpofjpaaDoorRows
import Derived.Test.YtjhgeppjpofjpaaDoorPSigBackx10
import Derived.Test.YtjhgeppjpofjpaaDoorPureSigBack
import Derived.Test.YtjhgeppjpofjpaaDoorOpen
import Derived.Test.YtjhgeppjpofjpaaDoorCards
import Derived.Test.YtjhgeppjpofjpaaDoorTie
import Derived.WalkKit
import Derived.ProofKit
import Derived.OpenShut
import Derived.ShutString
import Derived.ChangeOld
import Derived.Below
import Derived.SizedLaws
import Derived.LaidMore
import Derived.Stop.Joined
import Derived.SevenTiedAt
namespace Go.Proofs.YtjhgeppjpofjpaaDoor.sigBack
open Go.ChangeShapes Go.WideShapes Go.ChangeAt Go.RowKit Go.Proofs.YtjhgeppjpofjpaaDoor.PSigBack Go.Proofs.YtjhgeppjpofjpaaDoor.Opening Go.Proofs.YtjhgeppjpofjpaaDoorW.PrintWords
open Go.ChangeMaps (open_string shut_string)
set_option linter.unusedVariables false
theorem own : ownKnob Tryd.prog.godebug = none := by kernel_rfl
theorem laidOut : laidOutB Tryd.prog = true := by kernel_rfl
theorem door_met (os : Os) (args : Array Value) : laidMetH Tryd.prog Rows.sigBackRow.laid ((World.doorLaid Tryd.prog 400 os).forCall (fun _ _ => 0) ⟨#[], args, []⟩).memory :=
  laidMetH_of_parts3 (fuel := 8) (laidMet_of_run' 8 (by kernel_rfl) (by kernel_rfl)) (by kernel_rfl) (by kernel_rfl)
theorem g0 : Tryd.prog.globalNamed "remora/crc.table" = some 1 := by kernel_rfl
theorem t0 : (Tryd.prog.globals[1]?).map (·.type) = some 105 := by kernel_rfl
theorem c0 : Tryd.prog.cellsOf 42 = 1 := by kernel_rfl
/-- What the condition gives the walks. -/
theorem of_laid {W : World} (h : laidMetH Tryd.prog Rows.sigBackRow.laid W) : GL W := by
  rw [MakeChecks.laidMetH_plain _ _ _ (by kernel_rfl)] at h
  obtain ⟨ps_, ⟨g0_, t0_, cs0_, f0_, p0_, q0_, hg0, ht0, hv0, hd0, _, _⟩, _⟩ := h
  obtain rfl := Option.some.inj (g0.symm.trans hg0)
  obtain rfl := Option.some.inj (t0.symm.trans ht0)
  have cell0 : ∀ i, i < 16 → W.cell? ⟨1, i, none⟩ = some (.int .u32 (tab_table.getD i 0)) := fun i hi => by
    rw [World.var?_cell hg0 hv0 i, ← Array.getElem?_toList]
    exact table_cells (L := tab_table) (n := 16) (q := p0_) Tryd.underlying105 Tryd.underlying42 c0 hd0 rfl i hi
  exact ⟨World.block_lt_of_cell? _ _ (cell0 0 (by decide)), cell0⟩
set_option maxRecDepth 100000 in
theorem lifted (os : Os) (started : os.Started) (H : Type) (enc : TypeId × Value → H) :
    ReturnsInHanded {} Tryd.checked os 9 .any (fun w args => (Rows.sigBackSpec.pre enc Tryd.prog Tryd.f9 [] false w args ∧ laidMetH Tryd.prog Rows.sigBackRow.laid w) ∧ sizedMet enc Tryd.prog Tryd.f9 (OpenSpec.ofChange Rows.sigBackSpec) false w args) (Rows.sigBackSpec.post enc Tryd.prog Tryd.f9 false true false false) := by
  refine returnsInHanded_of_change_and (C := Tryd.checked) (X := (fun w _ => laidMetH Tryd.prog Rows.sigBackRow.laid w)) (fun _ _ _ hh h => h.of_heap hh) own started (by kernel_rfl) Tryd.func9
    (ChangeSpec.witness_shaped (enc := enc) (C := Tryd.checked) (os := os) (X := (fun w _ => laidMetH Tryd.prog Rows.sigBackRow.laid w)) false (World.doorLaid Tryd.prog 400 os) #[.agg #[.int .i64 0, .int .i64 0, .int .i64 0, .slice none 0 0], .slice none 0 0] 8 rfl (World.shaped_of_RefB (by kernel_rfl) (by kernel_rfl)) (by kernel_rfl) (by kernel_rfl) (by kernel_rfl) (door_met os _)) ?_
  intro W base args ds gs before hval0 hW hcnd hsz0 hL _
  have hsz : (DataW.weightsEach Tryd.prog (Tryd.f9.params.toList ++ Rows.sigBackSpec.plain.varTypes Tryd.prog) (ds ++ gs)).all (· ≤ reachBytes) = true := hsz0
  have hval : ∀ (j : Nat) t v, Tryd.f9.params[j]? = some t → args[j]? = some v → Value.okWide Tryd.prog W .any base t v := hval0
  have hW' := hW
  obtain ⟨p, q, hA0, hV, rfl, hfz, hnd⟩ := hW
  have hA : DataW.TrodAll enc Tryd.prog W 0 (fun _ => true) true Tryd.f9.params.toList args.toList ds p := hA0
  rw [Tryd.params9] at hA hval hsz
  have hG := of_laid hL
  obtain ⟨v0, vs0, d0, ds0, p0, q0, hargs, rfl, rfl, h0, r0⟩ := trodAll_cons hA
  obtain ⟨v1, vs1, d1, ds1, p1, q1, rfl, rfl, rfl, h1, r1⟩ := trodAll_cons r0
  obtain ⟨rfl, rfl, rfl⟩ := trodAll_nil r1
  obtain rfl : args = #[v0, v1] := by cases args; simp_all
  obtain ⟨rfl, rfl⟩ := trodVars_none hV
  have k0 := h0
  have lt0 : ∀ x ∈ p0, x.block < W.heap.size := by obtain ⟨m, hm⟩ := k0; exact DataW.trod_lt m _ _ _ hm
  obtain ⟨x0, cs0, rfl, hk0, ok0⟩ := opening_agg (d := k26) (ok := (fun x0_ : S26 => ((Lit.int .i64 x0_.f0).wf = true ∧ ((Lit.int .i64 x0_.f1).wf = true ∧ ((Lit.int .i64 x0_.f2).wf = true ∧ (x0_.f3.length ≤ maxLen ∧ ∀ q1_ ∈ x0_.f3, ((Lit.int .u32 q1_.f0).wf = true ∧ q1_.f1.size ≤ maxLen))))))) Tryd.underlying26 (Opens.struct Tryd.underlying26 (OpensF.cons (Opens.int Tryd.underlying3) rfl (by kernel_rfl) (OpensF.cons (Opens.int Tryd.underlying3) rfl (by kernel_rfl) (OpensF.cons (Opens.int Tryd.underlying3) rfl (by kernel_rfl) (OpensF.one (Opens.slice Tryd.underlying24 (Opens.struct Tryd.underlying44 (OpensF.cons (Opens.int Tryd.underlying42) rfl (by kernel_rfl) (OpensF.one (Opens.string Tryd.underlying9) rfl (by kernel_rfl))) (by kernel_rfl) (fun x_ : S44 => (x_.f0, x_.f1)) (fun y_ => ⟨y_.1, y_.2⟩) (fun _ => rfl)) (by kernel_rfl)) rfl (by kernel_rfl))))) (by kernel_rfl) (fun x_ : S26 => (x_.f0, x_.f1, x_.f2, x_.f3)) (fun y_ => ⟨y_.1, y_.2.1, y_.2.2.1, y_.2.2.2⟩) (fun _ => rfl)) (hval 0 26 v0 rfl rfl) h0
  obtain ⟨cs_1, cs_2, rfl, hk_3, hk_4⟩ := hk0
  obtain rfl := one_cell hk_3
  obtain ⟨cs_5, cs_6, rfl, hk_7, hk_8⟩ := hk_4
  obtain rfl := one_cell hk_7
  obtain ⟨cs_9, cs_10, rfl, hk_11, hk_12⟩ := hk_8
  obtain rfl := one_cell hk_11
  obtain ⟨A_13, c_14, rfl, hC_15, hl_16⟩ := slice_cell hk_12
  have k1 := h1
  have lt1 : ∀ x ∈ p1, x.block < W.heap.size := by obtain ⟨m, hm⟩ := k1; exact DataW.trod_lt m _ _ _ hm
  obtain ⟨A1, c1, l1, rfl, hr1, hc1, ok1⟩ := opening_row (ok := (fun x0_ : List Int => (x0_.length ≤ maxLen ∧ ∀ q1_ ∈ x0_, (Lit.int .u8 q1_).wf = true))) Tryd.underlying22 (Opens.slice Tryd.underlying22 (Opens.int Tryd.underlying5) (by kernel_rfl)) (hval 1 22 v1 rfl rfl) h1
  have y1 : l1.length * 1 ≤ 140737488351232 := row_weight hsz (j := 1) (t := 22) rfl rfl Tryd.underlying22 (by kernel_rfl) k1
  clear hA0 hval0 hsz0 hsz
  obtain ⟨k_, h_⟩ := Pure.SigBack x0.f0 x0.f1 x0.f2 x0.f3 l1 ok0.1 ok0.2.1 ok0.2.2.1 ok0.2.2.2 ok1 y1
  refine (remoralaw06_SigBack.calls k_ x0.f0 x0.f1 x0.f2 A_13 c_14 x0.f3 A1 c1 l1 true W hC_15 hl_16 hr1 hc1 h_ hG).mono fun e W' ⟨he, bel0⟩ => ?_
  have bel : Below W.heap.size W W' := bel0
  subst he
  exact ⟨_, rfl, _, _, _, [], _, [], hW', trodAll_mk1 (shut_bool Tryd.underlying4 _), (trodAll_cons_mk (Below.trod laidOut (by kernel_rfl) (of_decide_eq_true (by kernel_rfl)) k0 bel lt0) (trodAll_cons_mk (Below.trod laidOut (by kernel_rfl) (of_decide_eq_true (by kernel_rfl)) k1 bel lt1) trodAll_mk0)), rfl, bel.frame _, fun h => by cases h⟩
theorem over : Rows.sigBackRow.holds Tryd.pinned (OpenSpec.ofChange Rows.sigBackSpec) :=
  OpenClaim.holds_of_wide 9 Tryd.f9 rfl rfl rfl rfl rfl rfl rfl ⟨rfl, rfl, rfl, rfl, rfl⟩ rfl rfl rfl rfl rfl (by kernel_rfl) Tryd.func9 (by kernel_rfl)
    (of_decide_eq_true (by kernel_rfl)) (by unfold Func.isWrapper; first | (rw [if_pos (by decide +kernel)]; kernel_rfl) | (rw [if_neg (by decide +kernel)]; exact ⟨rfl, rfl⟩))
    (fun os started H enc _ => lifted os started H enc)
theorem proved : Rows.SigBackSaid := over
theorem carded : Rows.SigBackCardSaid :=
  Claim7.holds_tied_plain_at .later [] [.data] true (true, "da55afbea98e5147bce023d713bea481fb370c16e0ea97e30293bad4cbb1faf2") false
    proved (fun _ h => by cases h) (by kernel_rfl) (fun _ h => by cases h) sigBack_row_tie rfl ⟨rfl, rfl⟩ (by kernel_rfl) rfl
    (fun f fn hf hfn => by
      obtain rfl : f = 9 := Option.some.inj ((show Tryd.prog.funcNamed "remora/remoralaw06.SigBack" = some 9 by kernel_rfl).symm.trans hf) |>.symm
      obtain rfl : fn = Tryd.f9 := (Option.some.inj (Tryd.func9.symm.trans hfn)).symm
      exact ⟨by kernel_rfl, fun j t ht => by
        rw [Tryd.params9] at ht
        have hm : t ∈ [26, 22] := by simpa using Array.mem_of_getElem? ht
        have hall : ([26, 22].all fun u => !Tryd.prog.wantsStandIn u) = true := by kernel_rfl
        exact (show Tryd.prog.wantsStandIn t = false by simpa using List.all_eq_true.1 hall t hm)⟩)
    (by kernel_rfl)
#print axioms carded
end Go.Proofs.YtjhgeppjpofjpaaDoor.sigBack
namespace Go.Proofs.YtjhgeppjpofjpaaDoor
/-- The row, under a short name, for the claim. -/
theorem sigBack_holds : Rows.SigBackCardSaid := sigBack.carded
end Go.Proofs.YtjhgeppjpofjpaaDoor
