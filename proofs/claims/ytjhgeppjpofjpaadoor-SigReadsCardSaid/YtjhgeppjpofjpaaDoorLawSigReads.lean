/- The row of the law SigReads, out of its plain statement and the walk. Conditions: none beyond the row's own. -/
import Derived.Test.YtjhgeppjpofjpaaDoorRows
import Derived.Test.YtjhgeppjpofjpaaDoorPSigReadsx14
import Derived.Test.YtjhgeppjpofjpaaDoorPureSigReads
import Derived.Test.YtjhgeppjpofjpaaDoorOpen
import Derived.Test.YtjhgeppjpofjpaaDoorCards
import Derived.Test.YtjhgeppjpofjpaaDoorTie
import Derived.WalkKit
import Derived.ProofKit
import Derived.OpenShut
import Derived.ShutString
import Derived.ChangeOld
import Derived.Below
import Derived.SizedLaws
import Derived.LaidMore
import Derived.Stop.Joined
import Derived.SevenTiedAt
namespace Go.Proofs.YtjhgeppjpofjpaaDoor.sigReads
open Go.ChangeShapes Go.WideShapes Go.ChangeAt Go.RowKit Go.Proofs.YtjhgeppjpofjpaaDoor.PSigReads Go.Proofs.YtjhgeppjpofjpaaDoor.Opening Go.Proofs.YtjhgeppjpofjpaaDoorW.PrintWords
open Go.ChangeMaps (open_string shut_string)
set_option linter.unusedVariables false
theorem own : ownKnob Tryd.prog.godebug = none := by kernel_rfl
theorem laidOut : laidOutB Tryd.prog = true := by kernel_rfl
theorem door_met (os : Os) (args : Array Value) : laidMetH Tryd.prog Rows.sigReadsRow.laid ((World.doorLaid Tryd.prog 400 os).forCall (fun _ _ => 0) ⟨#[], args, []⟩).memory :=
  laidMetH_of_parts3 (fuel := 8) (laidMet_of_run' 8 (by kernel_rfl) (by kernel_rfl)) (by kernel_rfl) (by kernel_rfl)
theorem g0 : Tryd.prog.globalNamed "remora/crc.table" = some 1 := by kernel_rfl
theorem t0 : (Tryd.prog.globals[1]?).map (·.type) = some 105 := by kernel_rfl
theorem c0 : Tryd.prog.cellsOf 42 = 1 := by kernel_rfl
/-- What the condition gives the walks. -/
theorem of_laid {W : World} (h : laidMetH Tryd.prog Rows.sigReadsRow.laid W) : GL W := by
  rw [MakeChecks.laidMetH_plain _ _ _ (by kernel_rfl)] at h
  obtain ⟨ps_, ⟨g0_, t0_, cs0_, f0_, p0_, q0_, hg0, ht0, hv0, hd0, _, _⟩, _⟩ := h
  obtain rfl := Option.some.inj (g0.symm.trans hg0)
  obtain rfl := Option.some.inj (t0.symm.trans ht0)
  have cell0 : ∀ i, i < 16 → W.cell? ⟨1, i, none⟩ = some (.int .u32 (tab_table.getD i 0)) := fun i hi => by
    rw [World.var?_cell hg0 hv0 i, ← Array.getElem?_toList]
    exact table_cells (L := tab_table) (n := 16) (q := p0_) Tryd.underlying105 Tryd.underlying42 c0 hd0 rfl i hi
  exact ⟨World.block_lt_of_cell? _ _ (cell0 0 (by decide)), cell0⟩
set_option maxRecDepth 100000 in
theorem lifted (os : Os) (started : os.Started) (H : Type) (enc : TypeId × Value → H) :
    ReturnsInHanded {} Tryd.checked os 8 .any (fun w args => (Rows.sigReadsSpec.pre enc Tryd.prog Tryd.f8 [] false w args ∧ laidMetH Tryd.prog Rows.sigReadsRow.laid w) ∧ sizedMet enc Tryd.prog Tryd.f8 (OpenSpec.ofChange Rows.sigReadsSpec) false w args) (Rows.sigReadsSpec.post enc Tryd.prog Tryd.f8 false true false false) := by
  refine returnsInHanded_of_change_and (C := Tryd.checked) (X := (fun w _ => laidMetH Tryd.prog Rows.sigReadsRow.laid w)) (fun _ _ _ hh h => h.of_heap hh) own started (by kernel_rfl) Tryd.func8
    (ChangeSpec.witness_shaped (enc := enc) (C := Tryd.checked) (os := os) (X := (fun w _ => laidMetH Tryd.prog Rows.sigReadsRow.laid w)) false (World.doorLaid Tryd.prog 400 os) #[.slice none 0 0] 8 rfl (World.shaped_of_RefB (by kernel_rfl) (by kernel_rfl)) (by kernel_rfl) (by kernel_rfl) (by kernel_rfl) (door_met os _)) ?_
  intro W base args ds gs before hval0 hW hcnd hsz0 hL _
  have hsz : (DataW.weightsEach Tryd.prog (Tryd.f8.params.toList ++ Rows.sigReadsSpec.plain.varTypes Tryd.prog) (ds ++ gs)).all (· ≤ reachBytes) = true := hsz0
  have hval : ∀ (j : Nat) t v, Tryd.f8.params[j]? = some t → args[j]? = some v → Value.okWide Tryd.prog W .any base t v := hval0
  have hW' := hW
  obtain ⟨p, q, hA0, hV, rfl, hfz, hnd⟩ := hW
  have hA : DataW.TrodAll enc Tryd.prog W 0 (fun _ => true) true Tryd.f8.params.toList args.toList ds p := hA0
  rw [Tryd.params8] at hA hval hsz
  have hG := of_laid hL
  obtain ⟨v0, vs0, d0, ds0, p0, q0, hargs, rfl, rfl, h0, r0⟩ := trodAll_cons hA
  obtain ⟨rfl, rfl, rfl⟩ := trodAll_nil r0
  obtain rfl : args = #[v0] := by cases args; simp_all
  obtain ⟨rfl, rfl⟩ := trodVars_none hV
  have k0 := h0
  have lt0 : ∀ x ∈ p0, x.block < W.heap.size := by obtain ⟨m, hm⟩ := k0; exact DataW.trod_lt m _ _ _ hm
  obtain ⟨A0, c0, l0, rfl, hr0, hc0, ok0⟩ := opening_row (ok := (fun x0_ : List Int => (x0_.length ≤ maxLen ∧ ∀ q1_ ∈ x0_, (Lit.int .u8 q1_).wf = true))) Tryd.underlying22 (Opens.slice Tryd.underlying22 (Opens.int Tryd.underlying5) (by kernel_rfl)) (hval 0 22 v0 rfl rfl) h0
  have y0 : l0.length * 1 ≤ 140737488351232 := row_weight hsz (j := 0) (t := 22) rfl rfl Tryd.underlying22 (by kernel_rfl) k0
  clear hA0 hval0 hsz0 hsz
  obtain ⟨k_, h_⟩ := Pure.SigReads l0 ok0 y0
  refine (remoralaw06_SigReads.calls k_ A0 c0 l0 true W hr0 hc0 h_ hG).mono fun e W' ⟨he, bel0⟩ => ?_
  have bel : Below W.heap.size W W' := bel0
  subst he
  exact ⟨_, rfl, _, _, _, [], _, [], hW', trodAll_mk1 (shut_bool Tryd.underlying4 _), (trodAll_cons_mk (Below.trod laidOut (by kernel_rfl) (of_decide_eq_true (by kernel_rfl)) k0 bel lt0) trodAll_mk0), rfl, bel.frame _, fun h => by cases h⟩
theorem over : Rows.sigReadsRow.holds Tryd.pinned (OpenSpec.ofChange Rows.sigReadsSpec) :=
  OpenClaim.holds_of_wide 8 Tryd.f8 rfl rfl rfl rfl rfl rfl rfl ⟨rfl, rfl, rfl, rfl, rfl⟩ rfl rfl rfl rfl rfl (by kernel_rfl) Tryd.func8 (by kernel_rfl)
    (of_decide_eq_true (by kernel_rfl)) (by unfold Func.isWrapper; first | (rw [if_pos (by decide +kernel)]; kernel_rfl) | (rw [if_neg (by decide +kernel)]; exact ⟨rfl, rfl⟩))
    (fun os started H enc _ => lifted os started H enc)
theorem proved : Rows.SigReadsSaid := over
theorem carded : Rows.SigReadsCardSaid :=
  Claim7.holds_tied_plain_at .later [] [.data] true (true, "da55afbea98e5147bce023d713bea481fb370c16e0ea97e30293bad4cbb1faf2") false
    proved (fun _ h => by cases h) (by kernel_rfl) (fun _ h => by cases h) sigReads_row_tie rfl ⟨rfl, rfl⟩ (by kernel_rfl) rfl
    (fun f fn hf hfn => by
      obtain rfl : f = 8 := Option.some.inj ((show Tryd.prog.funcNamed "remora/remoralaw06.SigReads" = some 8 by kernel_rfl).symm.trans hf) |>.symm
      obtain rfl : fn = Tryd.f8 := (Option.some.inj (Tryd.func8.symm.trans hfn)).symm
      exact ⟨by kernel_rfl, fun j t ht => by
        rw [Tryd.params8] at ht
        have hm : t ∈ [22] := by simpa using Array.mem_of_getElem? ht
        have hall : ([22].all fun u => !Tryd.prog.wantsStandIn u) = true := by kernel_rfl
        exact (show Tryd.prog.wantsStandIn t = false by simpa using List.all_eq_true.1 hall t hm)⟩)
    (by kernel_rfl)
#print axioms carded
end Go.Proofs.YtjhgeppjpofjpaaDoor.sigReads
namespace Go.Proofs.YtjhgeppjpofjpaaDoor
/-- The row, under a short name, for the claim. -/
theorem sigReads_holds : Rows.SigReadsCardSaid := sigReads.carded
end Go.Proofs.YtjhgeppjpofjpaaDoor
