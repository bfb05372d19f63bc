/- The row of the law GearSame, out of its plain statement and the walk. Conditions: none beyond the row's own. -/
import Derived.Test.YtpelnalhdpjabaaDoorRows
import Derived.Test.YtpelnalhdpjabaaDoorPGearSamex3
import Derived.Test.YtpelnalhdpjabaaDoorPureGearSame
import Derived.Test.YtpelnalhdpjabaaDoorOpen
import Derived.Test.YtpelnalhdpjabaaDoorCards
import Derived.Test.YtpelnalhdpjabaaDoorTie
import Derived.WalkKit
import Derived.ProofKit
import Derived.OpenShut
import Derived.ShutString
import Derived.ChangeOld
import Derived.Below
import Derived.SizedLaws
import Derived.LaidMore
import Derived.Stop.Joined
import Derived.SevenTiedAt
namespace Go.Proofs.YtpelnalhdpjabaaDoor.gearSame
open Go.ChangeShapes Go.WideShapes Go.ChangeAt Go.RowKit Go.Proofs.YtpelnalhdpjabaaDoor.PGearSame Go.Proofs.YtpelnalhdpjabaaDoor.Opening Go.Proofs.YtpelnalhdpjabaaDoorW.PrintWords
open Go.ChangeMaps (open_string shut_string)
set_option linter.unusedVariables false
theorem own : ownKnob Tryd.prog.godebug = none := by kernel_rfl
theorem laidOut : laidOutB Tryd.prog = true := by kernel_rfl
theorem door_met (os : Os) (args : Array Value) : laidMetH Tryd.prog Rows.gearSameRow.laid ((World.doorLaid Tryd.prog 400 os).forCall (fun _ _ => 0) ⟨#[], args, []⟩).memory :=
  laidMetH_of_parts3 (fuel := 8) (laidMet_of_run' 8 (by kernel_rfl) (by kernel_rfl)) (by kernel_rfl) (by kernel_rfl)
theorem g0 : Tryd.prog.globalNamed "remora/gear.numbers" = some 0 := by kernel_rfl
theorem t0 : (Tryd.prog.globals[0]?).map (·.type) = some 49 := by kernel_rfl
theorem c0 : Tryd.prog.cellsOf 24 = 1 := by kernel_rfl
/-- What the condition gives the walks. -/
theorem of_laid {W : World} (h : laidMetH Tryd.prog Rows.gearSameRow.laid W) : GL W := by
  rw [MakeChecks.laidMetH_plain _ _ _ (by kernel_rfl)] at h
  obtain ⟨ps_, ⟨g0_, t0_, cs0_, f0_, p0_, q0_, hg0, ht0, hv0, hd0, _, _⟩, _⟩ := h
  obtain rfl := Option.some.inj (g0.symm.trans hg0)
  obtain rfl := Option.some.inj (t0.symm.trans ht0)
  have cell0 : ∀ i, i < 16 → W.cell? ⟨0, i, none⟩ = some (.int .u64 (tab_numbers.getD i 0)) := fun i hi => by
    rw [World.var?_cell hg0 hv0 i, ← Array.getElem?_toList]
    exact table_cells (L := tab_numbers) (n := 16) (q := p0_) Tryd.underlying49 Tryd.underlying24 c0 hd0 rfl i hi
  exact ⟨World.block_lt_of_cell? _ _ (cell0 0 (by decide)), cell0⟩
set_option maxRecDepth 100000 in
theorem lifted (os : Os) (started : os.Started) (H : Type) (enc : TypeId × Value → H) :
    ReturnsInHanded {} Tryd.checked os 5 .any (fun w args => (Rows.gearSameSpec.pre enc Tryd.prog Tryd.f5 [] false w args ∧ laidMetH Tryd.prog Rows.gearSameRow.laid w) ∧ sizedMet enc Tryd.prog Tryd.f5 (OpenSpec.ofChange Rows.gearSameSpec) false w args) (Rows.gearSameSpec.post enc Tryd.prog Tryd.f5 false true false false) := by
  refine returnsInHanded_of_change_and (C := Tryd.checked) (X := (fun w _ => laidMetH Tryd.prog Rows.gearSameRow.laid w)) (fun _ _ _ hh h => h.of_heap hh) own started (by kernel_rfl) Tryd.func5
    (ChangeSpec.witness_shaped (enc := enc) (C := Tryd.checked) (os := os) (X := (fun w _ => laidMetH Tryd.prog Rows.gearSameRow.laid w)) false (World.doorLaid Tryd.prog 400 os) #[.agg #[.slice none 0 0, .slice none 0 0], .slice none 0 0, .agg #[.int .i64 0, .int .i64 0, .int .i64 0]] 8 rfl (World.shaped_of_RefB (by kernel_rfl) (by kernel_rfl)) (by kernel_rfl) (by kernel_rfl) (by kernel_rfl) (door_met os _)) ?_
  intro W base args ds gs before hval0 hW hcnd hsz0 hL _
  have hsz : (DataW.weightsEach Tryd.prog (Tryd.f5.params.toList ++ Rows.gearSameSpec.plain.varTypes Tryd.prog) (ds ++ gs)).all (· ≤ reachBytes) = true := hsz0
  have hval : ∀ (j : Nat) t v, Tryd.f5.params[j]? = some t → args[j]? = some v → Value.okWide Tryd.prog W .any base t v := hval0
  have hW' := hW
  obtain ⟨p, q, hA0, hV, rfl, hfz, hnd⟩ := hW
  have hA : DataW.TrodAll enc Tryd.prog W 0 (fun _ => true) true Tryd.f5.params.toList args.toList ds p := hA0
  rw [Tryd.params5] at hA hval hsz
  have hG := of_laid hL
  obtain ⟨v0, vs0, d0, ds0, p0, q0, hargs, rfl, rfl, h0, r0⟩ := trodAll_cons hA
  obtain ⟨v1, vs1, d1, ds1, p1, q1, rfl, rfl, rfl, h1, r1⟩ := trodAll_cons r0
  obtain ⟨v2, vs2, d2, ds2, p2, q2, rfl, rfl, rfl, h2, r2⟩ := trodAll_cons r1
  obtain ⟨rfl, rfl, rfl⟩ := trodAll_nil r2
  obtain rfl : args = #[v0, v1, v2] := by cases args; simp_all
  obtain ⟨rfl, rfl⟩ := trodVars_none hV
  have k0 := h0
  have lt0 : ∀ x ∈ p0, x.block < W.heap.size := by obtain ⟨m, hm⟩ := k0; exact DataW.trod_lt m _ _ _ hm
  obtain ⟨x0, cs0, rfl, hk0, ok0⟩ := opening_arr (d := k37) (ok := (fun x0_ : S37 => ((x0_.f0.length ≤ maxLen ∧ ∀ q1_ ∈ x0_.f0, (Lit.int .u8 q1_).wf = true) ∧ (x0_.f1.length ≤ maxLen ∧ ∀ q1_ ∈ x0_.f1, (Lit.int .u8 q1_).wf = true)))) Tryd.underlying37 (Opens.array2 Tryd.underlying37 (Opens.slice Tryd.underlying33 (Opens.int Tryd.underlying5) (by kernel_rfl)) (by kernel_rfl) (by kernel_rfl) (fun x_ : S37 => (x_.f0, x_.f1)) (fun y_ => ⟨y_.1, y_.2⟩) (fun _ => rfl)) (hval 0 37 v0 rfl rfl) h0
  obtain ⟨cs_1, cs_2, rfl, hk_3, hk_4⟩ := hk0
  obtain ⟨A_5, c_6, rfl, hC_7, hl_8⟩ := slice_cell hk_3
  obtain ⟨A_9, c_10, rfl, hC_11, hl_12⟩ := slice_cell hk_4
  have k1 := h1
  have lt1 : ∀ x ∈ p1, x.block < W.heap.size := by obtain ⟨m, hm⟩ := k1; exact DataW.trod_lt m _ _ _ hm
  obtain ⟨A1, c1, l1, rfl, hr1, hc1, ok1⟩ := opening_row (ok := (fun x0_ : List Int => (x0_.length ≤ maxLen ∧ ∀ q1_ ∈ x0_, (Lit.int .u8 q1_).wf = true))) Tryd.underlying33 (Opens.slice Tryd.underlying33 (Opens.int Tryd.underlying5) (by kernel_rfl)) (hval 1 33 v1 rfl rfl) h1
  have y1 : l1.length * 1 ≤ 140737488351232 := row_weight hsz (j := 1) (t := 33) rfl rfl Tryd.underlying33 (by kernel_rfl) k1
  have k2 := h2
  have lt2 : ∀ x ∈ p2, x.block < W.heap.size := by obtain ⟨m, hm⟩ := k2; exact DataW.trod_lt m _ _ _ hm
  obtain ⟨x2, cs2, rfl, hk2, ok2⟩ := opening_agg (d := k23) (ok := (fun x0_ : S23 => ((Lit.int .i64 x0_.f0).wf = true ∧ ((Lit.int .i64 x0_.f1).wf = true ∧ (Lit.int .i64 x0_.f2).wf = true)))) Tryd.underlying23 (Opens.struct Tryd.underlying23 (OpensF.cons (Opens.int Tryd.underlying3) rfl (by kernel_rfl) (OpensF.cons (Opens.int Tryd.underlying3) rfl (by kernel_rfl) (OpensF.one (Opens.int Tryd.underlying3) rfl (by kernel_rfl)))) (by kernel_rfl) (fun x_ : S23 => (x_.f0, x_.f1, x_.f2)) (fun y_ => ⟨y_.1, y_.2.1, y_.2.2⟩) (fun _ => rfl)) (hval 2 23 v2 rfl rfl) h2
  obtain ⟨cs_13, cs_14, rfl, hk_15, hk_16⟩ := hk2
  obtain rfl := one_cell hk_15
  obtain ⟨cs_17, cs_18, rfl, hk_19, hk_20⟩ := hk_16
  obtain rfl := one_cell hk_19
  obtain rfl := one_cell hk_20
  clear hA0 hval0 hsz0 hsz
  obtain ⟨k_, h_⟩ := Pure.GearSame x0.f0 x0.f1 l1 x2.f0 x2.f1 x2.f2 ok0.1 ok0.2 ok1 y1 ok2.1 ok2.2.1 ok2.2.2
  refine (remoralaw11_GearSame.calls k_ A_5 c_6 x0.f0 A_9 c_10 x0.f1 A1 c1 l1 x2.f0 x2.f1 x2.f2 true W hC_7 hl_8 hC_11 hl_12 hr1 hc1 h_ hG).mono fun e W' ⟨he, bel0⟩ => ?_
  have bel : Below W.heap.size W W' := bel0
  subst he
  exact ⟨_, rfl, _, _, _, [], _, [], hW', trodAll_mk1 (shut_bool Tryd.underlying4 _), (trodAll_cons_mk (Below.trod laidOut (by kernel_rfl) (of_decide_eq_true (by kernel_rfl)) k0 bel lt0) (trodAll_cons_mk (Below.trod laidOut (by kernel_rfl) (of_decide_eq_true (by kernel_rfl)) k1 bel lt1) (trodAll_cons_mk (Below.trod laidOut (by kernel_rfl) (of_decide_eq_true (by kernel_rfl)) k2 bel lt2) trodAll_mk0))), rfl, bel.frame _, fun h => by cases h⟩
theorem over : Rows.gearSameRow.holds Tryd.pinned (OpenSpec.ofChange Rows.gearSameSpec) :=
  OpenClaim.holds_of_wide 5 Tryd.f5 rfl rfl rfl rfl rfl rfl rfl ⟨rfl, rfl, rfl, rfl, rfl⟩ rfl rfl rfl rfl rfl (by kernel_rfl) Tryd.func5 (by kernel_rfl)
    (of_decide_eq_true (by kernel_rfl)) (by unfold Func.isWrapper; first | (rw [if_pos (by decide +kernel)]; kernel_rfl) | (rw [if_neg (by decide +kernel)]; exact ⟨rfl, rfl⟩))
    (fun os started H enc _ => lifted os started H enc)
theorem proved : Rows.GearSameSaid := over
theorem carded : Rows.GearSameCardSaid :=
  Claim7.holds_tied_plain_at .later [] [.data] true (true, "17feaed5bb5c4912873e64dc72ef8d5e2756065bb334fac99405ead9a0b766d9") false
    proved (fun _ h => by cases h) (by kernel_rfl) (fun _ h => by cases h) gearSame_row_tie rfl ⟨rfl, rfl⟩ (by kernel_rfl) rfl
    (fun f fn hf hfn => by
      obtain rfl : f = 5 := Option.some.inj ((show Tryd.prog.funcNamed "remora/remoralaw11.GearSame" = some 5 by kernel_rfl).symm.trans hf) |>.symm
      obtain rfl : fn = Tryd.f5 := (Option.some.inj (Tryd.func5.symm.trans hfn)).symm
      exact ⟨by kernel_rfl, fun j t ht => by
        rw [Tryd.params5] at ht
        have hm : t ∈ [37, 33, 23] := by simpa using Array.mem_of_getElem? ht
        have hall : ([37, 33, 23].all fun u => !Tryd.prog.wantsStandIn u) = true := by kernel_rfl
        exact (show Tryd.prog.wantsStandIn t = false by simpa using List.all_eq_true.1 hall t hm)⟩)
    (by kernel_rfl)
#print axioms carded
end Go.Proofs.YtpelnalhdpjabaaDoor.gearSame
namespace Go.Proofs.YtpelnalhdpjabaaDoor
/-- The row, under a short name, for the claim. -/
theorem gearSame_holds : Rows.GearSameCardSaid := gearSame.carded
end Go.Proofs.YtpelnalhdpjabaaDoor
