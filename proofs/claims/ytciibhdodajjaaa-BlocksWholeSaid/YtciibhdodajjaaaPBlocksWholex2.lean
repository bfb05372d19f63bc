-- Written by a program of this session (the kit's printer with hand-written contracts among its functions).
import Derived.Test.YtciibhdodajjaaaPBlocksWholex0
import Derived.Test.YtciibhdodajjaaaPBlocksWholex1
namespace Go.Proofs.Ytciibhdodajjaaa.PBlocksWhole
open Go.RowKit Go.Proofs.YtciibhdodajjaaaW.PrintWords Go.Proofs.YtciibhdodajjaaaW.PrintLast Go.Proofs.YtciibhdodajjaaaW.PrintMore
attribute [local go_sem] max2_int min2_int max_two min_two max_three min_three max_four min_four   -- for this text's walks alone
set_option linter.unusedVariables false
set_option linter.unusedSimpArgs false

/-! ### remoralaw05_BlocksWhole: function 9 -/
def remoralaw05_BlocksWhole.l0 : Nat → List Int → Int → List (List Int) → Int → Int → Option (Bool)
  | 0, _, _, _, _, _ => none
  | k + 1, x0, x1, x5, x7, x8 => if x8 < (x5.length : Int) then (if 0 ≤ x8 then (if ((rd_L1 x5 x8).length : Int) < 1 then (none) else (if ((rd_L1 x5 x8).length : Int) > x1 then (none) else (if (wrap64 (x8 + 1)) < (x5.length : Int) then (if ((rd_L1 x5 x8).length : Int) = x1 then (if (wrap64 (x7 + ((rd_L1 x5 x8).length : Int))) > (x0.length : Int) then (none) else (if 0 ≤ x7 then (if x7 ≤ (wrap64 (x7 + ((rd_L1 x5 x8).length : Int))) then (if (wrap64 (x7 + ((rd_L1 x5 x8).length : Int))) ≤ (x0.length : Int) then (if (strOfNums ((x0.take ((wrap64 (x7 + ((rd_L1 x5 x8).length : Int))) : Int).toNat).drop (x7 : Int).toNat)).toList = (strOfNums (rd_L1 x5 x8)).toList then (remoralaw05_BlocksWhole.l0 k x0 x1 x5 (wrap64 (x7 + ((rd_L1 x5 x8).length : Int))) (wrap64 (x8 + 1))) else (none)) else (none)) else (none)) else (none))) else (none)) else (if (wrap64 (x7 + ((rd_L1 x5 x8).length : Int))) > (x0.length : Int) then (none) else (if 0 ≤ x7 then (if x7 ≤ (wrap64 (x7 + ((rd_L1 x5 x8).length : Int))) then (if (wrap64 (x7 + ((rd_L1 x5 x8).length : Int))) ≤ (x0.length : Int) then (if (strOfNums ((x0.take ((wrap64 (x7 + ((rd_L1 x5 x8).length : Int))) : Int).toNat).drop (x7 : Int).toNat)).toList = (strOfNums (rd_L1 x5 x8)).toList then (remoralaw05_BlocksWhole.l0 k x0 x1 x5 (wrap64 (x7 + ((rd_L1 x5 x8).length : Int))) (wrap64 (x8 + 1))) else (none)) else (none)) else (none)) else (none)))))) else (none)) else (if x7 = (x0.length : Int) then ((blocks_Count.f (x0.length : Int) x1).bind fun t133 => (if t133 = (x5.length : Int) then ((remoralaw05_awake.f k).bind fun t134 => (some t134)) else (none))) else (none))
def remoralaw05_BlocksWhole.f (k : Nat) (l0 : List Int) (a1 : Int) : Option (Bool) := if (l0.length : Int) > 140000 then ((remoralaw05_awake.f k).bind fun t113 => (some t113)) else ((blocks_Cut.f l0 a1).bind fun bt114 => (if bt114.2 = 0 then (remoralaw05_BlocksWhole.l0 k l0 a1 bt114.1 0 0) else (if (bt114.1.length : Int) = 0 then ((blocks_Right.f (l0.length : Int) a1).bind fun t118 => (if t118 = true then (none) else ((remoralaw05_awake.f k).bind fun t119 => (some t119)))) else (none))))
theorem remoralaw05_BlocksWhole.mono_l : ∀ k, (∀ y0 y1 y2 y3 y4, LeO (remoralaw05_BlocksWhole.l0 k y0 y1 y2 y3 y4) (remoralaw05_BlocksWhole.l0 (k + 1) y0 y1 y2 y3 y4))
  | 0 => fun _ _ _ _ _ r h => by simp [remoralaw05_BlocksWhole.l0] at h
  | k + 1 => by
    have ih0 := remoralaw05_BlocksWhole.mono_l k
    · intro y0 y1 y2 y3 y4
      unfold remoralaw05_BlocksWhole.l0
      repeat' first
      | (with_reducible exact ih0 _ _ _ _ _)
      | (with_reducible exact remoralaw05_awake.mono _)
      | (with_reducible exact LeO.refl _)
      | (with_reducible exact LeO.none _)
      | (with_reducible refine LeO.ite ?_ ?_)
      | (with_reducible refine LeO.bind ?_ (fun _ => ?_))
      | exact ih0 _ _ _ _ _
      | exact remoralaw05_awake.mono _
      | exact LeO.none _
      | refine LeO.ite ?_ ?_
      | refine LeO.bind ?_ (fun _ => ?_)
theorem remoralaw05_BlocksWhole.mono : ∀ a0 a1 k, LeO (remoralaw05_BlocksWhole.f k a0 a1) (remoralaw05_BlocksWhole.f (k + 1) a0 a1) := by
  intro a0 a1 k
  have ih0 := remoralaw05_BlocksWhole.mono_l k
  unfold remoralaw05_BlocksWhole.f
  repeat' first
      | (with_reducible exact ih0 _ _ _ _ _)
      | (with_reducible exact remoralaw05_awake.mono _)
      | (with_reducible exact LeO.refl _)
      | (with_reducible exact LeO.none _)
      | (with_reducible refine LeO.ite ?_ ?_)
      | (with_reducible refine LeO.bind ?_ (fun _ => ?_))
      | exact ih0 _ _ _ _ _
      | exact remoralaw05_awake.mono _
      | exact LeO.none _
      | refine LeO.ite ?_ ?_
      | refine LeO.bind ?_ (fun _ => ?_)
set_option maxHeartbeats 8000000 in
set_option maxRecDepth 100000 in
theorem remoralaw05_BlocksWhole.calls (k : Nat) (A0 : Option Addr) (c0 : Nat) (l0 : List Int) (a1 : Int) (r : Bool) (w : World) (hr0 : Kd.C (Kd.int .u8) w A0 l0.length l0) (hc0 : l0.length ≤ c0) (h : remoralaw05_BlocksWhole.f k l0 a1 = some r) :
    Calls Try.prog 9 #[.slice A0 l0.length c0, .int .i64 a1] w fun e w' => e = .returned (.bool r) ∧ Below w.heap.size w w' := by
  have HR0 := Aside0.mk hr0
  have HC0 := Aside0.mk hc0
  clear hr0 hc0
  have HB := Aside0.mk (Below.refl w.heap.size w)
  have H : (if (l0.length : Int) > 140000 then ((remoralaw05_awake.f k).bind fun t113 => (some t113)) else ((blocks_Cut.f l0 a1).bind fun bt114 => (if bt114.2 = 0 then (remoralaw05_BlocksWhole.l0 k l0 a1 bt114.1 0 0) else (if (bt114.1.length : Int) = 0 then ((blocks_Right.f (l0.length : Int) a1).bind fun t118 => (if t118 = true then (none) else ((remoralaw05_awake.f k).bind fun t119 => (some t119)))) else (none))))) = some r := h
  clear h
  by_cases c3 : (l0.length : Int) > 140000
  · rw [if_pos c3] at H
    have c3b0 : decide (140000 < (l0.length : Int)) = true := decide_eq_true c3
    have c3b1 : decide (140000 < l0.length) = true := decide_eq_true (by omega)
    clear c3
    replace H := Option.bind_eq_some_iff.mp H
    obtain ⟨t113, A40, H⟩ := H
    replace H : (some t113) = some r := H
    have A4 := Aside0.mk A40
    clear A40
    obtain rfl := Option.some.inj H
    go_enter Try.func9, Try.ntmps9
    go_wp2_with (first | (go_at_call 16; (with_reducible refine (remoralaw05_awake.calls k  t113 _ A4.out).mono ?_); rintro e w5 ⟨rfl, hb⟩; have n0_ := Aside0.mk (below_step (by repeat (first | (with_reducible first | exact HB.out | apply below_alloc | apply pw_below_drewN | apply below_drew1) | exact HB.out)) hb); clear HB; have HB := n0_; clear n0_; (try clear hb); (try clear hb2); (try clear hk); (try clear hi)))
    repeat (go_quiet (first | (go_at_call 16; (with_reducible refine (remoralaw05_awake.calls k  t113 _ A4.out).mono ?_); rintro e w5 ⟨rfl, hb⟩; have n0_ := Aside0.mk (below_step (by repeat (first | (with_reducible first | exact HB.out | apply below_alloc | apply pw_below_drewN | apply below_drew1) | exact HB.out)) hb); clear HB; have HB := n0_; clear n0_; (try clear hb); (try clear hb2); (try clear hk); (try clear hi))); try go_wp2_with (first | (go_at_call 16; (with_reducible refine (remoralaw05_awake.calls k  t113 _ A4.out).mono ?_); rintro e w5 ⟨rfl, hb⟩; have n0_ := Aside0.mk (below_step (by repeat (first | (with_reducible first | exact HB.out | apply below_alloc | apply pw_below_drewN | apply below_drew1) | exact HB.out)) hb); clear HB; have HB := n0_; clear n0_; (try clear hb); (try clear hb2); (try clear hk); (try clear hi))))
    go_ret
    exact ⟨by first | rfl | (simp [errW_none, errW_some] <;> rfl) | (simp [*, errW_none, errW_some] <;> rfl), by repeat (first | (with_reducible first | exact HB.out | apply below_alloc | apply pw_below_drewN | apply below_drew1) | exact HB.out)⟩
  · rw [if_neg c3] at H
    have c3b0 : decide (140000 < (l0.length : Int)) = false := decide_eq_false c3
    have c3b1 : decide (140000 < l0.length) = false := decide_eq_false (by omega)
    clear c3
    replace H := Option.bind_eq_some_iff.mp H
    obtain ⟨⟨t114, t115⟩, A60, H⟩ := H
    replace H : (if t115 = 0 then (remoralaw05_BlocksWhole.l0 k l0 a1 t114 0 0) else (if (t114.length : Int) = 0 then ((blocks_Right.f (l0.length : Int) a1).bind fun t118 => (if t118 = true then (none) else ((remoralaw05_awake.f k).bind fun t119 => (some t119)))) else (none))) = some r := H
    have A6 := Aside0.mk A60
    clear A60
    by_cases c7 : t115 = 0
    · rw [if_pos c7] at H
      have c7b0 : (t115 == 0) = true := beq_iff_eq.mpr c7
      have c7b1 : (t115 != 0) = false := bne_eq_false_iff_eq.mpr c7
      clear c7
      have H' := Aside0.mk H
      clear H
      go_enter Try.func9, Try.ntmps9
      go_wp2_with (first | (go_at_call 23; (with_reducible refine (blocks_Cut.calls _ _ l0 a1 t114 t115 _ ?side1 ?side2 A6.out).mono ?_); (case side1 => repeat (first | exact HR0.out | (with_reducible refine Kd.C_alloc ?_ _) | (with_reducible refine Kd.C_drewN ?_ _) | (with_reducible refine Kd.C_drew ?_))); (case side2 => exact HC0.out); rintro e w8 ⟨v116, rfl, ho0, hb⟩; have n0_ := Aside0.mk (Kd.S_lower ho0 (below_size (by repeat (first | (with_reducible first | exact HB.out | apply below_alloc | apply pw_below_drewN | apply below_drew1) | exact HB.out)))); have n1_ := Aside0.mk (below_step (by repeat (first | (with_reducible first | exact HB.out | apply below_alloc | apply pw_below_drewN | apply below_drew1) | exact HB.out)) hb); clear HB; have HO117 := n0_; have HB := n1_; clear n0_ n1_; (try clear hb); (try clear hb2); (try clear hk); (try clear hi); (try clear ho0)))
      repeat (go_quiet (first | (go_at_call 23; (with_reducible refine (blocks_Cut.calls _ _ l0 a1 t114 t115 _ ?side1 ?side2 A6.out).mono ?_); (case side1 => repeat (first | exact HR0.out | (with_reducible refine Kd.C_alloc ?_ _) | (with_reducible refine Kd.C_drewN ?_ _) | (with_reducible refine Kd.C_drew ?_))); (case side2 => exact HC0.out); rintro e w8 ⟨v116, rfl, ho0, hb⟩; have n0_ := Aside0.mk (Kd.S_lower ho0 (below_size (by repeat (first | (with_reducible first | exact HB.out | apply below_alloc | apply pw_below_drewN | apply below_drew1) | exact HB.out)))); have n1_ := Aside0.mk (below_step (by repeat (first | (with_reducible first | exact HB.out | apply below_alloc | apply pw_below_drewN | apply below_drew1) | exact HB.out)) hb); clear HB; have HO117 := n0_; have HB := n1_; clear n0_ n1_; (try clear hb); (try clear hb2); (try clear hk); (try clear hi); (try clear ho0))); try go_wp2_with (first | (go_at_call 23; (with_reducible refine (blocks_Cut.calls _ _ l0 a1 t114 t115 _ ?side1 ?side2 A6.out).mono ?_); (case side1 => repeat (first | exact HR0.out | (with_reducible refine Kd.C_alloc ?_ _) | (with_reducible refine Kd.C_drewN ?_ _) | (with_reducible refine Kd.C_drew ?_))); (case side2 => exact HC0.out); rintro e w8 ⟨v116, rfl, ho0, hb⟩; have n0_ := Aside0.mk (Kd.S_lower ho0 (below_size (by repeat (first | (with_reducible first | exact HB.out | apply below_alloc | apply pw_below_drewN | apply below_drew1) | exact HB.out)))); have n1_ := Aside0.mk (below_step (by repeat (first | (with_reducible first | exact HB.out | apply below_alloc | apply pw_below_drewN | apply below_drew1) | exact HB.out)) hb); clear HB; have HO117 := n0_; have HB := n1_; clear n0_ n1_; (try clear hb); (try clear hb2); (try clear hk); (try clear hi); (try clear ho0))))
      go_loopg [7, 8] k (fun kq v7 v8 w' => ∃ (x7_1 : Int) (x8_1 : Int), v7 = .int .i64 x7_1 ∧ v8 = .int .i64 x8_1 ∧ Aside0 (remoralaw05_BlocksWhole.l0 kq l0 a1 t114 x7_1 x8_1 = some r) ∧ Aside0 (kq ≤ k) ∧ Aside0 (Kd.S (Kd.slice 5 (Kd.int .u8)) 32 w' w.heap.size (fun _ => True) v116 t114) ∧ Aside0 (Below w.heap.size w w'))
      case atStart => exact ⟨(0), (0), (by first | rfl | (simp; done) | (simp [*]; done)), (by first | rfl | (simp; done) | (simp [*]; done)), H', ⟨Nat.le_refl _⟩, ⟨by (with_reducible repeat (first | apply Kd.S_alloc | apply Kd.S_drewN | apply Kd.S_drew)); exact HO117.out⟩, ⟨by repeat (first | (with_reducible first | exact HB.out | apply below_alloc | apply pw_below_drewN | apply below_drew1) | exact HB.out)⟩⟩
      case round =>
        clear H'
        try clear p2
        try clear c3
        try clear c3b0
        try clear c3b1
        try clear c7
        try clear c7b0
        try clear c7b1
        obtain ⟨x7_1, x8_1, rfl, rfl, HA, HK1, HO_5, HB⟩ := hrel
        cases gk with
        | zero => exact absurd HA.out (by simp [remoralaw05_BlocksWhole.l0])
        | succ k1 =>
          have H := HA.out
          clear HA
          simp only [remoralaw05_BlocksWhole.l0] at H
          by_cases c9 : x8_1 < (t114.length : Int)
          · rw [if_pos c9] at H
            have c9b0 : decide (x8_1 < (t114.length : Int)) = true := decide_eq_true c9
            clear c9
            by_cases c10 : 0 ≤ x8_1
            · rw [if_pos c10] at H
              have c10b0 : decide (0 ≤ x8_1) = true := decide_eq_true c10
              clear c10
              by_cases c11 : ((rd_L1 t114 x8_1).length : Int) < 1
              · rw [if_pos c11] at H
                exact absurd H (by simp)
              · rw [if_neg c11] at H
                have c11b0 : decide (((rd_L1 t114 x8_1).length : Int) < 1) = false := decide_eq_false c11
                have c11b1 : decide ((rd_L1 t114 x8_1).length < 1) = false := decide_eq_false (by omega)
                clear c11
                by_cases c12 : ((rd_L1 t114 x8_1).length : Int) > a1
                · rw [if_pos c12] at H
                  exact absurd H (by simp)
                · rw [if_neg c12] at H
                  have c12b0 : decide (a1 < ((rd_L1 t114 x8_1).length : Int)) = false := decide_eq_false c12
                  clear c12
                  by_cases c13 : (wrap64 (x8_1 + 1)) < (t114.length : Int)
                  · rw [if_pos c13] at H
                    have c13b0 : decide ((wrap64 (x8_1 + 1)) < (t114.length : Int)) = true := decide_eq_true c13
                    clear c13
                    by_cases c14 : ((rd_L1 t114 x8_1).length : Int) = a1
                    · rw [if_pos c14] at H
                      have c14b0 : (((rd_L1 t114 x8_1).length : Int) == a1) = true := beq_iff_eq.mpr c14
                      have c14b1 : (((rd_L1 t114 x8_1).length : Int) != a1) = false := bne_eq_false_iff_eq.mpr c14
                      clear c14
                      by_cases c15 : (wrap64 (x7_1 + ((rd_L1 t114 x8_1).length : Int))) > (l0.length : Int)
                      · rw [if_pos c15] at H
                        exact absurd H (by simp)
                      · rw [if_neg c15] at H
                        have c15b0 : decide ((l0.length : Int) < (wrap64 (x7_1 + ((rd_L1 t114 x8_1).length : Int)))) = false := decide_eq_false c15
                        clear c15
                        by_cases c16 : 0 ≤ x7_1
                        · rw [if_pos c16] at H
                          have c16b0 := eq_true c16
                          have c16b1 : decide (0 ≤ x7_1) = true := decide_eq_true c16
                          clear c16
                          by_cases c17 : x7_1 ≤ (wrap64 (x7_1 + ((rd_L1 t114 x8_1).length : Int)))
                          · rw [if_pos c17] at H
                            have c17b0 := eq_true c17
                            have c17b1 : decide (x7_1 ≤ (wrap64 (x7_1 + ((rd_L1 t114 x8_1).length : Int)))) = true := decide_eq_true c17
                            by_cases c18 : (wrap64 (x7_1 + ((rd_L1 t114 x8_1).length : Int))) ≤ (l0.length : Int)
                            · rw [if_pos c18] at H
                              have c18b0 := eq_true c18
                              have c18b1 : decide ((wrap64 (x7_1 + ((rd_L1 t114 x8_1).length : Int))) ≤ (l0.length : Int)) = true := decide_eq_true c18
                              by_cases c19 : (strOfNums ((l0.take ((wrap64 (x7_1 + ((rd_L1 t114 x8_1).length : Int))) : Int).toNat).drop (x7_1 : Int).toNat)).toList = (strOfNums (rd_L1 t114 x8_1)).toList
                              · rw [if_pos c19] at H
                                have c19b0 : ((strOfNums ((l0.take ((wrap64 (x7_1 + ((rd_L1 t114 x8_1).length : Int))) : Int).toNat).drop (x7_1 : Int).toNat)).toList == (strOfNums (rd_L1 t114 x8_1)).toList) = true := beq_iff_eq.mpr c19
                                have c19b1 : ((strOfNums ((l0.take ((wrap64 (x7_1 + ((rd_L1 t114 x8_1).length : Int))) : Int).toNat).drop (x7_1 : Int).toNat)).toList != (strOfNums (rd_L1 t114 x8_1)).toList) = false := bne_eq_false_iff_eq.mpr c19
                                clear c19
                                have H' := Aside0.mk H
                                clear H
                                obtain ⟨Ao20, co20, eo20⟩ := Kd.S_slice HO_5.out
                                subst eo20
                                have p120 : 0 ≤ (x8_1 : Int) := of_decide_eq_true (by first | (with_reducible assumption) | assumption)
                                have q120 : x8_1 < (t114.length : Int) := of_decide_eq_true (by first | (with_reducible assumption) | assumption)
                                obtain ⟨ad120, A120_0, c120_0, e120, hx120_0, hl120_0, hi120_0⟩ := at_L1 (Kd.S_reads' HO_5.out).2.2 x8_1 p120 q120
                                cases e120
                                obtain ⟨ce120, hce120, hMe120, hcc120⟩ := Kd.S_get HO_5.out [] x8_1 p120 (by first | exact q120 | exact of_decide_eq_true (by first | (with_reducible assumption) | assumption) | (have e_ := (Kd.S_reads' HO_5.out).1; omega))
                                obtain ⟨ve120_0, rfl, ge120_0⟩ := hMe120
                                have hv120_0 := hcc120 0 _ rfl
                                rw [Nat.add_zero, show ((Kd.slice 5 (Kd.int .u8))).sz = 1 from rfl, Nat.mul_one] at hv120_0
                                replace hv120_0 := Option.some.inj (hv120_0.symm.trans hx120_0)
                                rw [hv120_0] at ge120_0
                                have HL120_0 := Aside0.mk (show Kd.R (Kd.int .u8) 5 _ _ _ _ (rd_L1 t114 x8_1) from ge120_0)
                                clear hv120_0 ge120_0
                                clear hcc120 hce120
                                have HR120_0 := Aside0.mk hi120_0
                                have HC120_0 := Aside0.mk hl120_0
                                clear hi120_0 hl120_0
                                replace p120 := eq_true p120
                                replace q120 := eq_true q120
                                have p121 : 0 ≤ (x8_1 : Int) := of_decide_eq_true (by first | (with_reducible assumption) | assumption)
                                have q121 : x8_1 < (t114.length : Int) := of_decide_eq_true (by first | (with_reducible assumption) | assumption)
                                obtain ⟨ad121, A121_0, c121_0, e121, hx121_0, hl121_0, hi121_0⟩ := at_L1 (Kd.S_reads' HO_5.out).2.2 x8_1 p121 q121
                                obtain rfl : ad120 = ad121 := (by injection e121)
                                obtain ⟨ce121, hce121, hMe121, hcc121⟩ := Kd.S_get HO_5.out [] x8_1 p121 (by first | exact q121 | exact of_decide_eq_true (by first | (with_reducible assumption) | assumption) | (have e_ := (Kd.S_reads' HO_5.out).1; omega))
                                obtain ⟨ve121_0, rfl, ge121_0⟩ := hMe121
                                have hv121_0 := hcc121 0 _ rfl
                                rw [Nat.add_zero, show ((Kd.slice 5 (Kd.int .u8))).sz = 1 from rfl, Nat.mul_one] at hv121_0
                                replace hv121_0 := Option.some.inj (hv121_0.symm.trans hx121_0)
                                rw [hv121_0] at ge121_0
                                have HL121_0 := Aside0.mk (show Kd.R (Kd.int .u8) 5 _ _ _ _ (rd_L1 t114 x8_1) from ge121_0)
                                clear hv121_0 ge121_0
                                clear hcc121 hce121
                                have HR121_0 := Aside0.mk hi121_0
                                have HC121_0 := Aside0.mk hl121_0
                                clear hi121_0 hl121_0
                                replace p121 := eq_true p121
                                replace q121 := eq_true q121
                                have ea_ := Option.some.inj (hx120_0.symm.trans hx121_0)
                                injection ea_ with ea_ en_ ec_
                                subst ea_
                                subst ec_
                                clear en_
                                have p122 : 0 ≤ (x8_1 : Int) := of_decide_eq_true (by first | (with_reducible assumption) | assumption)
                                have q122 : x8_1 < (t114.length : Int) := of_decide_eq_true (by first | (with_reducible assumption) | assumption)
                                obtain ⟨ad122, A122_0, c122_0, e122, hx122_0, hl122_0, hi122_0⟩ := at_L1 (Kd.S_reads' HO_5.out).2.2 x8_1 p122 q122
                                obtain rfl : ad120 = ad122 := (by injection e122)
                                obtain ⟨ce122, hce122, hMe122, hcc122⟩ := Kd.S_get HO_5.out [] x8_1 p122 (by first | exact q122 | exact of_decide_eq_true (by first | (with_reducible assumption) | assumption) | (have e_ := (Kd.S_reads' HO_5.out).1; omega))
                                obtain ⟨ve122_0, rfl, ge122_0⟩ := hMe122
                                have hv122_0 := hcc122 0 _ rfl
                                rw [Nat.add_zero, show ((Kd.slice 5 (Kd.int .u8))).sz = 1 from rfl, Nat.mul_one] at hv122_0
                                replace hv122_0 := Option.some.inj (hv122_0.symm.trans hx122_0)
                                rw [hv122_0] at ge122_0
                                have HL122_0 := Aside0.mk (show Kd.R (Kd.int .u8) 5 _ _ _ _ (rd_L1 t114 x8_1) from ge122_0)
                                clear hv122_0 ge122_0
                                clear hcc122 hce122
                                have HR122_0 := Aside0.mk hi122_0
                                have HC122_0 := Aside0.mk hl122_0
                                clear hi122_0 hl122_0
                                replace p122 := eq_true p122
                                replace q122 := eq_true q122
                                have ea_ := Option.some.inj (hx120_0.symm.trans hx122_0)
                                injection ea_ with ea_ en_ ec_
                                subst ea_
                                subst ec_
                                clear en_
                                have p123 : 0 ≤ (x8_1 : Int) := of_decide_eq_true (by first | (with_reducible assumption) | assumption)
                                have q123 : x8_1 < (t114.length : Int) := of_decide_eq_true (by first | (with_reducible assumption) | assumption)
                                obtain ⟨ad123, A123_0, c123_0, e123, hx123_0, hl123_0, hi123_0⟩ := at_L1 (Kd.S_reads' HO_5.out).2.2 x8_1 p123 q123
                                obtain rfl : ad120 = ad123 := (by injection e123)
                                obtain ⟨ce123, hce123, hMe123, hcc123⟩ := Kd.S_get HO_5.out [] x8_1 p123 (by first | exact q123 | exact of_decide_eq_true (by first | (with_reducible assumption) | assumption) | (have e_ := (Kd.S_reads' HO_5.out).1; omega))
                                obtain ⟨ve123_0, rfl, ge123_0⟩ := hMe123
                                have hv123_0 := hcc123 0 _ rfl
                                rw [Nat.add_zero, show ((Kd.slice 5 (Kd.int .u8))).sz = 1 from rfl, Nat.mul_one] at hv123_0
                                replace hv123_0 := Option.some.inj (hv123_0.symm.trans hx123_0)
                                rw [hv123_0] at ge123_0
                                have HL123_0 := Aside0.mk (show Kd.R (Kd.int .u8) 5 _ _ _ _ (rd_L1 t114 x8_1) from ge123_0)
                                clear hv123_0 ge123_0
                                clear hcc123 hce123
                                have HR123_0 := Aside0.mk hi123_0
                                have HC123_0 := Aside0.mk hl123_0
                                clear hi123_0 hl123_0
                                replace p123 := eq_true p123
                                replace q123 := eq_true q123
                                have ea_ := Option.some.inj (hx120_0.symm.trans hx123_0)
                                injection ea_ with ea_ en_ ec_
                                subst ea_
                                subst ec_
                                clear en_
                                have p124 : 0 ≤ (x8_1 : Int) := of_decide_eq_true (by first | (with_reducible assumption) | assumption)
                                have q124 : x8_1 < (t114.length : Int) := of_decide_eq_true (by first | (with_reducible assumption) | assumption)
                                obtain ⟨ad124, A124_0, c124_0, e124, hx124_0, hl124_0, hi124_0⟩ := at_L1 (Kd.S_reads' HO_5.out).2.2 x8_1 p124 q124
                                obtain rfl : ad120 = ad124 := (by injection e124)
                                obtain ⟨ce124, hce124, hMe124, hcc124⟩ := Kd.S_get HO_5.out [] x8_1 p124 (by first | exact q124 | exact of_decide_eq_true (by first | (with_reducible assumption) | assumption) | (have e_ := (Kd.S_reads' HO_5.out).1; omega))
                                obtain ⟨ve124_0, rfl, ge124_0⟩ := hMe124
                                have hv124_0 := hcc124 0 _ rfl
                                rw [Nat.add_zero, show ((Kd.slice 5 (Kd.int .u8))).sz = 1 from rfl, Nat.mul_one] at hv124_0
                                replace hv124_0 := Option.some.inj (hv124_0.symm.trans hx124_0)
                                rw [hv124_0] at ge124_0
                                have HL124_0 := Aside0.mk (show Kd.R (Kd.int .u8) 5 _ _ _ _ (rd_L1 t114 x8_1) from ge124_0)
                                clear hv124_0 ge124_0
                                clear hcc124 hce124
                                have HR124_0 := Aside0.mk hi124_0
                                have HC124_0 := Aside0.mk hl124_0
                                clear hi124_0 hl124_0
                                replace p124 := eq_true p124
                                replace q124 := eq_true q124
                                have ea_ := Option.some.inj (hx120_0.symm.trans hx124_0)
                                injection ea_ with ea_ en_ ec_
                                subst ea_
                                subst ec_
                                clear en_
                                obtain ⟨i021, hi021, _, hsz21, _⟩ := info_parts info5
                                obtain ⟨A21, hcut21, hA21, hC21⟩ := print_mid_of (P := Try.prog) (Value.int .u8) 0 32 5 .i64 .i64 Try.underlying32 hi021 hsz21 A0 c0 l0 x7_1 (wrap64 (x7_1 + ((rd_L1 t114 x8_1).length : Int))) (of_decide_eq_true (by first | (with_reducible assumption) | assumption)) (by first | omega | exact of_decide_eq_true (by first | (with_reducible assumption) | assumption)) (of_decide_eq_true (by first | (with_reducible assumption) | assumption)) HC0.out
                                have HR125 := Aside0.mk (Kd.C_of_reads (h1 := fun _ => rfl) (hA21 _ (Kd.reads_of_C HR0.out)))
                                have HC125 := Aside0.mk hC21
                                clear hA21 hC21 hi021 hsz21
                                obtain ⟨cl125, hcl125⟩ : ∃ x_ : List Int, x_ = ((l0.take ((wrap64 (x7_1 + ((rd_L1 t114 x8_1).length : Int))) : Int).toNat).drop (x7_1 : Int).toNat) := ⟨_, rfl⟩
                                rw [← hcl125] at hcut21 HR125 HC125
                                (try rw [← hcl125] at H)
                                (try rw [← hcl125] at H')
                                (try rw [← hcl125] at c19b1)
                                (try rw [← hcl125] at c19b0)
                                have Ncl125 := Aside0.mk hcl125
                                clear hcl125
                                have hcv22 := Kd.C_string (P := Try.prog) (A := A21) (c := (c0 - x7_1.toNat)) Try.underlying32 Try.underlying5 Try.underlying9 (Kd.C_below HR125.out HB.out)
                                have hcv22d := fun (n_ : Nat) => Kd.C_string (P := Try.prog) (A := A21) (c := (c0 - x7_1.toNat)) Try.underlying32 Try.underlying5 Try.underlying9 (Kd.C_drewN (Kd.C_below HR125.out HB.out) n_)
                                have p126 : 0 ≤ (x8_1 : Int) := of_decide_eq_true (by first | (with_reducible assumption) | assumption)
                                have q126 : x8_1 < (t114.length : Int) := of_decide_eq_true (by first | (with_reducible assumption) | assumption)
                                obtain ⟨ad126, A126_0, c126_0, e126, hx126_0, hl126_0, hi126_0⟩ := at_L1 (Kd.S_reads' HO_5.out).2.2 x8_1 p126 q126
                                obtain rfl : ad120 = ad126 := (by injection e126)
                                obtain ⟨ce126, hce126, hMe126, hcc126⟩ := Kd.S_get HO_5.out [] x8_1 p126 (by first | exact q126 | exact of_decide_eq_true (by first | (with_reducible assumption) | assumption) | (have e_ := (Kd.S_reads' HO_5.out).1; omega))
                                obtain ⟨ve126_0, rfl, ge126_0⟩ := hMe126
                                have hv126_0 := hcc126 0 _ rfl
                                rw [Nat.add_zero, show ((Kd.slice 5 (Kd.int .u8))).sz = 1 from rfl, Nat.mul_one] at hv126_0
                                replace hv126_0 := Option.some.inj (hv126_0.symm.trans hx126_0)
                                rw [hv126_0] at ge126_0
                                have HL126_0 := Aside0.mk (show Kd.R (Kd.int .u8) 5 _ _ _ _ (rd_L1 t114 x8_1) from ge126_0)
                                clear hv126_0 ge126_0
                                clear hcc126 hce126
                                have HR126_0 := Aside0.mk hi126_0
                                have HC126_0 := Aside0.mk hl126_0
                                clear hi126_0 hl126_0
                                replace p126 := eq_true p126
                                replace q126 := eq_true q126
                                have ea_ := Option.some.inj (hx120_0.symm.trans hx126_0)
                                injection ea_ with ea_ en_ ec_
                                subst ea_
                                subst ec_
                                clear en_
                                have hcv23 := Kd.C_string (P := Try.prog) (A := A120_0) (c := c120_0) Try.underlying32 Try.underlying5 Try.underlying9 (by repeat (first | (with_reducible exact HR126_0.out) | (with_reducible refine Kd.C_alloc ?_ _) | (with_reducible refine Kd.C_drewN ?_ _) | (with_reducible refine Kd.C_drew ?_) | exact HR126_0.out))
                                have hcv23d := fun (n_ : Nat) => Kd.C_string (P := Try.prog) (A := A120_0) (c := c120_0) Try.underlying32 Try.underlying5 Try.underlying9 (Kd.C_drewN (by repeat (first | (with_reducible exact HR126_0.out) | (with_reducible refine Kd.C_alloc ?_ _) | (with_reducible refine Kd.C_drewN ?_ _) | (with_reducible refine Kd.C_drew ?_) | exact HR126_0.out)) n_)
                                have p127 : 0 ≤ (x8_1 : Int) := of_decide_eq_true (by first | (with_reducible assumption) | assumption)
                                have q127 : x8_1 < (t114.length : Int) := of_decide_eq_true (by first | (with_reducible assumption) | assumption)
                                obtain ⟨ad127, A127_0, c127_0, e127, hx127_0, hl127_0, hi127_0⟩ := at_L1 (Kd.S_reads' HO_5.out).2.2 x8_1 p127 q127
                                obtain rfl : ad120 = ad127 := (by injection e127)
                                obtain ⟨ce127, hce127, hMe127, hcc127⟩ := Kd.S_get HO_5.out [] x8_1 p127 (by first | exact q127 | exact of_decide_eq_true (by first | (with_reducible assumption) | assumption) | (have e_ := (Kd.S_reads' HO_5.out).1; omega))
                                obtain ⟨ve127_0, rfl, ge127_0⟩ := hMe127
                                have hv127_0 := hcc127 0 _ rfl
                                rw [Nat.add_zero, show ((Kd.slice 5 (Kd.int .u8))).sz = 1 from rfl, Nat.mul_one] at hv127_0
                                replace hv127_0 := Option.some.inj (hv127_0.symm.trans hx127_0)
                                rw [hv127_0] at ge127_0
                                have HL127_0 := Aside0.mk (show Kd.R (Kd.int .u8) 5 _ _ _ _ (rd_L1 t114 x8_1) from ge127_0)
                                clear hv127_0 ge127_0
                                clear hcc127 hce127
                                have HR127_0 := Aside0.mk hi127_0
                                have HC127_0 := Aside0.mk hl127_0
                                clear hi127_0 hl127_0
                                replace p127 := eq_true p127
                                replace q127 := eq_true q127
                                have ea_ := Option.some.inj (hx120_0.symm.trans hx127_0)
                                injection ea_ with ea_ en_ ec_
                                subst ea_
                                subst ec_
                                clear en_
                                go_wp2
                                have hwi_ : ∀ n : Int, IntKind.i64.wrap n = wrap64 n := i64_w
                                repeat (go_quiet (fail); try go_wp2)
                                clear hwi_
                                go_roundg k1
                                case measure => have := HK1.out; omega
                                case rel => exact ⟨(wrap64 (x7_1 + ((rd_L1 t114 x8_1).length : Int))), (wrap64 (x8_1 + 1)), (by first | rfl | (simp; done) | (simp [*]; done)), (by first | rfl | (simp; done) | (simp [*]; done)), H', ⟨by have := HK1.out; omega⟩, ⟨by (with_reducible repeat (first | apply Kd.S_alloc | apply Kd.S_drewN | apply Kd.S_drew)); exact HO_5.out⟩, ⟨by repeat (first | (with_reducible first | exact HB.out | apply below_alloc | apply pw_below_drewN | apply below_drew1) | exact HB.out)⟩⟩
                              · rw [if_neg c19] at H
                                exact absurd H (by simp)
                            · rw [if_neg c18] at H
                              exact absurd H (by simp)
                          · rw [if_neg c17] at H
                            exact absurd H (by simp)
                        · rw [if_neg c16] at H
                          exact absurd H (by simp)
                    · rw [if_neg c14] at H
                      exact absurd H (by simp)
                  · rw [if_neg c13] at H
                    have c13b0 : decide ((wrap64 (x8_1 + 1)) < (t114.length : Int)) = false := decide_eq_false c13
                    clear c13
                    by_cases c24 : (wrap64 (x7_1 + ((rd_L1 t114 x8_1).length : Int))) > (l0.length : Int)
                    · rw [if_pos c24] at H
                      exact absurd H (by simp)
                    · rw [if_neg c24] at H
                      have c24b0 : decide ((l0.length : Int) < (wrap64 (x7_1 + ((rd_L1 t114 x8_1).length : Int)))) = false := decide_eq_false c24
                      clear c24
                      by_cases c25 : 0 ≤ x7_1
                      · rw [if_pos c25] at H
                        have c25b0 := eq_true c25
                        have c25b1 : decide (0 ≤ x7_1) = true := decide_eq_true c25
                        clear c25
                        by_cases c26 : x7_1 ≤ (wrap64 (x7_1 + ((rd_L1 t114 x8_1).length : Int)))
                        · rw [if_pos c26] at H
                          have c26b0 := eq_true c26
                          have c26b1 : decide (x7_1 ≤ (wrap64 (x7_1 + ((rd_L1 t114 x8_1).length : Int)))) = true := decide_eq_true c26
                          by_cases c27 : (wrap64 (x7_1 + ((rd_L1 t114 x8_1).length : Int))) ≤ (l0.length : Int)
                          · rw [if_pos c27] at H
                            have c27b0 := eq_true c27
                            have c27b1 : decide ((wrap64 (x7_1 + ((rd_L1 t114 x8_1).length : Int))) ≤ (l0.length : Int)) = true := decide_eq_true c27
                            by_cases c28 : (strOfNums ((l0.take ((wrap64 (x7_1 + ((rd_L1 t114 x8_1).length : Int))) : Int).toNat).drop (x7_1 : Int).toNat)).toList = (strOfNums (rd_L1 t114 x8_1)).toList
                            · rw [if_pos c28] at H
                              have c28b0 : ((strOfNums ((l0.take ((wrap64 (x7_1 + ((rd_L1 t114 x8_1).length : Int))) : Int).toNat).drop (x7_1 : Int).toNat)).toList == (strOfNums (rd_L1 t114 x8_1)).toList) = true := beq_iff_eq.mpr c28
                              have c28b1 : ((strOfNums ((l0.take ((wrap64 (x7_1 + ((rd_L1 t114 x8_1).length : Int))) : Int).toNat).drop (x7_1 : Int).toNat)).toList != (strOfNums (rd_L1 t114 x8_1)).toList) = false := bne_eq_false_iff_eq.mpr c28
                              clear c28
                              have H' := Aside0.mk H
                              clear H
                              obtain ⟨Ao29, co29, eo29⟩ := Kd.S_slice HO_5.out
                              subst eo29
                              have p120 : 0 ≤ (x8_1 : Int) := of_decide_eq_true (by first | (with_reducible assumption) | assumption)
                              have q120 : x8_1 < (t114.length : Int) := of_decide_eq_true (by first | (with_reducible assumption) | assumption)
                              obtain ⟨ad120, A120_0, c120_0, e120, hx120_0, hl120_0, hi120_0⟩ := at_L1 (Kd.S_reads' HO_5.out).2.2 x8_1 p120 q120
                              cases e120
                              obtain ⟨ce120, hce120, hMe120, hcc120⟩ := Kd.S_get HO_5.out [] x8_1 p120 (by first | exact q120 | exact of_decide_eq_true (by first | (with_reducible assumption) | assumption) | (have e_ := (Kd.S_reads' HO_5.out).1; omega))
                              obtain ⟨ve120_0, rfl, ge120_0⟩ := hMe120
                              have hv120_0 := hcc120 0 _ rfl
                              rw [Nat.add_zero, show ((Kd.slice 5 (Kd.int .u8))).sz = 1 from rfl, Nat.mul_one] at hv120_0
                              replace hv120_0 := Option.some.inj (hv120_0.symm.trans hx120_0)
                              rw [hv120_0] at ge120_0
                              have HL120_0 := Aside0.mk (show Kd.R (Kd.int .u8) 5 _ _ _ _ (rd_L1 t114 x8_1) from ge120_0)
                              clear hv120_0 ge120_0
                              clear hcc120 hce120
                              have HR120_0 := Aside0.mk hi120_0
                              have HC120_0 := Aside0.mk hl120_0
                              clear hi120_0 hl120_0
                              replace p120 := eq_true p120
                              replace q120 := eq_true q120
                              have p121 : 0 ≤ (x8_1 : Int) := of_decide_eq_true (by first | (with_reducible assumption) | assumption)
                              have q121 : x8_1 < (t114.length : Int) := of_decide_eq_true (by first | (with_reducible assumption) | assumption)
                              obtain ⟨ad121, A121_0, c121_0, e121, hx121_0, hl121_0, hi121_0⟩ := at_L1 (Kd.S_reads' HO_5.out).2.2 x8_1 p121 q121
                              obtain rfl : ad120 = ad121 := (by injection e121)
                              obtain ⟨ce121, hce121, hMe121, hcc121⟩ := Kd.S_get HO_5.out [] x8_1 p121 (by first | exact q121 | exact of_decide_eq_true (by first | (with_reducible assumption) | assumption) | (have e_ := (Kd.S_reads' HO_5.out).1; omega))
                              obtain ⟨ve121_0, rfl, ge121_0⟩ := hMe121
                              have hv121_0 := hcc121 0 _ rfl
                              rw [Nat.add_zero, show ((Kd.slice 5 (Kd.int .u8))).sz = 1 from rfl, Nat.mul_one] at hv121_0
                              replace hv121_0 := Option.some.inj (hv121_0.symm.trans hx121_0)
                              rw [hv121_0] at ge121_0
                              have HL121_0 := Aside0.mk (show Kd.R (Kd.int .u8) 5 _ _ _ _ (rd_L1 t114 x8_1) from ge121_0)
                              clear hv121_0 ge121_0
                              clear hcc121 hce121
                              have HR121_0 := Aside0.mk hi121_0
                              have HC121_0 := Aside0.mk hl121_0
                              clear hi121_0 hl121_0
                              replace p121 := eq_true p121
                              replace q121 := eq_true q121
                              have ea_ := Option.some.inj (hx120_0.symm.trans hx121_0)
                              injection ea_ with ea_ en_ ec_
                              subst ea_
                              subst ec_
                              clear en_
                              have p128 : 0 ≤ (x8_1 : Int) := of_decide_eq_true (by first | (with_reducible assumption) | assumption)
                              have q128 : x8_1 < (t114.length : Int) := of_decide_eq_true (by first | (with_reducible assumption) | assumption)
                              obtain ⟨ad128, A128_0, c128_0, e128, hx128_0, hl128_0, hi128_0⟩ := at_L1 (Kd.S_reads' HO_5.out).2.2 x8_1 p128 q128
                              obtain rfl : ad120 = ad128 := (by injection e128)
                              obtain ⟨ce128, hce128, hMe128, hcc128⟩ := Kd.S_get HO_5.out [] x8_1 p128 (by first | exact q128 | exact of_decide_eq_true (by first | (with_reducible assumption) | assumption) | (have e_ := (Kd.S_reads' HO_5.out).1; omega))
                              obtain ⟨ve128_0, rfl, ge128_0⟩ := hMe128
                              have hv128_0 := hcc128 0 _ rfl
                              rw [Nat.add_zero, show ((Kd.slice 5 (Kd.int .u8))).sz = 1 from rfl, Nat.mul_one] at hv128_0
                              replace hv128_0 := Option.some.inj (hv128_0.symm.trans hx128_0)
                              rw [hv128_0] at ge128_0
                              have HL128_0 := Aside0.mk (show Kd.R (Kd.int .u8) 5 _ _ _ _ (rd_L1 t114 x8_1) from ge128_0)
                              clear hv128_0 ge128_0
                              clear hcc128 hce128
                              have HR128_0 := Aside0.mk hi128_0
                              have HC128_0 := Aside0.mk hl128_0
                              clear hi128_0 hl128_0
                              replace p128 := eq_true p128
                              replace q128 := eq_true q128
                              have ea_ := Option.some.inj (hx120_0.symm.trans hx128_0)
                              injection ea_ with ea_ en_ ec_
                              subst ea_
                              subst ec_
                              clear en_
                              have p129 : 0 ≤ (x8_1 : Int) := of_decide_eq_true (by first | (with_reducible assumption) | assumption)
                              have q129 : x8_1 < (t114.length : Int) := of_decide_eq_true (by first | (with_reducible assumption) | assumption)
                              obtain ⟨ad129, A129_0, c129_0, e129, hx129_0, hl129_0, hi129_0⟩ := at_L1 (Kd.S_reads' HO_5.out).2.2 x8_1 p129 q129
                              obtain rfl : ad120 = ad129 := (by injection e129)
                              obtain ⟨ce129, hce129, hMe129, hcc129⟩ := Kd.S_get HO_5.out [] x8_1 p129 (by first | exact q129 | exact of_decide_eq_true (by first | (with_reducible assumption) | assumption) | (have e_ := (Kd.S_reads' HO_5.out).1; omega))
                              obtain ⟨ve129_0, rfl, ge129_0⟩ := hMe129
                              have hv129_0 := hcc129 0 _ rfl
                              rw [Nat.add_zero, show ((Kd.slice 5 (Kd.int .u8))).sz = 1 from rfl, Nat.mul_one] at hv129_0
                              replace hv129_0 := Option.some.inj (hv129_0.symm.trans hx129_0)
                              rw [hv129_0] at ge129_0
                              have HL129_0 := Aside0.mk (show Kd.R (Kd.int .u8) 5 _ _ _ _ (rd_L1 t114 x8_1) from ge129_0)
                              clear hv129_0 ge129_0
                              clear hcc129 hce129
                              have HR129_0 := Aside0.mk hi129_0
                              have HC129_0 := Aside0.mk hl129_0
                              clear hi129_0 hl129_0
                              replace p129 := eq_true p129
                              replace q129 := eq_true q129
                              have ea_ := Option.some.inj (hx120_0.symm.trans hx129_0)
                              injection ea_ with ea_ en_ ec_
                              subst ea_
                              subst ec_
                              clear en_
                              obtain ⟨i030, hi030, _, hsz30, _⟩ := info_parts info5
                              obtain ⟨A30, hcut30, hA30, hC30⟩ := print_mid_of (P := Try.prog) (Value.int .u8) 0 32 5 .i64 .i64 Try.underlying32 hi030 hsz30 A0 c0 l0 x7_1 (wrap64 (x7_1 + ((rd_L1 t114 x8_1).length : Int))) (of_decide_eq_true (by first | (with_reducible assumption) | assumption)) (by first | omega | exact of_decide_eq_true (by first | (with_reducible assumption) | assumption)) (of_decide_eq_true (by first | (with_reducible assumption) | assumption)) HC0.out
                              have HR130 := Aside0.mk (Kd.C_of_reads (h1 := fun _ => rfl) (hA30 _ (Kd.reads_of_C HR0.out)))
                              have HC130 := Aside0.mk hC30
                              clear hA30 hC30 hi030 hsz30
                              obtain ⟨cl130, hcl130⟩ : ∃ x_ : List Int, x_ = ((l0.take ((wrap64 (x7_1 + ((rd_L1 t114 x8_1).length : Int))) : Int).toNat).drop (x7_1 : Int).toNat) := ⟨_, rfl⟩
                              rw [← hcl130] at hcut30 HR130 HC130
                              (try rw [← hcl130] at H)
                              (try rw [← hcl130] at H')
                              (try rw [← hcl130] at c28b1)
                              (try rw [← hcl130] at c28b0)
                              have Ncl130 := Aside0.mk hcl130
                              clear hcl130
                              have hcv31 := Kd.C_string (P := Try.prog) (A := A30) (c := (c0 - x7_1.toNat)) Try.underlying32 Try.underlying5 Try.underlying9 (Kd.C_below HR130.out HB.out)
                              have hcv31d := fun (n_ : Nat) => Kd.C_string (P := Try.prog) (A := A30) (c := (c0 - x7_1.toNat)) Try.underlying32 Try.underlying5 Try.underlying9 (Kd.C_drewN (Kd.C_below HR130.out HB.out) n_)
                              have p131 : 0 ≤ (x8_1 : Int) := of_decide_eq_true (by first | (with_reducible assumption) | assumption)
                              have q131 : x8_1 < (t114.length : Int) := of_decide_eq_true (by first | (with_reducible assumption) | assumption)
                              obtain ⟨ad131, A131_0, c131_0, e131, hx131_0, hl131_0, hi131_0⟩ := at_L1 (Kd.S_reads' HO_5.out).2.2 x8_1 p131 q131
                              obtain rfl : ad120 = ad131 := (by injection e131)
                              obtain ⟨ce131, hce131, hMe131, hcc131⟩ := Kd.S_get HO_5.out [] x8_1 p131 (by first | exact q131 | exact of_decide_eq_true (by first | (with_reducible assumption) | assumption) | (have e_ := (Kd.S_reads' HO_5.out).1; omega))
                              obtain ⟨ve131_0, rfl, ge131_0⟩ := hMe131
                              have hv131_0 := hcc131 0 _ rfl
                              rw [Nat.add_zero, show ((Kd.slice 5 (Kd.int .u8))).sz = 1 from rfl, Nat.mul_one] at hv131_0
                              replace hv131_0 := Option.some.inj (hv131_0.symm.trans hx131_0)
                              rw [hv131_0] at ge131_0
                              have HL131_0 := Aside0.mk (show Kd.R (Kd.int .u8) 5 _ _ _ _ (rd_L1 t114 x8_1) from ge131_0)
                              clear hv131_0 ge131_0
                              clear hcc131 hce131
                              have HR131_0 := Aside0.mk hi131_0
                              have HC131_0 := Aside0.mk hl131_0
                              clear hi131_0 hl131_0
                              replace p131 := eq_true p131
                              replace q131 := eq_true q131
                              have ea_ := Option.some.inj (hx120_0.symm.trans hx131_0)
                              injection ea_ with ea_ en_ ec_
                              subst ea_
                              subst ec_
                              clear en_
                              have hcv32 := Kd.C_string (P := Try.prog) (A := A120_0) (c := c120_0) Try.underlying32 Try.underlying5 Try.underlying9 (by repeat (first | (with_reducible exact HR131_0.out) | (with_reducible refine Kd.C_alloc ?_ _) | (with_reducible refine Kd.C_drewN ?_ _) | (with_reducible refine Kd.C_drew ?_) | exact HR131_0.out))
                              have hcv32d := fun (n_ : Nat) => Kd.C_string (P := Try.prog) (A := A120_0) (c := c120_0) Try.underlying32 Try.underlying5 Try.underlying9 (Kd.C_drewN (by repeat (first | (with_reducible exact HR131_0.out) | (with_reducible refine Kd.C_alloc ?_ _) | (with_reducible refine Kd.C_drewN ?_ _) | (with_reducible refine Kd.C_drew ?_) | exact HR131_0.out)) n_)
                              have p132 : 0 ≤ (x8_1 : Int) := of_decide_eq_true (by first | (with_reducible assumption) | assumption)
                              have q132 : x8_1 < (t114.length : Int) := of_decide_eq_true (by first | (with_reducible assumption) | assumption)
                              obtain ⟨ad132, A132_0, c132_0, e132, hx132_0, hl132_0, hi132_0⟩ := at_L1 (Kd.S_reads' HO_5.out).2.2 x8_1 p132 q132
                              obtain rfl : ad120 = ad132 := (by injection e132)
                              obtain ⟨ce132, hce132, hMe132, hcc132⟩ := Kd.S_get HO_5.out [] x8_1 p132 (by first | exact q132 | exact of_decide_eq_true (by first | (with_reducible assumption) | assumption) | (have e_ := (Kd.S_reads' HO_5.out).1; omega))
                              obtain ⟨ve132_0, rfl, ge132_0⟩ := hMe132
                              have hv132_0 := hcc132 0 _ rfl
                              rw [Nat.add_zero, show ((Kd.slice 5 (Kd.int .u8))).sz = 1 from rfl, Nat.mul_one] at hv132_0
                              replace hv132_0 := Option.some.inj (hv132_0.symm.trans hx132_0)
                              rw [hv132_0] at ge132_0
                              have HL132_0 := Aside0.mk (show Kd.R (Kd.int .u8) 5 _ _ _ _ (rd_L1 t114 x8_1) from ge132_0)
                              clear hv132_0 ge132_0
                              clear hcc132 hce132
                              have HR132_0 := Aside0.mk hi132_0
                              have HC132_0 := Aside0.mk hl132_0
                              clear hi132_0 hl132_0
                              replace p132 := eq_true p132
                              replace q132 := eq_true q132
                              have ea_ := Option.some.inj (hx120_0.symm.trans hx132_0)
                              injection ea_ with ea_ en_ ec_
                              subst ea_
                              subst ec_
                              clear en_
                              go_wp2
                              have hwi_ : ∀ n : Int, IntKind.i64.wrap n = wrap64 n := i64_w
                              repeat (go_quiet (fail); try go_wp2)
                              clear hwi_
                              go_roundg k1
                              case measure => have := HK1.out; omega
                              case rel => exact ⟨(wrap64 (x7_1 + ((rd_L1 t114 x8_1).length : Int))), (wrap64 (x8_1 + 1)), (by first | rfl | (simp; done) | (simp [*]; done)), (by first | rfl | (simp; done) | (simp [*]; done)), H', ⟨by have := HK1.out; omega⟩, ⟨by (with_reducible repeat (first | apply Kd.S_alloc | apply Kd.S_drewN | apply Kd.S_drew)); exact HO_5.out⟩, ⟨by repeat (first | (with_reducible first | exact HB.out | apply below_alloc | apply pw_below_drewN | apply below_drew1) | exact HB.out)⟩⟩
                            · rw [if_neg c28] at H
                              exact absurd H (by simp)
                          · rw [if_neg c27] at H
                            exact absurd H (by simp)
                        · rw [if_neg c26] at H
                          exact absurd H (by simp)
                      · rw [if_neg c25] at H
                        exact absurd H (by simp)
            · rw [if_neg c10] at H
              exact absurd H (by simp)
          · rw [if_neg c9] at H
            have c9b0 : decide (x8_1 < (t114.length : Int)) = false := decide_eq_false c9
            clear c9
            by_cases c33 : x7_1 = (l0.length : Int)
            · rw [if_pos c33] at H
              have c33b0 : (x7_1 == (l0.length : Int)) = true := beq_iff_eq.mpr c33
              have c33b1 : (x7_1 != (l0.length : Int)) = false := bne_eq_false_iff_eq.mpr c33
              clear c33
              replace H := Option.bind_eq_some_iff.mp H
              obtain ⟨t133, A340, H⟩ := H
              replace H : (if t133 = (t114.length : Int) then ((remoralaw05_awake.f k1).bind fun t134 => (some t134)) else (none)) = some r := H
              have A34 := Aside0.mk A340
              clear A340
              by_cases c35 : t133 = (t114.length : Int)
              · rw [if_pos c35] at H
                have c35b0 : (t133 == (t114.length : Int)) = true := beq_iff_eq.mpr c35
                have c35b1 : (t133 != (t114.length : Int)) = false := bne_eq_false_iff_eq.mpr c35
                clear c35
                replace H := Option.bind_eq_some_iff.mp H
                obtain ⟨t134, A360, H⟩ := H
                replace H : (some t134) = some r := H
                have A36 := Aside0.mk A360
                clear A360
                obtain rfl := Option.some.inj H
                obtain ⟨Ao37, co37, eo37⟩ := Kd.S_slice HO_5.out
                subst eo37
                go_wp2_with (first | (go_at_call 14; (with_reducible refine (blocks_Count.calls (l0.length : Int) a1 t133 _ A34.out).mono ?_); rintro e w' ⟨rfl, ⟨nd, rfl⟩⟩; (try first | exact ⟨rfl, _, World.drewN_drewN _ _ _⟩ | exact ⟨rfl, _, Eq.trans (World.drewN_drewN _ _ _) (congrArg (World.drewN _) (Nat.add_assoc _ _ _))⟩)) | (go_at_call 16; (with_reducible refine (remoralaw05_awake.calls k1  t134 _ A36.out).mono ?_); rintro e w38 ⟨rfl, hb⟩; have n0_ := Aside0.mk (Kd.S_below (by (with_reducible repeat (first | apply Kd.S_alloc | apply Kd.S_drewN | apply Kd.S_drew)); exact HO_5.out) hb); have n1_ := Aside0.mk (below_step (by repeat (first | (with_reducible first | exact HB.out | apply below_alloc | apply pw_below_drewN | apply below_drew1) | exact HB.out)) hb); clear HO_5; clear HB; have HO_5 := n0_; have HB := n1_; clear n0_ n1_; (try clear hb); (try clear hb2); (try clear hk); (try clear hi)))
                repeat (go_quiet (first | (go_at_call 14; (with_reducible refine (blocks_Count.calls (l0.length : Int) a1 t133 _ A34.out).mono ?_); rintro e w' ⟨rfl, ⟨nd, rfl⟩⟩; (try first | exact ⟨rfl, _, World.drewN_drewN _ _ _⟩ | exact ⟨rfl, _, Eq.trans (World.drewN_drewN _ _ _) (congrArg (World.drewN _) (Nat.add_assoc _ _ _))⟩)) | (go_at_call 16; (with_reducible refine (remoralaw05_awake.calls k1  t134 _ A36.out).mono ?_); rintro e w38 ⟨rfl, hb⟩; have n0_ := Aside0.mk (Kd.S_below (by (with_reducible repeat (first | apply Kd.S_alloc | apply Kd.S_drewN | apply Kd.S_drew)); exact HO_5.out) hb); have n1_ := Aside0.mk (below_step (by repeat (first | (with_reducible first | exact HB.out | apply below_alloc | apply pw_below_drewN | apply below_drew1) | exact HB.out)) hb); clear HO_5; clear HB; have HO_5 := n0_; have HB := n1_; clear n0_ n1_; (try clear hb); (try clear hb2); (try clear hk); (try clear hi))); try go_wp2_with (first | (go_at_call 14; (with_reducible refine (blocks_Count.calls (l0.length : Int) a1 t133 _ A34.out).mono ?_); rintro e w' ⟨rfl, ⟨nd, rfl⟩⟩; (try first | exact ⟨rfl, _, World.drewN_drewN _ _ _⟩ | exact ⟨rfl, _, Eq.trans (World.drewN_drewN _ _ _) (congrArg (World.drewN _) (Nat.add_assoc _ _ _))⟩)) | (go_at_call 16; (with_reducible refine (remoralaw05_awake.calls k1  t134 _ A36.out).mono ?_); rintro e w38 ⟨rfl, hb⟩; have n0_ := Aside0.mk (Kd.S_below (by (with_reducible repeat (first | apply Kd.S_alloc | apply Kd.S_drewN | apply Kd.S_drew)); exact HO_5.out) hb); have n1_ := Aside0.mk (below_step (by repeat (first | (with_reducible first | exact HB.out | apply below_alloc | apply pw_below_drewN | apply below_drew1) | exact HB.out)) hb); clear HO_5; clear HB; have HO_5 := n0_; have HB := n1_; clear n0_ n1_; (try clear hb); (try clear hb2); (try clear hk); (try clear hi))))
                go_ret
                exact ⟨by first | rfl | (simp [errW_none, errW_some] <;> rfl) | (simp [*, errW_none, errW_some] <;> rfl), by repeat (first | (with_reducible first | exact HB.out | apply below_alloc | apply pw_below_drewN | apply below_drew1) | exact HB.out)⟩
              · rw [if_neg c35] at H
                exact absurd H (by simp)
            · rw [if_neg c33] at H
              exact absurd H (by simp)
    · rw [if_neg c7] at H
      have c7b0 : (t115 == 0) = false := beq_eq_false_iff_ne.mpr c7
      have c7b1 : (t115 != 0) = true := bne_iff_ne.mpr c7
      by_cases c39 : (t114.length : Int) = 0
      · rw [if_pos c39] at H
        have c39b0 : ((t114.length : Int) == 0) = true := beq_iff_eq.mpr c39
        have c39b1 : ((t114.length : Int) != 0) = false := bne_eq_false_iff_eq.mpr c39
        clear c39
        replace H := Option.bind_eq_some_iff.mp H
        obtain ⟨t118, A400, H⟩ := H
        replace H : (if t118 = true then (none) else ((remoralaw05_awake.f k).bind fun t119 => (some t119))) = some r := H
        have A40 := Aside0.mk A400
        clear A400
        by_cases c41 : t118 = true
        · subst c41
          have H1 : (none) = some r := by rw [if_pos rfl] at H; exact H
          clear H
          have H := H1
          clear H1
          exact absurd H (by simp)
        · replace c41 := Bool.eq_false_iff.mpr c41
          subst c41
          have H1 : ((remoralaw05_awake.f k).bind fun t119 => (some t119)) = some r := by rw [if_neg (show ¬ (false = true) by decide)] at H; exact H
          clear H
          have H := H1
          clear H1
          replace H := Option.bind_eq_some_iff.mp H
          obtain ⟨t119, A420, H⟩ := H
          replace H : (some t119) = some r := H
          have A42 := Aside0.mk A420
          clear A420
          obtain rfl := Option.some.inj H
          go_enter Try.func9, Try.ntmps9
          go_wp2_with (first | (go_at_call 23; (with_reducible refine (blocks_Cut.calls _ _ l0 a1 t114 t115 _ ?side1 ?side2 A6.out).mono ?_); (case side1 => repeat (first | exact HR0.out | (with_reducible refine Kd.C_alloc ?_ _) | (with_reducible refine Kd.C_drewN ?_ _) | (with_reducible refine Kd.C_drew ?_))); (case side2 => exact HC0.out); rintro e w43 ⟨v116, rfl, ho0, hb⟩; have n0_ := Aside0.mk (Kd.S_lower ho0 (below_size (by repeat (first | (with_reducible first | exact HB.out | apply below_alloc | apply pw_below_drewN | apply below_drew1) | exact HB.out)))); have n1_ := Aside0.mk (below_step (by repeat (first | (with_reducible first | exact HB.out | apply below_alloc | apply pw_below_drewN | apply below_drew1) | exact HB.out)) hb); clear HB; have HO117 := n0_; have HB := n1_; clear n0_ n1_; (try clear hb); (try clear hb2); (try clear hk); (try clear hi); (try clear ho0); obtain ⟨Ao44, co44, eo44⟩ := Kd.S_slice HO117.out; subst eo44) | (go_at_call 12; (with_reducible refine (blocks_Right.calls (l0.length : Int) a1 false _ A40.out).mono ?_); rintro e w' ⟨rfl, ⟨nd, rfl⟩⟩; (try first | exact ⟨rfl, _, World.drewN_drewN _ _ _⟩ | exact ⟨rfl, _, Eq.trans (World.drewN_drewN _ _ _) (congrArg (World.drewN _) (Nat.add_assoc _ _ _))⟩)) | (go_at_call 16; (with_reducible refine (remoralaw05_awake.calls k  t119 _ A42.out).mono ?_); rintro e w45 ⟨rfl, hb⟩; have n0_ := Aside0.mk (Kd.S_below (by (with_reducible repeat (first | apply Kd.S_alloc | apply Kd.S_drewN | apply Kd.S_drew)); exact HO117.out) hb); have n1_ := Aside0.mk (below_step (by repeat (first | (with_reducible first | exact HB.out | apply below_alloc | apply pw_below_drewN | apply below_drew1) | exact HB.out)) hb); clear HO117; clear HB; have HO117 := n0_; have HB := n1_; clear n0_ n1_; (try clear hb); (try clear hb2); (try clear hk); (try clear hi)))
          repeat (go_quiet (first | (go_at_call 23; (with_reducible refine (blocks_Cut.calls _ _ l0 a1 t114 t115 _ ?side1 ?side2 A6.out).mono ?_); (case side1 => repeat (first | exact HR0.out | (with_reducible refine Kd.C_alloc ?_ _) | (with_reducible refine Kd.C_drewN ?_ _) | (with_reducible refine Kd.C_drew ?_))); (case side2 => exact HC0.out); rintro e w43 ⟨v116, rfl, ho0, hb⟩; have n0_ := Aside0.mk (Kd.S_lower ho0 (below_size (by repeat (first | (with_reducible first | exact HB.out | apply below_alloc | apply pw_below_drewN | apply below_drew1) | exact HB.out)))); have n1_ := Aside0.mk (below_step (by repeat (first | (with_reducible first | exact HB.out | apply below_alloc | apply pw_below_drewN | apply below_drew1) | exact HB.out)) hb); clear HB; have HO117 := n0_; have HB := n1_; clear n0_ n1_; (try clear hb); (try clear hb2); (try clear hk); (try clear hi); (try clear ho0); obtain ⟨Ao44, co44, eo44⟩ := Kd.S_slice HO117.out; subst eo44) | (go_at_call 12; (with_reducible refine (blocks_Right.calls (l0.length : Int) a1 false _ A40.out).mono ?_); rintro e w' ⟨rfl, ⟨nd, rfl⟩⟩; (try first | exact ⟨rfl, _, World.drewN_drewN _ _ _⟩ | exact ⟨rfl, _, Eq.trans (World.drewN_drewN _ _ _) (congrArg (World.drewN _) (Nat.add_assoc _ _ _))⟩)) | (go_at_call 16; (with_reducible refine (remoralaw05_awake.calls k  t119 _ A42.out).mono ?_); rintro e w45 ⟨rfl, hb⟩; have n0_ := Aside0.mk (Kd.S_below (by (with_reducible repeat (first | apply Kd.S_alloc | apply Kd.S_drewN | apply Kd.S_drew)); exact HO117.out) hb); have n1_ := Aside0.mk (below_step (by repeat (first | (with_reducible first | exact HB.out | apply below_alloc | apply pw_below_drewN | apply below_drew1) | exact HB.out)) hb); clear HO117; clear HB; have HO117 := n0_; have HB := n1_; clear n0_ n1_; (try clear hb); (try clear hb2); (try clear hk); (try clear hi))); try go_wp2_with (first | (go_at_call 23; (with_reducible refine (blocks_Cut.calls _ _ l0 a1 t114 t115 _ ?side1 ?side2 A6.out).mono ?_); (case side1 => repeat (first | exact HR0.out | (with_reducible refine Kd.C_alloc ?_ _) | (with_reducible refine Kd.C_drewN ?_ _) | (with_reducible refine Kd.C_drew ?_))); (case side2 => exact HC0.out); rintro e w43 ⟨v116, rfl, ho0, hb⟩; have n0_ := Aside0.mk (Kd.S_lower ho0 (below_size (by repeat (first | (with_reducible first | exact HB.out | apply below_alloc | apply pw_below_drewN | apply below_drew1) | exact HB.out)))); have n1_ := Aside0.mk (below_step (by repeat (first | (with_reducible first | exact HB.out | apply below_alloc | apply pw_below_drewN | apply below_drew1) | exact HB.out)) hb); clear HB; have HO117 := n0_; have HB := n1_; clear n0_ n1_; (try clear hb); (try clear hb2); (try clear hk); (try clear hi); (try clear ho0); obtain ⟨Ao44, co44, eo44⟩ := Kd.S_slice HO117.out; subst eo44) | (go_at_call 12; (with_reducible refine (blocks_Right.calls (l0.length : Int) a1 false _ A40.out).mono ?_); rintro e w' ⟨rfl, ⟨nd, rfl⟩⟩; (try first | exact ⟨rfl, _, World.drewN_drewN _ _ _⟩ | exact ⟨rfl, _, Eq.trans (World.drewN_drewN _ _ _) (congrArg (World.drewN _) (Nat.add_assoc _ _ _))⟩)) | (go_at_call 16; (with_reducible refine (remoralaw05_awake.calls k  t119 _ A42.out).mono ?_); rintro e w45 ⟨rfl, hb⟩; have n0_ := Aside0.mk (Kd.S_below (by (with_reducible repeat (first | apply Kd.S_alloc | apply Kd.S_drewN | apply Kd.S_drew)); exact HO117.out) hb); have n1_ := Aside0.mk (below_step (by repeat (first | (with_reducible first | exact HB.out | apply below_alloc | apply pw_below_drewN | apply below_drew1) | exact HB.out)) hb); clear HO117; clear HB; have HO117 := n0_; have HB := n1_; clear n0_ n1_; (try clear hb); (try clear hb2); (try clear hk); (try clear hi))))
          go_ret
          exact ⟨by first | rfl | (simp [errW_none, errW_some] <;> rfl) | (simp [*, errW_none, errW_some] <;> rfl), by repeat (first | (with_reducible first | exact HB.out | apply below_alloc | apply pw_below_drewN | apply below_drew1) | exact HB.out)⟩
      · rw [if_neg c39] at H
        exact absurd H (by simp)


/-- THE ONE PURE STATEMENT of remoralaw05_BlocksWhole. -/
def remoralaw05_BlocksWhole.Pure : Prop := ∀ (l0 : List Int) (a1 : Int), (l0.length ≤ maxLen ∧ ∀ q0_ ∈ l0, (Lit.int .u8 q0_).wf = true) → l0.length * 1 ≤ 140737488351232 → (Lit.int .i64 a1).wf = true → ∃ k, remoralaw05_BlocksWhole.f k l0 a1 = some true

end Go.Proofs.Ytciibhdodajjaaa.PBlocksWhole
