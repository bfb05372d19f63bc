-- Written by a program of this session (the kit's printer with hand-written contracts among its functions).
-- squeezed
import Derived.Test.YtkihlcmjjoiccaaPMatchCostsx0
import Derived.Test.YtkihlcmjjoiccaaRq
namespace Go.Proofs.Ytkihlcmjjoiccaa.PMatchCosts
open Go.RowKit Go.Proofs.YtkihlcmjjoiccaaW.PrintWords Go.Proofs.YtkihlcmjjoiccaaW.PrintLast Go.Proofs.YtkihlcmjjoiccaaW.PrintMore
attribute [local go_sem] max2_int min2_int max_two min_two max_three min_three max_four min_four   -- for this text's walks alone
set_option linter.unusedVariables false
set_option linter.unusedSimpArgs false

def remoralaw09_light.l0 : Nat → List (S55) → Int → Int → Option (Bool)
 | 0, _, _, _ => none
 | k + 1, x10, x11, x12 => if x12 < x11 then (if 0 ≤ x12 then (if x12 < (x10.length : Int) then (if (((rd_T55 x10 x12).f1).size : Int) > 100 then (some false) else (remoralaw09_light.l0 k x10 x11 (wrap64 (x12 + 1)))) else (none)) else (none)) else (some true)
def remoralaw09_light.f (k : Nat) (a0_0 : Int) (a0_1 : Int) (a0_2 : Int) (l0_3 : List (S55)) : Option (Bool) := if (l0_3.length : Int) > 60 then (some false) else (remoralaw09_light.l0 k l0_3 (l0_3.length : Int) 0)
theorem remoralaw09_light.mono_l : ∀ k, (∀ y0 y1 y2, LeO (remoralaw09_light.l0 k y0 y1 y2) (remoralaw09_light.l0 (k + 1) y0 y1 y2))
 | 0 => fun _ _ _ r h => by simp [remoralaw09_light.l0] at h
 | k + 1 => by
  have ih0 := remoralaw09_light.mono_l k
  ·intro y0 y1 y2
   unfold remoralaw09_light.l0
   repeat' first
   | (with_reducible exact ih0 _ _ _)
   | (with_reducible exact LeO.refl _)
   | (with_reducible exact LeO.none _)
   | (with_reducible refine LeO.ite ?_ ?_)
   | (with_reducible refine LeO.bind ?_ (fun _ => ?_))
   | exact ih0 _ _ _
   | exact LeO.none _
   | refine LeO.ite ?_ ?_
   | refine LeO.bind ?_ (fun _ => ?_)
theorem remoralaw09_light.mono : ∀ a0 a1 a2 a3 k, LeO (remoralaw09_light.f k a0 a1 a2 a3) (remoralaw09_light.f (k + 1) a0 a1 a2 a3) := by
 intro a0 a1 a2 a3 k
 have ih0 := remoralaw09_light.mono_l k
 unfold remoralaw09_light.f
 repeat' first
     | (with_reducible exact ih0 _ _ _)
     | (with_reducible exact LeO.refl _)
     | (with_reducible exact LeO.none _)
     | (with_reducible refine LeO.ite ?_ ?_)
     | (with_reducible refine LeO.bind ?_ (fun _ => ?_))
     | exact ih0 _ _ _
     | exact LeO.none _
     | refine LeO.ite ?_ ?_
     | refine LeO.bind ?_ (fun _ => ?_)
set_option maxHeartbeats 8000000 in
set_option maxRecDepth 100000 in
theorem remoralaw09_light.calls (k : Nat) (a0_0 : Int) (a0_1 : Int) (a0_2 : Int) (A0_3 : Option Addr) (c0_3 : Nat) (l0_3 : List (S55)) (r : Bool) (w : World) (hr0_3 : Kd.C k55 w A0_3 l0_3.length l0_3) (hc0_3 : l0_3.length ≤ c0_3) (h : remoralaw09_light.f k a0_0 a0_1 a0_2 l0_3 = some r) :
    Calls Try.prog 7 #[.agg #[.int .i64 a0_0, .int .i64 a0_1, .int .i64 a0_2, .slice A0_3 l0_3.length c0_3]] w fun e w' => e = .returned (.bool r) ∧ Below w.heap.size w w' := by
 have hu24 := Try.underlying24
 have hu55 := Try.underlying55
 have HR0_3 := zA hr0_3
 have HC0_3 := zA hc0_3
 clear hr0_3 hc0_3
 have HB := zA (Below.refl w.heap.size w)
 have H : (if (l0_3.length : Int) > 60 then (some false) else (remoralaw09_light.l0 k l0_3 (l0_3.length : Int) 0)) = some r := h
 clear h
 by_cases c2 : (l0_3.length : Int) > 60
 ·rw [if_pos c2] at H
  have c2b0 : decide (60 < (l0_3.length : Int)) = true := zd1 c2
  have c2b1 : decide (60 < l0_3.length) = true := zd1 (by omega)
  clear c2
  obtain rfl := Option.some.inj H
  go_enter Try.func7, Try.ntmps7
  go_wp2_with (first | ((with_reducible refine gate_dst (N := 1) rfl ?_); refine box_event ?hg (N := 1) ?hd (cs := #[.int .i64 a0_0, .int .i64 a0_1, .int .i64 a0_2, .slice A0_3 l0_3.length c0_3]) (t := 24) ?hr ?_; (case hd => rfl); (case hg => rfl); (case hr => first | (go_simp; done) | (go_simp; rfl)); intro gb101 hg w3 hbox hb; have n0_ := zA (zb5 (by repeat (first | (with_reducible first | exact HB.out | apply zb3 | apply zb1 | apply zb2) | exact HB.out)) hb); have n1_ := zA (hbox); have n2_ := zA ((by rw [hg]; exact (zb6 (by repeat (first | (with_reducible first | exact HB.out | apply zb3 | apply zb1 | apply zb2) | exact HB.out))) : w.heap.size ≤ gb101)); have n3_ := zA ((by rw [hg]; exact (zb6 (by repeat (first | (with_reducible first | exact HB.out | apply zb3 | apply zb1 | apply zb2) | exact HB.out))) : w.heap.size ≤ gb101)); clear HB; have HB := n0_; have BK101 := n1_; have GW101 := n2_; have GE101 := n3_; clear n0_ n1_ n2_ n3_; clear hb hbox hg; have hcz4_0 : w3.cell? ⟨gb101, 0, none⟩ = some (.int .i64 a0_0) := (zc1 BK101.out 0).trans rfl; have hcz4_1 : w3.cell? ⟨gb101, 1, none⟩ = some (.int .i64 a0_1) := (zc1 BK101.out 1).trans rfl; have hcz4_2 : w3.cell? ⟨gb101, 2, none⟩ = some (.int .i64 a0_2) := (zc1 BK101.out 2).trans rfl; have hcz4_3 : w3.cell? ⟨gb101, 3, none⟩ = some (.slice A0_3 l0_3.length c0_3) := (zc1 BK101.out 3).trans rfl; have hfz4_0 := zc5 BK101.out 0; have hfz4_1 := zc5 BK101.out 1; have hfz4_2 := zc5 BK101.out 2; have hfz4_3 := zc5 BK101.out 3))
  go_ret
  exact ⟨by first | rfl | (simp [*] <;> rfl), by repeat (first | (with_reducible first | exact HB.out | apply zb3 | apply zb1 | apply zb2 | refine zb4 ?_ GE101.out) | exact HB.out)⟩
 ·rw [if_neg c2] at H
  have c2b0 : decide (60 < (l0_3.length : Int)) = false := zd2 c2
  have c2b1 : decide (60 < l0_3.length) = false := zd2 (by omega)
  clear c2
  have H' := zA H
  clear H
  go_enter Try.func7, Try.ntmps7
  go_wp2_with (first | ((with_reducible refine gate_dst (N := 1) rfl ?_); refine box_event ?hg (N := 1) ?hd (cs := #[.int .i64 a0_0, .int .i64 a0_1, .int .i64 a0_2, .slice A0_3 l0_3.length c0_3]) (t := 24) ?hr ?_; (case hd => rfl); (case hg => rfl); (case hr => first | (go_simp; done) | (go_simp; rfl)); intro gb101 hg w5 hbox hb; have n0_ := zA (zb5 (by repeat (first | (with_reducible first | exact HB.out | apply zb3 | apply zb1 | apply zb2) | exact HB.out)) hb); have n1_ := zA (hbox); have n2_ := zA ((by rw [hg]; exact (zb6 (by repeat (first | (with_reducible first | exact HB.out | apply zb3 | apply zb1 | apply zb2) | exact HB.out))) : w.heap.size ≤ gb101)); have n3_ := zA ((by rw [hg]; exact (zb6 (by repeat (first | (with_reducible first | exact HB.out | apply zb3 | apply zb1 | apply zb2) | exact HB.out))) : w.heap.size ≤ gb101)); clear HB; have HB := n0_; have BK101 := n1_; have GW101 := n2_; have GE101 := n3_; clear n0_ n1_ n2_ n3_; clear hb hbox hg; have hcz6_0 : w5.cell? ⟨gb101, 0, none⟩ = some (.int .i64 a0_0) := (zc1 BK101.out 0).trans rfl; have hcz6_1 : w5.cell? ⟨gb101, 1, none⟩ = some (.int .i64 a0_1) := (zc1 BK101.out 1).trans rfl; have hcz6_2 : w5.cell? ⟨gb101, 2, none⟩ = some (.int .i64 a0_2) := (zc1 BK101.out 2).trans rfl; have hcz6_3 : w5.cell? ⟨gb101, 3, none⟩ = some (.slice A0_3 l0_3.length c0_3) := (zc1 BK101.out 3).trans rfl; have hfz6_0 := zc5 BK101.out 0; have hfz6_1 := zc5 BK101.out 1; have hfz6_2 := zc5 BK101.out 2; have hfz6_3 := zc5 BK101.out 3))
  go_loopg [12] k (fun kq v12 w' => ∃ (x12_1 : Int), v12 = .int .i64 x12_1 ∧ Aside0 (remoralaw09_light.l0 kq l0_3 (l0_3.length : Int) x12_1 = some r) ∧ Aside0 (kq ≤ k) ∧ Aside0 (w'.heap[gb101]? = some (.cells #[.int .i64 a0_0, .int .i64 a0_1, .int .i64 a0_2, (.slice A0_3 l0_3.length c0_3)] 24 (0, 0))) ∧ Aside0 (Below w.heap.size w w'))
  case atStart => exact ⟨(0), (by first | rfl | (simp; done) | (simp [*]; done)), H', ⟨Nat.le_refl _⟩, ⟨by (with_reducible repeat (first | refine zc3 ?_ _ | refine zc4 ?_ | refine zc2 ?_ _)); exact BK101.out⟩, ⟨by repeat (first | (with_reducible first | exact HB.out | apply zb3 | apply zb1 | apply zb2 | refine zb4 ?_ GE101.out) | exact HB.out)⟩⟩
  case round =>
   clear H'
   try clear c2
   try clear c2b0
   try clear c2b1
   try clear p2
   try clear hcz4_0
   try clear hcz4_1
   try clear hcz4_2
   try clear hcz4_3
   try clear hcz6_0
   try clear hcz6_1
   try clear hcz6_2
   try clear hcz6_3
   try clear hfz4_0
   try clear hfz4_1
   try clear hfz4_2
   try clear hfz4_3
   try clear hfz6_0
   try clear hfz6_1
   try clear hfz6_2
   try clear hfz6_3
   obtain ⟨x12_1, rfl, HA, HK1, BK101, HB⟩ := hrel
   cases gk with
   | zero => exact absurd HA.out (by simp [remoralaw09_light.l0])
   | succ k1 =>
    have H := HA.out
    clear HA
    simp only [remoralaw09_light.l0] at H
    by_cases c7 : x12_1 < (l0_3.length : Int)
    ·rw [if_pos c7] at H
     have c7b0 : decide (x12_1 < (l0_3.length : Int)) = true := zd1 c7
     clear c7
     by_cases c8 : 0 ≤ x12_1
     ·rw [if_pos c8] at H
      have c8b0 : decide (0 ≤ x12_1) = true := zd1 c8
      clear c8
      by_cases c9 : x12_1 < (l0_3.length : Int)
      ·rw [if_pos c9] at H
       have c9b0 : decide (x12_1 < (l0_3.length : Int)) = true := zd1 c9
       clear c9
       by_cases c10 : (((rd_T55 l0_3 x12_1).f1).size : Int) > 100
       ·rw [if_pos c10] at H
        have c10b0 : decide (100 < (((rd_T55 l0_3 x12_1).f1).size : Int)) = true := zd1 c10
        have c10b1 : decide (100 < ((rd_T55 l0_3 x12_1).f1).size) = true := zd1 (by omega)
        clear c10
        obtain rfl := Option.some.inj H
        have p102 : 0 ≤ (x12_1 : Int) := zd3 (by first | (with_reducible assumption) | assumption)
        have q102 : x12_1 < (l0_3.length : Int) := zd3 (by first | (with_reducible assumption) | assumption)
        obtain ⟨ad102, e102, hx102_0, hx102_1⟩ := at_T55 HR0_3.out x12_1 p102 q102
        cases e102
        replace hx102_0 := (HB.out.cell (World.block_lt_of_cell? w _ hx102_0)).trans hx102_0
        replace hx102_1 := (HB.out.cell (World.block_lt_of_cell? w _ hx102_1)).trans hx102_1
        replace p102 := eq_true p102
        replace q102 := eq_true q102
        go_wp2_with (first | ((with_reducible refine gate_dst (N := 4) rfl ?_); refine box_event ?hg (N := 4) ?hd (cs := #[.int .u32 0, .string (⟨#[]⟩ : ByteArray)]) (t := 55) ?hr ?_; (case hd => rfl); (case hg => rfl); (case hr => first | (go_simp; done) | (go_simp; rfl)); intro gb103 hg w11 hbox hb; have n0_ := zA (zc6 (g := gb101) (o := .cells #[.int .i64 a0_0, .int .i64 a0_1, .int .i64 a0_2, .slice (some ad102) l0_3.length c0_3] 24 (0, 0)) (by (with_reducible repeat (first | refine zc3 ?_ _ | refine zc4 ?_ | refine zc2 ?_ _)); exact BK101.out) hb); have n1_ := zA (zb5 (by repeat (first | (with_reducible first | exact HB.out | apply zb3 | apply zb1 | apply zb2 | refine zb4 ?_ GE101.out) | exact HB.out)) hb); have n2_ := zA (hbox); have n3_ := zA ((by rw [hg]; exact (zb6 (by repeat (first | (with_reducible first | exact HB.out | apply zb3 | apply zb1 | apply zb2 | refine zb4 ?_ GE101.out) | exact HB.out))) : w.heap.size ≤ gb103)); have n4_ := zA ((by rw [hg]; exact (zb6 (by repeat (first | (with_reducible first | exact HB.out | apply zb3 | apply zb1 | apply zb2 | refine zb4 ?_ GE101.out) | exact HB.out))) : w.heap.size ≤ gb103)); have n5_ := zA ((by rw [hg]; exact Nat.ne_of_lt (blk_lt (g := gb101) (o := .cells #[.int .i64 a0_0, .int .i64 a0_1, .int .i64 a0_2, .slice (some ad102) l0_3.length c0_3] 24 (0, 0)) (by (with_reducible repeat (first | refine zc3 ?_ _ | refine zc4 ?_ | refine zc2 ?_ _)); exact BK101.out)) : gb101 ≠ gb103)); have n6_ := zA ((by rw [hg]; exact Nat.ne_of_gt (blk_lt (g := gb101) (o := .cells #[.int .i64 a0_0, .int .i64 a0_1, .int .i64 a0_2, .slice (some ad102) l0_3.length c0_3] 24 (0, 0)) (by (with_reducible repeat (first | refine zc3 ?_ _ | refine zc4 ?_ | refine zc2 ?_ _)); exact BK101.out)) : gb103 ≠ gb101)); clear BK101; clear HB; have BK101 := n0_; have HB := n1_; have BK103 := n2_; have GW103 := n3_; have GE103 := n4_; have NB101_103 := n5_; have NB103_101 := n6_; clear n0_ n1_ n2_ n3_ n4_ n5_ n6_; clear hb hbox hg; have hnb12 := NB103_101.out; have hnc12 := NB101_103.out; have hcz13_0 : w11.cell? ⟨gb103, 0, none⟩ = some (.int .u32 0) := (zc1 BK103.out 0).trans rfl; have hcz13_1 : w11.cell? ⟨gb103, 1, none⟩ = some (.string (⟨#[]⟩ : ByteArray)) := (zc1 BK103.out 1).trans rfl; have hfz13_0 := zc5 BK103.out 0; have hfz13_1 := zc5 BK103.out 1))
        go_ret
        exact ⟨by first | rfl | (simp [*] <;> rfl), by repeat (first | (with_reducible first | exact HB.out | apply zb3 | apply zb1 | apply zb2 | refine zb4 ?_ GE101.out | refine zb4 ?_ GE103.out) | exact HB.out)⟩
       ·rw [if_neg c10] at H
        have c10b0 : decide (100 < (((rd_T55 l0_3 x12_1).f1).size : Int)) = false := zd2 c10
        have c10b1 : decide (100 < ((rd_T55 l0_3 x12_1).f1).size) = false := zd2 (by omega)
        clear c10
        have H' := zA H
        clear H
        have p102 : 0 ≤ (x12_1 : Int) := zd3 (by first | (with_reducible assumption) | assumption)
        have q102 : x12_1 < (l0_3.length : Int) := zd3 (by first | (with_reducible assumption) | assumption)
        obtain ⟨ad102, e102, hx102_0, hx102_1⟩ := at_T55 HR0_3.out x12_1 p102 q102
        cases e102
        replace hx102_0 := (HB.out.cell (World.block_lt_of_cell? w _ hx102_0)).trans hx102_0
        replace hx102_1 := (HB.out.cell (World.block_lt_of_cell? w _ hx102_1)).trans hx102_1
        replace p102 := eq_true p102
        replace q102 := eq_true q102
        go_wp2_with (first | ((with_reducible refine gate_dst (N := 4) rfl ?_); refine box_event ?hg (N := 4) ?hd (cs := #[.int .u32 0, .string (⟨#[]⟩ : ByteArray)]) (t := 55) ?hr ?_; (case hd => rfl); (case hg => rfl); (case hr => first | (go_simp; done) | (go_simp; rfl)); intro gb103 hg w14 hbox hb; have n0_ := zA (zc6 (g := gb101) (o := .cells #[.int .i64 a0_0, .int .i64 a0_1, .int .i64 a0_2, .slice (some ad102) l0_3.length c0_3] 24 (0, 0)) (by (with_reducible repeat (first | refine zc3 ?_ _ | refine zc4 ?_ | refine zc2 ?_ _)); exact BK101.out) hb); have n1_ := zA (zb5 (by repeat (first | (with_reducible first | exact HB.out | apply zb3 | apply zb1 | apply zb2 | refine zb4 ?_ GE101.out) | exact HB.out)) hb); have n2_ := zA (hbox); have n3_ := zA ((by rw [hg]; exact (zb6 (by repeat (first | (with_reducible first | exact HB.out | apply zb3 | apply zb1 | apply zb2 | refine zb4 ?_ GE101.out) | exact HB.out))) : w.heap.size ≤ gb103)); have n4_ := zA ((by rw [hg]; exact (zb6 (by repeat (first | (with_reducible first | exact HB.out | apply zb3 | apply zb1 | apply zb2 | refine zb4 ?_ GE101.out) | exact HB.out))) : w.heap.size ≤ gb103)); have n5_ := zA ((by rw [hg]; exact Nat.ne_of_lt (blk_lt (g := gb101) (o := .cells #[.int .i64 a0_0, .int .i64 a0_1, .int .i64 a0_2, .slice (some ad102) l0_3.length c0_3] 24 (0, 0)) (by (with_reducible repeat (first | refine zc3 ?_ _ | refine zc4 ?_ | refine zc2 ?_ _)); exact BK101.out)) : gb101 ≠ gb103)); have n6_ := zA ((by rw [hg]; exact Nat.ne_of_gt (blk_lt (g := gb101) (o := .cells #[.int .i64 a0_0, .int .i64 a0_1, .int .i64 a0_2, .slice (some ad102) l0_3.length c0_3] 24 (0, 0)) (by (with_reducible repeat (first | refine zc3 ?_ _ | refine zc4 ?_ | refine zc2 ?_ _)); exact BK101.out)) : gb103 ≠ gb101)); clear BK101; clear HB; have BK101 := n0_; have HB := n1_; have BK103 := n2_; have GW103 := n3_; have GE103 := n4_; have NB101_103 := n5_; have NB103_101 := n6_; clear n0_ n1_ n2_ n3_ n4_ n5_ n6_; clear hb hbox hg; have hnb15 := NB103_101.out; have hnc15 := NB101_103.out; have hcz16_0 : w14.cell? ⟨gb103, 0, none⟩ = some (.int .u32 0) := (zc1 BK103.out 0).trans rfl; have hcz16_1 : w14.cell? ⟨gb103, 1, none⟩ = some (.string (⟨#[]⟩ : ByteArray)) := (zc1 BK103.out 1).trans rfl; have hfz16_0 := zc5 BK103.out 0; have hfz16_1 := zc5 BK103.out 1))
        go_roundg k1
        case measure => have := HK1.out; omega
        case rel => exact ⟨(wrap64 (x12_1 + 1)), (by first | rfl | (simp; done) | (simp [*]; done)), H', ⟨by have := HK1.out; omega⟩, ⟨by (with_reducible repeat (first | refine zc3 ?_ _ | refine zc4 ?_ | refine zc2 ?_ _)); refine zc7 ?_ NB101_103.out _; (with_reducible repeat (first | refine zc3 ?_ _ | refine zc4 ?_ | refine zc2 ?_ _)); refine zc7 ?_ NB101_103.out _; (with_reducible repeat (first | refine zc3 ?_ _ | refine zc4 ?_ | refine zc2 ?_ _)); exact BK101.out⟩, ⟨by repeat (first | (with_reducible first | exact HB.out | apply zb3 | apply zb1 | apply zb2 | refine zb4 ?_ GE101.out | refine zb4 ?_ GE103.out) | exact HB.out)⟩⟩
      ·rw [if_neg c9] at H
       exact absurd H (by simp)
     ·rw [if_neg c8] at H
      exact absurd H (by simp)
    ·rw [if_neg c7] at H
     have c7b0 : decide (x12_1 < (l0_3.length : Int)) = false := zd2 c7
     clear c7
     obtain rfl := Option.some.inj H
     go_wp2
     go_ret
     exact ⟨by first | rfl | (simp [*] <;> rfl), by repeat (first | (with_reducible first | exact HB.out | apply zb3 | apply zb1 | apply zb2 | refine zb4 ?_ GE101.out) | exact HB.out)⟩

def blocks_block.f (a0 : Int) : Option (Bool) := if a0 ≥ 16 then (some (decide (a0 ≤ 4096))) else (some false)
set_option maxHeartbeats 8000000 in
set_option maxRecDepth 100000 in
theorem blocks_block.calls (a0 : Int) (r : Bool) (w : World) (h : blocks_block.f a0 = some r) :
    Calls Try.prog 72 #[.int .i64 a0] w fun e w' => e = .returned (.bool r) ∧ Drawn0 w w' := by
 have H : (if a0 ≥ 16 then (some (decide (a0 ≤ 4096))) else (some false)) = some r := h
 clear h
 by_cases c2 : a0 ≥ 16
 ·rw [if_pos c2] at H
  have c2b0 : decide (16 ≤ a0) = true := zd1 c2
  clear c2
  obtain rfl := Option.some.inj H
  go_enter Try.func72, Try.ntmps72
  go_wp2
  go_ret
  exact ⟨by first | rfl | (simp; done) | (simp [*]; done), by repeat (first | exact Drawn0.refl _ | apply Drawn0.step)⟩
 ·rw [if_neg c2] at H
  have c2b0 : decide (16 ≤ a0) = false := zd2 c2
  clear c2
  obtain rfl := Option.some.inj H
  go_enter Try.func72, Try.ntmps72
  go_wp2
  go_ret
  exact ⟨by first | rfl | (simp; done) | (simp [*]; done), by repeat (first | exact Drawn0.refl _ | apply Drawn0.step)⟩

def blocks_Right.f (a0 : Int) (a1 : Int) : Option (Bool) := if a0 ≥ 0 then (if a0 ≤ 131072 then ((blocks_block.f a1).bind fun t104 => (some t104)) else (some false)) else (some false)
set_option maxHeartbeats 8000000 in
set_option maxRecDepth 100000 in
theorem blocks_Right.calls (a0 : Int) (a1 : Int) (r : Bool) (w : World) (h : blocks_Right.f a0 a1 = some r) :
    Calls Try.prog 67 #[.int .i64 a0, .int .i64 a1] w fun e w' => e = .returned (.bool r) ∧ Drawn0 w w' := by
 have H : (if a0 ≥ 0 then (if a0 ≤ 131072 then ((blocks_block.f a1).bind fun t104 => (some t104)) else (some false)) else (some false)) = some r := h
 clear h
 by_cases c3 : a0 ≥ 0
 ·rw [if_pos c3] at H
  have c3b0 : decide (0 ≤ a0) = true := zd1 c3
  clear c3
  by_cases c4 : a0 ≤ 131072
  ·rw [if_pos c4] at H
   have c4b0 : decide (a0 ≤ 131072) = true := zd1 c4
   clear c4
   replace H := Option.bind_eq_some_iff.mp H
   obtain ⟨t104, A50, H⟩ := H
   replace H : (some t104) = some r := H
   have A5 := zA A50
   clear A50
   obtain rfl := Option.some.inj H
   go_enter Try.func67, Try.ntmps67
   go_wp2_with (first | (go_at_call 72; (with_reducible refine (blocks_block.calls a1 t104 _ A5.out).mono ?_); rintro e w' ⟨rfl, ⟨nd, rfl⟩⟩))
   go_ret
   exact ⟨by first | rfl | (simp; done) | (simp [*]; done), by repeat (first | exact Drawn0.refl _ | apply Drawn0.step)⟩
  ·rw [if_neg c4] at H
   have c4b0 : decide (a0 ≤ 131072) = false := zd2 c4
   clear c4
   obtain rfl := Option.some.inj H
   go_enter Try.func67, Try.ntmps67
   go_wp2
   go_ret
   exact ⟨by first | rfl | (simp; done) | (simp [*]; done), by repeat (first | exact Drawn0.refl _ | apply Drawn0.step)⟩
 ·rw [if_neg c3] at H
  have c3b0 : decide (0 ≤ a0) = false := zd2 c3
  clear c3
  obtain rfl := Option.some.inj H
  go_enter Try.func67, Try.ntmps67
  go_wp2
  go_ret
  exact ⟨by first | rfl | (simp; done) | (simp [*]; done), by repeat (first | exact Drawn0.refl _ | apply Drawn0.step)⟩

def blocks_Count.f (a0 : Int) (a1 : Int) : Option (Int) := (blocks_Right.f a0 a1).bind fun t105 => (if t105 = true then (if a1 = 0 then (none) else (some (wrap64 (Int.tdiv (wrap64 ((wrap64 (a0 + a1)) - 1)) a1)))) else (some 0))
set_option maxHeartbeats 8000000 in
set_option maxRecDepth 100000 in
theorem blocks_Count.calls (a0 : Int) (a1 : Int) (r : Int) (w : World) (h : blocks_Count.f a0 a1 = some r) :
    Calls Try.prog 56 #[.int .i64 a0, .int .i64 a1] w fun e w' => e = .returned (.int .i64 r) ∧ Drawn0 w w' := by
 have H : ((blocks_Right.f a0 a1).bind fun t105 => (if t105 = true then (if a1 = 0 then (none) else (some (wrap64 (Int.tdiv (wrap64 ((wrap64 (a0 + a1)) - 1)) a1)))) else (some 0))) = some r := h
 clear h
 replace H := Option.bind_eq_some_iff.mp H
 obtain ⟨t105, A30, H⟩ := H
 replace H : (if t105 = true then (if a1 = 0 then (none) else (some (wrap64 (Int.tdiv (wrap64 ((wrap64 (a0 + a1)) - 1)) a1)))) else (some 0)) = some r := H
 have A3 := zA A30
 clear A30
 by_cases c4 : t105 = true
 ·subst c4
  have H1 : (if a1 = 0 then (none) else (some (wrap64 (Int.tdiv (wrap64 ((wrap64 (a0 + a1)) - 1)) a1)))) = some r := by rw [if_pos rfl] at H; exact H
  clear H
  have H := H1
  clear H1
  by_cases c5 : a1 = 0
  ·rw [if_pos c5] at H
   exact absurd H (by simp)
  ·rw [if_neg c5] at H
   have c5b0 : (a1 == 0) = false := beq_eq_false_iff_ne.mpr c5
   have c5b1 : (a1 != 0) = true := bne_iff_ne.mpr c5
   obtain rfl := Option.some.inj H
   go_enter Try.func56, Try.ntmps56
   go_wp2_with (first | ((with_reducible refine gate_callee (f := 67) rfl ?_); refine goesL_ (some 7) rfl rfl Try.func67 (by kernel_rfl) rfl #[.int .i64 a0, .int .i64 a1] rfl (by (try simp only [zm1, zm2, zm3]); first | done | rfl | (simp only [List.length_drop, List.length_take]; rfl)) ?_; (with_reducible refine (blocks_Right.calls a0 a1 true _ A3.out).mono ?_); rintro e w' ⟨rfl, ⟨nd, rfl⟩⟩; refine ⟨_, rfl, ?_⟩))
   go_ret
   exact ⟨by first | rfl | (simp; done) | (simp [*]; done), by repeat (first | exact Drawn0.refl _ | apply Drawn0.step)⟩
 ·replace c4 := Bool.eq_false_iff.mpr c4
  subst c4
  have H1 : (some 0) = some r := by rw [if_neg (show ¬ (false = true) by decide)] at H; exact H
  clear H
  have H := H1
  clear H1
  obtain rfl := Option.some.inj H
  go_enter Try.func56, Try.ntmps56
  go_wp2_with (first | ((with_reducible refine gate_callee (f := 67) rfl ?_); refine goesL_ (some 7) rfl rfl Try.func67 (by kernel_rfl) rfl #[.int .i64 a0, .int .i64 a1] rfl (by (try simp only [zm1, zm2, zm3]); first | done | rfl | (simp only [List.length_drop, List.length_take]; rfl)) ?_; (with_reducible refine (blocks_Right.calls a0 a1 false _ A3.out).mono ?_); rintro e w' ⟨rfl, ⟨nd, rfl⟩⟩; refine ⟨_, rfl, ?_⟩))
  go_ret
  exact ⟨by first | rfl | (simp; done) | (simp [*]; done), by repeat (first | exact Drawn0.refl _ | apply Drawn0.step)⟩

def sig_strong.f (a0 : Int) : Option (Bool) := if a0 ≥ 1 then (some (decide (a0 ≤ 32))) else (some false)
set_option maxHeartbeats 8000000 in
set_option maxRecDepth 100000 in
theorem sig_strong.calls (a0 : Int) (r : Bool) (w : World) (h : sig_strong.f a0 = some r) :
    Calls Try.prog 33 #[.int .i64 a0] w fun e w' => e = .returned (.bool r) ∧ Drawn0 w w' := by
 have H : (if a0 ≥ 1 then (some (decide (a0 ≤ 32))) else (some false)) = some r := h
 clear h
 by_cases c2 : a0 ≥ 1
 ·rw [if_pos c2] at H
  have c2b0 : decide (1 ≤ a0) = true := zd1 c2
  clear c2
  obtain rfl := Option.some.inj H
  go_enter Try.func33, Try.ntmps33
  go_wp2
  go_ret
  exact ⟨by first | rfl | (simp; done) | (simp [*]; done), by repeat (first | exact Drawn0.refl _ | apply Drawn0.step)⟩
 ·rw [if_neg c2] at H
  have c2b0 : decide (1 ≤ a0) = false := zd2 c2
  clear c2
  obtain rfl := Option.some.inj H
  go_enter Try.func33, Try.ntmps33
  go_wp2
  go_ret
  exact ⟨by first | rfl | (simp; done) | (simp [*]; done), by repeat (first | exact Drawn0.refl _ | apply Drawn0.step)⟩

def sig_front.f (a0_0 : Int) (a0_1 : Int) (a0_2 : Int) (l0_3 : List (S55)) : Option (Int) := (sig_strong.f a0_2).bind fun t107 => (if t107 = true then ((blocks_Right.f a0_0 a0_1).bind fun t108 => (if t108 = true then (some 0) else (some 2))) else (some 2))
set_option maxHeartbeats 8000000 in
set_option maxRecDepth 100000 in
theorem sig_front.calls (a0_0 : Int) (a0_1 : Int) (a0_2 : Int) (A0_3 : Option Addr) (c0_3 : Nat) (l0_3 : List (S55)) (r : Int) (w : World) (hr0_3 : Kd.C k55 w A0_3 l0_3.length l0_3) (hc0_3 : l0_3.length ≤ c0_3) (h : sig_front.f a0_0 a0_1 a0_2 l0_3 = some r) :
    Calls Try.prog 58 #[.agg #[.int .i64 a0_0, .int .i64 a0_1, .int .i64 a0_2, .slice A0_3 l0_3.length c0_3]] w fun e w' => e = .returned (.int .i64 r) ∧ Below w.heap.size w w' := by
 have hu24 := Try.underlying24
 have HR0_3 := zA hr0_3
 have HC0_3 := zA hc0_3
 clear hr0_3 hc0_3
 have HB := zA (Below.refl w.heap.size w)
 have H : ((sig_strong.f a0_2).bind fun t107 => (if t107 = true then ((blocks_Right.f a0_0 a0_1).bind fun t108 => (if t108 = true then (some 0) else (some 2))) else (some 2))) = some r := h
 clear h
 replace H := Option.bind_eq_some_iff.mp H
 obtain ⟨t107, A20, H⟩ := H
 replace H : (if t107 = true then ((blocks_Right.f a0_0 a0_1).bind fun t108 => (if t108 = true then (some 0) else (some 2))) else (some 2)) = some r := H
 have A2 := zA A20
 clear A20
 by_cases c3 : t107 = true
 ·subst c3
  have H1 : ((blocks_Right.f a0_0 a0_1).bind fun t108 => (if t108 = true then (some 0) else (some 2))) = some r := by rw [if_pos rfl] at H; exact H
  clear H
  have H := H1
  clear H1
  replace H := Option.bind_eq_some_iff.mp H
  obtain ⟨t108, A40, H⟩ := H
  replace H : (if t108 = true then (some 0) else (some 2)) = some r := H
  have A4 := zA A40
  clear A40
  by_cases c5 : t108 = true
  ·subst c5
   have H1 : (some 0) = some r := by rw [if_pos rfl] at H; exact H
   clear H
   have H := H1
   clear H1
   obtain rfl := Option.some.inj H
   go_enter Try.func58, Try.ntmps58
   go_wp2_with (first | ((with_reducible refine gate_dst (N := 1) rfl ?_); refine box_event ?hg (N := 1) ?hd (cs := #[.int .i64 a0_0, .int .i64 a0_1, .int .i64 a0_2, .slice A0_3 l0_3.length c0_3]) (t := 24) ?hr ?_; (case hd => rfl); (case hg => rfl); (case hr => first | (go_simp; done) | (go_simp; rfl)); intro gb106 hg w6 hbox hb; have n0_ := zA (zb5 (by repeat (first | (with_reducible first | exact HB.out | apply zb3 | apply zb1 | apply zb2) | exact HB.out)) hb); have n1_ := zA (hbox); have n2_ := zA ((by rw [hg]; exact (zb6 (by repeat (first | (with_reducible first | exact HB.out | apply zb3 | apply zb1 | apply zb2) | exact HB.out))) : w.heap.size ≤ gb106)); have n3_ := zA ((by rw [hg]; exact (zb6 (by repeat (first | (with_reducible first | exact HB.out | apply zb3 | apply zb1 | apply zb2) | exact HB.out))) : w.heap.size ≤ gb106)); clear HB; have HB := n0_; have BK106 := n1_; have GW106 := n2_; have GE106 := n3_; clear n0_ n1_ n2_ n3_; clear hb hbox hg; have hcz7_0 : w6.cell? ⟨gb106, 0, none⟩ = some (.int .i64 a0_0) := (zc1 BK106.out 0).trans rfl; have hcz7_1 : w6.cell? ⟨gb106, 1, none⟩ = some (.int .i64 a0_1) := (zc1 BK106.out 1).trans rfl; have hcz7_2 : w6.cell? ⟨gb106, 2, none⟩ = some (.int .i64 a0_2) := (zc1 BK106.out 2).trans rfl; have hcz7_3 : w6.cell? ⟨gb106, 3, none⟩ = some (.slice A0_3 l0_3.length c0_3) := (zc1 BK106.out 3).trans rfl; have hfz7_0 := zc5 BK106.out 0; have hfz7_1 := zc5 BK106.out 1; have hfz7_2 := zc5 BK106.out 2; have hfz7_3 := zc5 BK106.out 3) | ((with_reducible refine gate_callee (f := 33) rfl ?_); refine goesL_ (some 5) rfl rfl Try.func33 (by kernel_rfl) rfl #[.int .i64 a0_2] rfl (by (try simp only [zm1, zm2, zm3]); first | done | rfl | (simp only [List.length_drop, List.length_take]; rfl)) ?_; (with_reducible refine (sig_strong.calls a0_2 true _ A2.out).mono ?_); rintro e w' ⟨rfl, ⟨nd, rfl⟩⟩; refine ⟨_, rfl, ?_⟩) | (go_at_call 67; (with_reducible refine (blocks_Right.calls a0_0 a0_1 true _ A4.out).mono ?_); rintro e w' ⟨rfl, ⟨nd, rfl⟩⟩))
   go_ret
   exact ⟨by first | rfl | (simp [*] <;> rfl), by repeat (first | (with_reducible first | exact HB.out | apply zb3 | apply zb1 | apply zb2 | refine zb4 ?_ GE106.out) | exact HB.out)⟩
  ·replace c5 := Bool.eq_false_iff.mpr c5
   subst c5
   have H1 : (some 2) = some r := by rw [if_neg (show ¬ (false = true) by decide)] at H; exact H
   clear H
   have H := H1
   clear H1
   obtain rfl := Option.some.inj H
   go_enter Try.func58, Try.ntmps58
   go_wp2_with (first | ((with_reducible refine gate_dst (N := 1) rfl ?_); refine box_event ?hg (N := 1) ?hd (cs := #[.int .i64 a0_0, .int .i64 a0_1, .int .i64 a0_2, .slice A0_3 l0_3.length c0_3]) (t := 24) ?hr ?_; (case hd => rfl); (case hg => rfl); (case hr => first | (go_simp; done) | (go_simp; rfl)); intro gb106 hg w8 hbox hb; have n0_ := zA (zb5 (by repeat (first | (with_reducible first | exact HB.out | apply zb3 | apply zb1 | apply zb2) | exact HB.out)) hb); have n1_ := zA (hbox); have n2_ := zA ((by rw [hg]; exact (zb6 (by repeat (first | (with_reducible first | exact HB.out | apply zb3 | apply zb1 | apply zb2) | exact HB.out))) : w.heap.size ≤ gb106)); have n3_ := zA ((by rw [hg]; exact (zb6 (by repeat (first | (with_reducible first | exact HB.out | apply zb3 | apply zb1 | apply zb2) | exact HB.out))) : w.heap.size ≤ gb106)); clear HB; have HB := n0_; have BK106 := n1_; have GW106 := n2_; have GE106 := n3_; clear n0_ n1_ n2_ n3_; clear hb hbox hg; have hcz9_0 : w8.cell? ⟨gb106, 0, none⟩ = some (.int .i64 a0_0) := (zc1 BK106.out 0).trans rfl; have hcz9_1 : w8.cell? ⟨gb106, 1, none⟩ = some (.int .i64 a0_1) := (zc1 BK106.out 1).trans rfl; have hcz9_2 : w8.cell? ⟨gb106, 2, none⟩ = some (.int .i64 a0_2) := (zc1 BK106.out 2).trans rfl; have hcz9_3 : w8.cell? ⟨gb106, 3, none⟩ = some (.slice A0_3 l0_3.length c0_3) := (zc1 BK106.out 3).trans rfl; have hfz9_0 := zc5 BK106.out 0; have hfz9_1 := zc5 BK106.out 1; have hfz9_2 := zc5 BK106.out 2; have hfz9_3 := zc5 BK106.out 3) | ((with_reducible refine gate_callee (f := 33) rfl ?_); refine goesL_ (some 5) rfl rfl Try.func33 (by kernel_rfl) rfl #[.int .i64 a0_2] rfl (by (try simp only [zm1, zm2, zm3]); first | done | rfl | (simp only [List.length_drop, List.length_take]; rfl)) ?_; (with_reducible refine (sig_strong.calls a0_2 true _ A2.out).mono ?_); rintro e w' ⟨rfl, ⟨nd, rfl⟩⟩; refine ⟨_, rfl, ?_⟩) | (go_at_call 67; (with_reducible refine (blocks_Right.calls a0_0 a0_1 false _ A4.out).mono ?_); rintro e w' ⟨rfl, ⟨nd, rfl⟩⟩))
   go_ret
   exact ⟨by first | rfl | (simp [*] <;> rfl), by repeat (first | (with_reducible first | exact HB.out | apply zb3 | apply zb1 | apply zb2 | refine zb4 ?_ GE106.out) | exact HB.out)⟩
 ·replace c3 := Bool.eq_false_iff.mpr c3
  subst c3
  have H1 : (some 2) = some r := by rw [if_neg (show ¬ (false = true) by decide)] at H; exact H
  clear H
  have H := H1
  clear H1
  obtain rfl := Option.some.inj H
  go_enter Try.func58, Try.ntmps58
  go_wp2_with (first | ((with_reducible refine gate_dst (N := 1) rfl ?_); refine box_event ?hg (N := 1) ?hd (cs := #[.int .i64 a0_0, .int .i64 a0_1, .int .i64 a0_2, .slice A0_3 l0_3.length c0_3]) (t := 24) ?hr ?_; (case hd => rfl); (case hg => rfl); (case hr => first | (go_simp; done) | (go_simp; rfl)); intro gb106 hg w10 hbox hb; have n0_ := zA (zb5 (by repeat (first | (with_reducible first | exact HB.out | apply zb3 | apply zb1 | apply zb2) | exact HB.out)) hb); have n1_ := zA (hbox); have n2_ := zA ((by rw [hg]; exact (zb6 (by repeat (first | (with_reducible first | exact HB.out | apply zb3 | apply zb1 | apply zb2) | exact HB.out))) : w.heap.size ≤ gb106)); have n3_ := zA ((by rw [hg]; exact (zb6 (by repeat (first | (with_reducible first | exact HB.out | apply zb3 | apply zb1 | apply zb2) | exact HB.out))) : w.heap.size ≤ gb106)); clear HB; have HB := n0_; have BK106 := n1_; have GW106 := n2_; have GE106 := n3_; clear n0_ n1_ n2_ n3_; clear hb hbox hg; have hcz11_0 : w10.cell? ⟨gb106, 0, none⟩ = some (.int .i64 a0_0) := (zc1 BK106.out 0).trans rfl; have hcz11_1 : w10.cell? ⟨gb106, 1, none⟩ = some (.int .i64 a0_1) := (zc1 BK106.out 1).trans rfl; have hcz11_2 : w10.cell? ⟨gb106, 2, none⟩ = some (.int .i64 a0_2) := (zc1 BK106.out 2).trans rfl; have hcz11_3 : w10.cell? ⟨gb106, 3, none⟩ = some (.slice A0_3 l0_3.length c0_3) := (zc1 BK106.out 3).trans rfl; have hfz11_0 := zc5 BK106.out 0; have hfz11_1 := zc5 BK106.out 1; have hfz11_2 := zc5 BK106.out 2; have hfz11_3 := zc5 BK106.out 3) | ((with_reducible refine gate_callee (f := 33) rfl ?_); refine goesL_ (some 5) rfl rfl Try.func33 (by kernel_rfl) rfl #[.int .i64 a0_2] rfl (by (try simp only [zm1, zm2, zm3]); first | done | rfl | (simp only [List.length_drop, List.length_take]; rfl)) ?_; (with_reducible refine (sig_strong.calls a0_2 false _ A2.out).mono ?_); rintro e w' ⟨rfl, ⟨nd, rfl⟩⟩; refine ⟨_, rfl, ?_⟩))
  go_ret
  exact ⟨by first | rfl | (simp [*] <;> rfl), by repeat (first | (with_reducible first | exact HB.out | apply zb3 | apply zb1 | apply zb2 | refine zb4 ?_ GE106.out) | exact HB.out)⟩

-- NOT PRINTED: function 68 (api_Mark_68)

-- NOT PRINTED: function 59 (api_Mark_59)

-- The closure of Check: g is the block of the signature.
set_option maxHeartbeats 8000000 in
set_option maxRecDepth 100000 in
theorem sig_Check1.calls (g : Nat) (n : Int) (wk : Int) (st : ByteArray) (w : World) (hs : w.cell? ⟨g, 2, none⟩ = some (.int .i64 n)) :
    Calls Try.prog 60 #[.agg #[.int .u32 wk, .string st], .pointer (some ⟨g, 0, none⟩)] w fun e w' => e = .returned (.bool ((st.size : Int) != n)) ∧ Below w.heap.size w w' := by
 have hlt := World.block_lt_of_cell? w ⟨g, 2, none⟩ hs
 have HS := zA hs
 have HLT := zA hlt
 clear hs hlt
 go_enter Try.func60, Try.ntmps60
 go_wp2_with (first | ((with_reducible refine gate_dst (N := 2) rfl ?_); refine box_event ?hg (N := 2) ?hd (cs := #[.int .u32 wk, .string st]) (t := 55) ?hr ?_; (case hd => rfl); (case hg => rfl); (case hr => first | (go_simp; done) | (go_simp; rfl)); intro g1 hg1 w1 hA hq; have HB := zA hq; have hc0 : w1.cell? ⟨g1, 1, none⟩ = some (.string st) := (by rw [zc1 hA]; rfl); have hc1 := pw_cell_below hq HS.out; clear hA hq hg1))
 go_ret
 exact ⟨rfl, HB.out⟩
-- slices.IndexFunc over the closure of Check: whether any mark has another length.
def anyOff (n : Int) (l : List S55) (i : Nat) : Bool := (l.drop i).any fun m => (m.f1.size : Int) != n
theorem anyOff_step (n : Int) (l : List S55) (i : Nat) (h : i < l.length) : anyOff n l i = (((rd_T55 l (i : Int)).f1.size : Int) != n || anyOff n l (i + 1)) := by
 unfold anyOff rd_T55
 rw [List.drop_eq_getElem_cons h, List.any_cons, Int.toNat_natCast, List.getD_eq_getElem?_getD, List.getElem?_eq_getElem h]
 rfl
set_option maxHeartbeats 8000000 in
set_option maxRecDepth 100000 in
theorem sig_IndexFunc.calls (g : Nat) (n : Int) (A0 : Option Addr) (c0 : Nat) (l0 : List S55) (w : World) (hs : w.cell? ⟨g, 2, none⟩ = some (.int .i64 n)) (hr0 : Kd.C k55 w A0 l0.length l0) (hn : l0.length ≤ 1000000) :
    Calls Try.prog 68 #[.slice A0 l0.length c0, .func (.func 60) #[] #[.pointer (some ⟨g, 0, none⟩)]] w fun e w' => ∃ r : Int, e = .returned (.int .i64 r) ∧ (decide (r ≥ 0) = anyOff n l0 0) ∧ Below w.heap.size w w' := by
 have HS := zA hs
 have HR := zA hr0
 obtain ⟨m, hm⟩ : ∃ m : Nat, m = l0.length := ⟨_, rfl⟩
 rw [← hm] at hn ⊢
 have HM := zA hm
 have HN := zA hn
 clear hs hr0 hm hn
 go_enter Try.func68, Try.ntmps68
 go_wp2
 go_loopg [8] (m + 1) (fun kq v8 w' => ∃ i : Nat, v8 = .int .i64 (i : Int) ∧ Aside0 (i + kq = m + 1 ∧ i ≤ m ∧ anyOff n l0 0 = anyOff n l0 i) ∧ Aside0 (Below w.heap.size w w'))
 case atStart => exact ⟨0, rfl, ⟨by omega, by omega, rfl⟩, ⟨by repeat (first | exact Below.refl _ _ | apply zb2 | apply zb1)⟩⟩
 case round =>
  obtain ⟨i, rfl, hk, HB⟩ := hrel
  by_cases hlt : i < m
  ·obtain ⟨k1, rfl⟩ : ∃ k1, gk = k1 + 1 := ⟨gk - 1, by have := hk.out.1; omega⟩
   have HI := zA hlt
   have d1 : decide ((i : Int) < (m : Int)) = true := zd1 (by omega)
   have d2 : decide (i < m) = true := zd1 hlt
   have p0 := eq_true (show (i : Int) < (m : Int) by omega)
   have o0 := eq_true (show (0 : Int) ≤ (i : Int) by omega)
   have hmm := HM.out
   obtain ⟨ad, ead, hx0, hx1⟩ := at_T55 HR.out (i : Int) (by omega) (by omega)
   cases ead
   clear hmm
   have HA := zA (anyOff_step n l0 i (by have := HM.out; omega))
   replace hx0 := (HB.out.cell (World.block_lt_of_cell? w _ hx0)).trans hx0
   replace hx1 := (HB.out.cell (World.block_lt_of_cell? w _ hx1)).trans hx1
   rw [Int.toNat_natCast] at hx0 hx1
   obtain ⟨wk, hwk⟩ : ∃ wk, wk = (rd_T55 l0 (i : Int)).f0 := ⟨_, rfl⟩
   obtain ⟨st, hst⟩ : ∃ st, st = (rd_T55 l0 (i : Int)).f1 := ⟨_, rfl⟩
   rw [← hwk] at hx0
   rw [← hst] at hx1 HA
   have HBS := zA ((HB.out.cell (World.block_lt_of_cell? w _ HS.out)).trans HS.out)
   clear hwk hst
   go_wp2_with fail
   refine (sig_Check1.calls g n wk st _ (by first | exact HBS.out | (have h1 := HBS.out; simpa using h1))).mono ?_
   rintro e w' ⟨rfl, hb⟩
   have HB1 := zA (HB.out.trans (hb.mono HB.out.size))
   clear hb
   by_cases hne : ((st.size : Int) != n) = true
   ·rw [hne]
    go_wp2_with fail
    go_ret
    exact ⟨(i : Int), rfl, by rw [hk.out.2.2, HA.out, hne, Bool.true_or]; simp, HB1.out⟩
   ·rw [Bool.not_eq_true] at hne
    rw [hne]
    have HA' := zA (show anyOff n l0 i = anyOff n l0 (i + 1) by rw [HA.out, hne, Bool.false_or])
    clear hne
    go_wp2_with fail
    rw [show wrap64 ((i : Int) + 1) = ((i + 1 : Nat) : Int) by have := HN.out; have := HI.out; unfold wrap64; omega]
    go_roundg k1
    case measure => have := hk.out.1; omega
    case rel => exact ⟨i + 1, rfl, ⟨by have h1 := hk.out; have := HI.out; exact ⟨by omega, by omega, by rw [h1.2.2, HA'.out]⟩⟩, ⟨HB1.out⟩⟩
  ·have hme : i = m := by have := hk.out.2.1; omega
   subst hme
   have hmm := HM.out
   have HA := zA (show anyOff n l0 0 = false by rw [hk.out.2.2]; unfold anyOff; rw [hmm, List.drop_length]; rfl)
   clear hmm hlt
   go_wp2_with fail
   go_ret
   exact ⟨-1, rfl, by rw [HA.out]; rfl, HB.out⟩
set_option maxHeartbeats 8000000 in
set_option maxRecDepth 100000 in
theorem sig_ContainsFunc.calls (g : Nat) (n : Int) (A0 : Option Addr) (c0 : Nat) (l0 : List S55) (w : World) (hs : w.cell? ⟨g, 2, none⟩ = some (.int .i64 n)) (hr0 : Kd.C k55 w A0 l0.length l0) (hn : l0.length ≤ 1000000) :
    Calls Try.prog 59 #[.slice A0 l0.length c0, .func (.func 60) #[] #[.pointer (some ⟨g, 0, none⟩)]] w fun e w' => e = .returned (.bool (anyOff n l0 0)) ∧ Below w.heap.size w w' := by
 have HS := zA hs
 have HR := zA hr0
 have HN := zA hn
 clear hs hr0 hn
 go_enter Try.func59, Try.ntmps59
 go_wp2_with fail
 refine (sig_IndexFunc.calls g n A0 c0 l0 _ HS.out HR.out HN.out).mono ?_
 rintro e w' ⟨r, rfl, hr, hb⟩
 have HB1 := zA hb
 clear hb
 go_wp2_with fail
 go_ret
 refine ⟨?_, HB1.out⟩
 rw [← hr]
 rfl
def sig_Check.f (a0_0 : Int) (a0_1 : Int) (a0_2 : Int) (l0_3 : List S55) : Option Int :=
 (sig_front.f a0_0 a0_1 a0_2 l0_3).bind fun e => if e = 0 then (blocks_Count.f a0_0 a0_1).bind fun n => if (l0_3.length : Int) = n then (if l0_3.length ≤ 1000000 then (if anyOff a0_2 l0_3 0 = true then some 5 else some 0) else none) else some 5 else some e
def sig_Check.T4 : Bool × List (List Nat × List Nat) := (true, [([], []), ([0], [0]), ([1], [1]), ([], []), ([3], [3]), ([], []), ([5], [5]), ([4, 6], [4, 6]), ([2, 7], [2, 7]), ([8, 7], [8])])
def sig_Check.B4 : List Nat := [0, 1, 3, 0, 8, 0, 32, 120, 255, 511]
theorem sig_Check.tab4 : rtab .any (opsOf Try.f41 4) = sig_Check.T4 := by kernel_rfl
theorem sig_Check.bits4 : waitsOk sig_Check.T4.2 sig_Check.B4 = true := by kernel_rfl
set_option maxHeartbeats 8000000 in
set_option maxRecDepth 100000 in
theorem sig_Check.calls (a0_0 : Int) (a0_1 : Int) (a0_2 : Int) (A0_3 : Option Addr) (c0_3 : Nat) (l0_3 : List S55) (r : Int) (w : World) (hr0_3 : Kd.C k55 w A0_3 l0_3.length l0_3) (hc0_3 : l0_3.length ≤ c0_3) (h : sig_Check.f a0_0 a0_1 a0_2 l0_3 = some r) :
    Calls Try.prog 41 #[.agg #[.int .i64 a0_0, .int .i64 a0_1, .int .i64 a0_2, .slice A0_3 l0_3.length c0_3]] w fun e w' => e = .returned (.int .i64 r) ∧ Below w.heap.size w w' := by
 have hu := Try.underlying24
 have HR := zA hr0_3
 have HC := zA hc0_3
 clear hr0_3 hc0_3
 obtain ⟨e1, he1, h⟩ := Option.bind_eq_some_iff.mp (show ((sig_front.f a0_0 a0_1 a0_2 l0_3).bind fun e => if e = 0 then (blocks_Count.f a0_0 a0_1).bind fun n => if (l0_3.length : Int) = n then (if l0_3.length ≤ 1000000 then (if anyOff a0_2 l0_3 0 = true then some 5 else some 0) else none) else some 5 else some e) = some r from h)
 replace h : (if e1 = 0 then (blocks_Count.f a0_0 a0_1).bind fun n => if (l0_3.length : Int) = n then (if l0_3.length ≤ 1000000 then (if anyOff a0_2 l0_3 0 = true then some 5 else some 0) else none) else some 5 else some e1) = some r := h
 have HE := zA he1
 have H := zA h
 clear he1 h
 go_enter Try.func41, Try.ntmps41
 go_wp2_with (first | ((with_reducible refine gate_dst (N := 1) rfl ?_); refine box_event ?hg (N := 1) ?hd (cs := #[.int .i64 a0_0, .int .i64 a0_1, .int .i64 a0_2, .slice A0_3 l0_3.length c0_3]) (t := 24) ?hr ?_; (case hd => rfl); (case hg => rfl); (case hr => first | (go_simp; done) | (go_simp; rfl)); intro g1 hg1 w1 hA hq; have HB := zA hq; have HBK := zA hA; have hc0 : w1.cell? ⟨g1, 0, none⟩ = some (.int .i64 a0_0) := (by rw [zc1 hA]; rfl); have hc1 : w1.cell? ⟨g1, 1, none⟩ = some (.int .i64 a0_1) := (by rw [zc1 hA]; rfl); have hc2 : w1.cell? ⟨g1, 2, none⟩ = some (.int .i64 a0_2) := (by rw [zc1 hA]; rfl); have hc3 : w1.cell? ⟨g1, 3, none⟩ = some (.slice A0_3 l0_3.length c0_3) := (by rw [zc1 hA]; rfl); clear hA hq hg1))
 refine (sig_front.calls a0_0 a0_1 a0_2 A0_3 c0_3 l0_3 e1 _ (Kd.C_below HR.out HB.out) HC.out HE.out).mono ?_
 rintro e w2 ⟨rfl, hb⟩
 have HB2 := zA (zb5 HB.out hb)
 have HBK2 := zA (zc6 HBK.out hb)
 replace hc0 : w2.cell? ⟨g1, 0, none⟩ = some (.int .i64 a0_0) := (by rw [zc1 HBK2.out]; rfl)
 replace hc1 : w2.cell? ⟨g1, 1, none⟩ = some (.int .i64 a0_1) := (by rw [zc1 HBK2.out]; rfl)
 replace hc2 : w2.cell? ⟨g1, 2, none⟩ = some (.int .i64 a0_2) := (by rw [zc1 HBK2.out]; rfl)
 replace hc3 : w2.cell? ⟨g1, 3, none⟩ = some (.slice A0_3 l0_3.length c0_3) := (by rw [zc1 HBK2.out]; rfl)
 clear hb
 by_cases he : e1 = 0
 ·subst he
  have H' := zA ((if_pos rfl).symm.trans H.out)
  clear H
  go_wp2_with fail
  obtain ⟨n, hn, h2⟩ := Option.bind_eq_some_iff.mp H'.out
  replace h2 : (if (l0_3.length : Int) = n then (if l0_3.length ≤ 1000000 then (if anyOff a0_2 l0_3 0 = true then some 5 else some 0) else none) else some 5) = some r := h2
  have HN := zA hn
  have H2 := zA h2
  clear hn h2 H'
  refine start_ (n := 10) (S := fun w' => w'.cell? ⟨g1, 0, none⟩ = some (.int .i64 a0_0) ∧ w'.cell? ⟨g1, 1, none⟩ = some (.int .i64 a0_1) ∧ w'.cell? ⟨g1, 3, none⟩ = some (.slice A0_3 l0_3.length c0_3)) (ds := []) (qq 10 0) (by kernel_rfl) rfl (by kernel_rfl) ⟨hc0, hc1, hc3⟩ (fun hHeld => ?_); refine with_tabW sig_Check.tab4 sig_Check.bits4 (fun HT_ HW_ => ?_)
  refine ord_ [(0, 0, 1), (0, 3, 9), (0, 5, 41), (1, 1, 43), (0, 2, 47), (1, 4, 63), (1, 6, 127)] ?_
  repeat (first | (refine kk_ 0 ?_; refine oP_ (v := ?_) (a' := ?_) HT_ rfl rfl (by kernel_rfl) (fun _ _ _ h => h) (Or.inl ⟨by rfl, ?_⟩) ?_ ?_; rotate_left; (intro w'; go_simp; with_reducible rfl); rotate_left; (simp only [Act.put, zs1, zs2, zs3, i64_w, i32_w]; rfl)) | (refine kk_ 1 ?_; refine oT_ (v := ?_) (a' := ?_) HT_ HW_ rfl rfl (by kernel_rfl) (fun _ _ _ h => h) (Or.inl ⟨by rfl, ?_⟩) hHeld ?_ ?_; rotate_left; (rintro w' ⟨s0, s1, s2⟩; go_simp; with_reducible rfl); rotate_left; (simp only [Act.put, zs1, zs2, zs3, i64_w, i32_w]; rfl)))
  refine oend_ ?_
  refine one_ (i := 7) (N := some 18) (qq 10 255) rfl rfl (one_of HT_.out (by kernel_rfl)) (by decide) (fun K hK => ?_)
  refine goes_ Try.func56 (by kernel_rfl) rfl #[.int .i64 a0_0, .int .i64 a0_1] (by rfl) rfl rfl (by (try simp only [zm1, zm2, zm3]); first | done | rfl) ?_
  with_reducible refine (blocks_Count.calls a0_0 a0_1 n _ HN.out).mono ?_
  rintro e w' ⟨rfl, ⟨nd, rfl⟩⟩
  refine ⟨_, rfl, ?_⟩
  refine hK.out _ _ hHeld (fun hHeld => ?_)
  clear hK K
  refine norm_ (a' := ?_) ?_ ?_
  rotate_left
  ·show Act.put _ (some 18) _ = _
   simp only [Act.put, zs1, zs2, zs3, i64_w, i32_w]
   rfl
  refine ord_ [(0, 8, 511), (0, 9, 1023)] ?_
  repeat (refine kk_ 0 ?_; refine oP_ (v := ?_) (a' := ?_) HT_ rfl rfl (by kernel_rfl) (fun _ _ _ h => h) (Or.inl ⟨by rfl, ?_⟩) ?_ ?_; rotate_left; (intro w'; go_simp; with_reducible rfl); rotate_left; (simp only [Act.put, zs1, zs2, zs3, i64_w, i32_w]; rfl))
  refine oend_ ?_
  refine done_ (done_of HT_.out (by kernel_rfl)) ?_
  go_simp
  clear hc0 hc1
  by_cases hl : (l0_3.length : Int) = n
  ·subst hl
   have H3 := (if_pos rfl).symm.trans H2.out
   clear H2
   by_cases hm : l0_3.length ≤ 1000000
   ·rw [if_pos hm] at H3
    have HM := zA hm
    have H3' := zA H3
    clear hm H3
    have d1 : ((l0_3.length : Int) != (l0_3.length : Int)) = false := by simp
    go_wp2_with fail
    refine (sig_ContainsFunc.calls g1 a0_2 A0_3 c0_3 l0_3 (w2.drewN (1 + nd)) hc2 (Kd.C_drewN (Kd.C_below HR.out HB2.out) _) HM.out).mono ?_
    rintro e w3 ⟨rfl, hb⟩
    have HB3 := zA (zb5 (zb1 HB2.out (1 + nd)) hb)
    clear hb
    by_cases ha : anyOff a0_2 l0_3 0 = true
    ·have H4 := zA (Option.some.inj ((if_pos ha).symm.trans H3'.out))
     rw [ha]
     clear ha
     go_wp2_with fail
     go_ret
     exact ⟨by rw [← H4.out]; rfl, HB3.out⟩
    ·have H4 := zA (Option.some.inj ((if_neg ha).symm.trans H3'.out))
     rw [Bool.not_eq_true] at ha
     rw [ha]
     clear ha
     go_wp2_with fail
     go_ret
     exact ⟨by rw [← H4.out]; rfl, HB3.out⟩
   ·rw [if_neg hm] at H3
    cases H3
  ·have H3 := zA (Option.some.inj ((if_neg hl).symm.trans H2.out))
   have d1 : ((l0_3.length : Int) != n) = true := by simpa using hl
   go_wp2_with fail
   go_ret
   exact ⟨by rw [← H3.out]; rfl, zb1 HB2.out _⟩
 ·have H' := zA (Option.some.inj ((if_neg he).symm.trans H.out))
  have d1 : (e1 != 0) = true := by simpa using he
  clear H
  go_wp2_with fail
  go_ret
  exact ⟨by rw [← H'.out]; rfl, HB2.out⟩


def index_Index_head.f (l0_0 : List (S55)) (a0_1 : Int) (a0_2 : Int) (l0_3 : List (List Int)) (a1 : Int) : Option (Int) := some (wrap64 (Go.bits .and .u32 (Go.bits .xor .u32 a1 (a1 / 65536)) ((wrap64 ((l0_3.length : Int) - 1)) % 4294967296)))
set_option maxHeartbeats 8000000 in
set_option maxRecDepth 100000 in
theorem index_Index_head.calls (g : Nat) (A0_0 : Option Addr) (c0_0 : Nat) (l0_0 : List (S55)) (a0_1 : Int) (a0_2 : Int) (A0_3 : Option Addr) (c0_3 : Nat) (l0_3 : List (List Int)) (a1 : Int) (r : Int) (w : World) (hr0_0 : Kd.C k55 w A0_0 l0_0.length l0_0) (hc0_0 : l0_0.length ≤ c0_0) (hr0_3 : Kd.C (Kd.slice 3 (Kd.int .i64)) w A0_3 l0_3.length l0_3) (hc0_3 : l0_3.length ≤ c0_3) (hx : w.heap[g]? = some (.cells #[.slice A0_0 l0_0.length c0_0, .int .i64 a0_1, .int .i64 a0_2, .slice A0_3 l0_3.length c0_3] 81 (0, 0))) (h : index_Index_head.f l0_0 a0_1 a0_2 l0_3 a1 = some r) :
    Calls Try.prog 42 #[.pointer (some ⟨g, 0, none⟩), .int .u32 a1] w fun e w' => e = .returned (.int .i64 r) ∧ Below w.heap.size w w' := by
 have hu81 := Try.underlying81
 have HR0_0 := zA hr0_0
 have HC0_0 := zA hc0_0
 clear hr0_0 hc0_0
 have HR0_3 := zA hr0_3
 have HC0_3 := zA hc0_3
 clear hr0_3 hc0_3
 have HB := zA (Below.refl w.heap.size w)
 have H : (some (wrap64 (Go.bits .and .u32 (Go.bits .xor .u32 a1 (a1 / 65536)) ((wrap64 ((l0_3.length : Int) - 1)) % 4294967296)))) = some r := h
 clear h
 obtain rfl := Option.some.inj H
 go_enter Try.func42, Try.ntmps42
 have BK109 := zA hx
 have hcz4_0 : w.cell? ⟨g, 0, none⟩ = some (.slice A0_0 l0_0.length c0_0) := (zc1 BK109.out 0).trans rfl
 have hcz4_1 : w.cell? ⟨g, 1, none⟩ = some (.int .i64 a0_1) := (zc1 BK109.out 1).trans rfl
 have hcz4_2 : w.cell? ⟨g, 2, none⟩ = some (.int .i64 a0_2) := (zc1 BK109.out 2).trans rfl
 have hcz4_3 : w.cell? ⟨g, 3, none⟩ = some (.slice A0_3 l0_3.length c0_3) := (zc1 BK109.out 3).trans rfl
 have hfz4_0 := zc5 BK109.out 0
 have hfz4_1 := zc5 BK109.out 1
 have hfz4_2 := zc5 BK109.out 2
 have hfz4_3 := zc5 BK109.out 3
 go_wp2_with (first | fail)
 go_ret
 exact ⟨by first | rfl | (simp [*] <;> rfl), by repeat (first | (with_reducible first | exact HB.out | apply zb3 | apply zb1 | apply zb2 | refine zb4 ?_ GE109.out) | exact HB.out)⟩

end Go.Proofs.Ytkihlcmjjoiccaa.PMatchCosts
