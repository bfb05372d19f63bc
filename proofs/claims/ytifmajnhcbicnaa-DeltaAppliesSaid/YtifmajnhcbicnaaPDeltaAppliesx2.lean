-- Written by a program of this session (the kit's printer with hand-written contracts among its functions).
-- slim
import Derived.Test.YtifmajnhcbicnaaPDeltaAppliesx0
import Derived.Test.YtifmajnhcbicnaaPDeltaAppliesx1
namespace Go.Proofs.Ytifmajnhcbicnaa.PDeltaApplies
open Go.RowKit Go.Proofs.YtifmajnhcbicnaaW.PrintWords Go.Proofs.YtifmajnhcbicnaaW.PrintLast Go.Proofs.YtifmajnhcbicnaaW.PrintMore
attribute [local go_sem] max2_int min2_int max_two min_two max_three min_three max_four min_four   -- for this text's walks alone
set_option linter.unusedVariables false
set_option linter.unusedSimpArgs false

/-! ### delta_Apply: function 18 -/
def delta_Apply.l0 : Nat → List Int → List Int → List (S40) → Int → Int → Option (List Int × Int)
 | 0, _, _, _, _, _ => none
 | k + 1, x0, x7, x17, x18, x19 => if x19 < x18 then (if 0 ≤ x19 then (if x19 < (x17.length : Int) then ((delta_told.f ((rd_T40 x17 x19).f0) ((rd_T40 x17 x19).f1) ((rd_T40 x17 x19).f2)).bind fun t114 => (if t114 = true then (if x7.length + ((rd_T40 x17 x19).f2).length < 140737488355328 then (delta_Apply.l0 k x0 (x7 ++ ((rd_T40 x17 x19).f2)) x17 x18 (wrap64 (x19 + 1))) else (none)) else (if 0 ≤ ((rd_T40 x17 x19).f0) then (if ((rd_T40 x17 x19).f0) ≤ (wrap64 (((rd_T40 x17 x19).f0) + ((rd_T40 x17 x19).f1))) then (if (wrap64 (((rd_T40 x17 x19).f0) + ((rd_T40 x17 x19).f1))) ≤ (x0.length : Int) then (if x7.length + ((x0.take ((wrap64 (((rd_T40 x17 x19).f0) + ((rd_T40 x17 x19).f1))) : Int).toNat).drop (((rd_T40 x17 x19).f0) : Int).toNat).length < 140737488355328 then (delta_Apply.l0 k x0 (x7 ++ ((x0.take ((wrap64 (((rd_T40 x17 x19).f0) + ((rd_T40 x17 x19).f1))) : Int).toNat).drop (((rd_T40 x17 x19).f0) : Int).toNat)) x17 x18 (wrap64 (x19 + 1))) else (none)) else (none)) else (none)) else (none)))) else (none)) else (none)) else (some (x7, 0))
def delta_Apply.f (k : Nat) (l0 : List Int) (l1 : List (S40)) : Option (List Int × Int) := (delta_Check.f k l1 (l0.length : Int)).bind fun t111 => (if t111 = 0 then (delta_Apply.l0 k l0 ([] : List Int) l1 (l1.length : Int) 0) else (some (([] : List Int), t111)))
theorem delta_Apply.mono_l : ∀ k, (∀ y0 y1 y2 y3 y4, LeO (delta_Apply.l0 k y0 y1 y2 y3 y4) (delta_Apply.l0 (k + 1) y0 y1 y2 y3 y4))
 | 0 => fun _ _ _ _ _ r h => by simp [delta_Apply.l0] at h
 | k + 1 => by
  have ih0 := delta_Apply.mono_l k
  ·intro y0 y1 y2 y3 y4
   unfold delta_Apply.l0
   repeat' first
   | (with_reducible exact ih0 _ _ _ _ _)
   | (with_reducible exact delta_Check.mono _ _ _)
   | (with_reducible exact LeO.refl _)
   | (with_reducible exact LeO.none _)
   | (with_reducible refine LeO.ite ?_ ?_)
   | (with_reducible refine LeO.bind ?_ (fun _ => ?_))
   | exact ih0 _ _ _ _ _
   | exact delta_Check.mono _ _ _
   | exact LeO.none _
   | refine LeO.ite ?_ ?_
   | refine LeO.bind ?_ (fun _ => ?_)
theorem delta_Apply.mono : ∀ a0 a1 k, LeO (delta_Apply.f k a0 a1) (delta_Apply.f (k + 1) a0 a1) := by
 intro a0 a1 k
 have ih0 := delta_Apply.mono_l k
 unfold delta_Apply.f
 repeat' first
   | (with_reducible exact ih0 _ _ _ _ _)
   | (with_reducible exact delta_Check.mono _ _ _)
   | (with_reducible exact LeO.refl _)
   | (with_reducible exact LeO.none _)
   | (with_reducible refine LeO.ite ?_ ?_)
   | (with_reducible refine LeO.bind ?_ (fun _ => ?_))
   | exact ih0 _ _ _ _ _
   | exact delta_Check.mono _ _ _
   | exact LeO.none _
   | refine LeO.ite ?_ ?_
   | refine LeO.bind ?_ (fun _ => ?_)
set_option maxHeartbeats 8000000 in
set_option maxRecDepth 100000 in
theorem delta_Apply.calls (k : Nat) (A0 : Option Addr) (c0 : Nat) (l0 : List Int) (A1 : Option Addr) (c1 : Nat) (l1 : List (S40)) (r1 : List Int) (r2 : Int) (w : World) (hr0 : Kd.C (Kd.int .u8) w A0 l0.length l0) (hc0 : l0.length ≤ c0) (hr1 : Kd.C k40 w A1 l1.length l1) (hc1 : l1.length ≤ c1) (h : delta_Apply.f k l0 l1 = some (r1, r2)) :
  Calls Try.prog 18 #[.slice A0 l0.length c0, .slice A1 l1.length c1] w fun e w' => ∃ v0_ : Value, e = .returned (.tuple #[v0_, .int .i64 r2]) ∧ Kd.R (Kd.int .u8) 5 w' w.heap.size (fun _ => True) v0_ r1 ∧ Below w.heap.size w w' := by
 have hu40 := Try.underlying40
 have HR0 := Aside0.mk hr0
 have HC0 := Aside0.mk hc0
 clear hr0 hc0
 have HR1 := Aside0.mk hr1
 have HC1 := Aside0.mk hc1
 clear hr1 hc1
 have HB := Aside0.mk (Below.refl w.heap.size w)
 have H : ((delta_Check.f k l1 (l0.length : Int)).bind fun t111 => (if t111 = 0 then (delta_Apply.l0 k l0 ([] : List Int) l1 (l1.length : Int) 0) else (some (([] : List Int), t111)))) = some (r1, r2) := h
 clear h
 replace H := Option.bind_eq_some_iff.mp H
 obtain ⟨t111, A30, H⟩ := H
 replace H : (if t111 = 0 then (delta_Apply.l0 k l0 ([] : List Int) l1 (l1.length : Int) 0) else (some (([] : List Int), t111))) = some (r1, r2) := H
 have A3 := Aside0.mk A30
 clear A30
 by_cases c4 : t111 = 0
 ·rw [if_pos c4] at H
  have c4b0 : (t111 == 0) = true := beq_iff_eq.mpr c4
  have c4b1 : (t111 != 0) = false := bne_eq_false_iff_eq.mpr c4
  clear c4
  have H' := Aside0.mk H
  clear H
  go_enter Try.func18, Try.ntmps18
  go_wp2_with (first | ((with_reducible refine gate_callee (f := 14) rfl ?_); refine goesL_ (some 13) rfl rfl Try.func14 (by kernel_rfl) rfl #[.slice A1 l1.length c1, .int .i64 (l0.length : Int)] rfl (by (try simp only [List.map_toArray, List.map_cons, List.map_nil]); first | done | rfl | (simp only [List.length_drop, List.length_take]; rfl)) ?_; (with_reducible refine (delta_Check.calls k _ _ l1 (l0.length : Int) t111 _ ?side1 ?side2 A3.out).mono ?_); (case side1 => repeat (first | exact HR1.out | (with_reducible refine Kd.C_alloc ?_ _) | (with_reducible refine Kd.C_drewN ?_ _) | (with_reducible refine Kd.C_drew ?_))); (case side2 => exact HC1.out); rintro e w5 ⟨rfl, hb⟩; refine ⟨_, rfl, ?_⟩; have n0_ := Aside0.mk (below_step (by repeat (first | exact HB.out | apply b1 | apply b2 | apply b3)) hb); clear HB; have HB := n0_; clear n0_; (try clear hb); (try clear hb2); (try clear hk); (try clear hi)))
  go_loopg [7, 19] k (fun kq v7 v19 w' => ∃ (x7_1 : List Int) (x19_1 : Int), v19 = .int .i64 x19_1 ∧ Aside0 (delta_Apply.l0 kq l0 x7_1 l1 (l1.length : Int) x19_1 = some (r1, r2)) ∧ Aside0 (kq ≤ k) ∧ Aside0 (Kd.R (Kd.int .u8) 5 w' w.heap.size (fun _ => True) v7 x7_1) ∧ Aside0 (Below w.heap.size w w'))
  case atStart => exact ⟨(([] : List Int)), (0), (by first | rfl | (simp; done) | (simp [*]; done)), H', ⟨Nat.le_refl _⟩, ⟨by first | exact Kd.R_nil _ _ _ _ _ | exact Kd.N_nil _ _ _ _ _ | exact Kd.V_nil _ _ _ _ _ | exact Kd.Q_nil _ _ _ _ _ | exact Kd.S_nil _ _ _ _ _⟩, ⟨by repeat (first | exact HB.out | apply b1 | apply b2 | apply b3)⟩⟩
  case round =>
   clear H'
   try clear c1
   try clear p2
   try clear c4
   try clear c4b0
   try clear c4b1
   obtain ⟨x7_1, x19_1, rfl, HA, HK1, HO_7, HB⟩ := hrel
   cases gk with
   | zero => exact absurd HA.out (by simp [delta_Apply.l0])
   | succ k1 =>
    have H := HA.out
    clear HA
    simp only [delta_Apply.l0] at H
    by_cases c6 : x19_1 < (l1.length : Int)
    ·rw [if_pos c6] at H
     have c6b0 : decide (x19_1 < (l1.length : Int)) = true := decide_eq_true c6
     clear c6
     by_cases c7 : 0 ≤ x19_1
     ·rw [if_pos c7] at H
      have c7b0 : decide (0 ≤ x19_1) = true := decide_eq_true c7
      clear c7
      by_cases c8 : x19_1 < (l1.length : Int)
      ·rw [if_pos c8] at H
       have c8b0 : decide (x19_1 < (l1.length : Int)) = true := decide_eq_true c8
       clear c8
       replace H := Option.bind_eq_some_iff.mp H
       obtain ⟨t114, A90, H⟩ := H
       replace H : (if t114 = true then (if x7_1.length + ((rd_T40 l1 x19_1).f2).length < 140737488355328 then (delta_Apply.l0 k1 l0 (x7_1 ++ ((rd_T40 l1 x19_1).f2)) l1 (l1.length : Int) (wrap64 (x19_1 + 1))) else (none)) else (if 0 ≤ ((rd_T40 l1 x19_1).f0) then (if ((rd_T40 l1 x19_1).f0) ≤ (wrap64 (((rd_T40 l1 x19_1).f0) + ((rd_T40 l1 x19_1).f1))) then (if (wrap64 (((rd_T40 l1 x19_1).f0) + ((rd_T40 l1 x19_1).f1))) ≤ (l0.length : Int) then (if x7_1.length + ((l0.take ((wrap64 (((rd_T40 l1 x19_1).f0) + ((rd_T40 l1 x19_1).f1))) : Int).toNat).drop (((rd_T40 l1 x19_1).f0) : Int).toNat).length < 140737488355328 then (delta_Apply.l0 k1 l0 (x7_1 ++ ((l0.take ((wrap64 (((rd_T40 l1 x19_1).f0) + ((rd_T40 l1 x19_1).f1))) : Int).toNat).drop (((rd_T40 l1 x19_1).f0) : Int).toNat)) l1 (l1.length : Int) (wrap64 (x19_1 + 1))) else (none)) else (none)) else (none)) else (none))) = some (r1, r2) := H
       have A9 := Aside0.mk A90
       clear A90
       by_cases c10 : t114 = true
       ·subst c10
        have H1 : (if x7_1.length + ((rd_T40 l1 x19_1).f2).length < 140737488355328 then (delta_Apply.l0 k1 l0 (x7_1 ++ ((rd_T40 l1 x19_1).f2)) l1 (l1.length : Int) (wrap64 (x19_1 + 1))) else (none)) = some (r1, r2) := by rw [if_pos rfl] at H; exact H
        clear H
        have H := H1
        clear H1
        by_cases c11 : x7_1.length + ((rd_T40 l1 x19_1).f2).length < 140737488355328
        ·rw [if_pos c11] at H
         have LMc11 := Aside0.mk c11
         clear c11
         obtain ⟨y115, hy115⟩ : ∃ y_ : List Int, y_ = (x7_1 ++ ((rd_T40 l1 x19_1).f2)) := ⟨_, rfl⟩
         replace H : (delta_Apply.l0 k1 l0 y115 l1 (l1.length : Int) (wrap64 (x19_1 + 1))) = some (r1, r2) := by first | (rw [hy115]; with_reducible exact H) | (have H2_ := (Option.bind_some _ _).symm.trans H; rw [hy115]; with_reducible exact H2_) | (have H2_ := (Option.bind_some _ _).symm.trans H; with_reducible exact H2_) | with_reducible exact H | (rw [hy115]; exact H) | exact H
         have Ny115 := Aside0.mk hy115
         clear hy115
         have H' := Aside0.mk H
         clear H
         have p112 : 0 ≤ (x19_1 : Int) := of_decide_eq_true (by assumption)
         have q112 : x19_1 < (l1.length : Int) := of_decide_eq_true (by assumption)
         obtain ⟨ad112, A112_2, c112_2, e112, hx112_0, hx112_1, hx112_2, hl112_2, hi112_2⟩ := at_T40 HR1.out x19_1 p112 q112
         cases e112
         replace hx112_0 := (HB.out.cell (World.block_lt_of_cell? w _ hx112_0)).trans hx112_0
         replace hx112_1 := (HB.out.cell (World.block_lt_of_cell? w _ hx112_1)).trans hx112_1
         replace hx112_2 := (HB.out.cell (World.block_lt_of_cell? w _ hx112_2)).trans hx112_2
         have HR112_2 := Aside0.mk hi112_2
         have HC112_2 := Aside0.mk hl112_2
         clear hi112_2 hl112_2
         replace p112 := eq_true p112
         replace q112 := eq_true q112
         go_wp2_with (first | ((with_reducible refine gate_dst (N := 9) rfl ?_); refine box_event ?hg (N := 9) ?hd (cs := #[.int .i64 0, .int .i64 0, .slice none 0 0]) (t := 40) ?hr ?_; (case hd => rfl); (case hg => rfl); (case hr => first | (go_simp; done) | (go_simp; rfl)); intro gb113 hg w12 hbox hb; have n0_ := Aside0.mk (Kd.R_below (by (with_reducible repeat (first | apply Kd.R_alloc | apply Kd.R_drewN | apply Kd.R_drew)); exact HO_7.out) hb); have n1_ := Aside0.mk (below_step (by repeat (first | exact HB.out | apply b1 | apply b2 | apply b3)) hb); have n2_ := Aside0.mk (hbox); have n3_ := Aside0.mk ((by rw [hg]; exact (below_size (by repeat (first | exact HB.out | apply b1 | apply b2 | apply b3))) : w.heap.size ≤ gb113)); have n4_ := Aside0.mk ((by rw [hg]; exact (below_size (by repeat (first | exact HB.out | apply b1 | apply b2 | apply b3))) : w.heap.size ≤ gb113)); clear HO_7; clear HB; have HO_7 := n0_; have HB := n1_; have BK113 := n2_; have GW113 := n3_; have GE113 := n4_; clear n0_ n1_ n2_ n3_ n4_; clear hb hbox hg; have hcz13_0 : w12.cell? ⟨gb113, 0, none⟩ = some (.int .i64 0) := (blk_cell BK113.out 0).trans rfl; have hcz13_1 : w12.cell? ⟨gb113, 1, none⟩ = some (.int .i64 0) := (blk_cell BK113.out 1).trans rfl; have hcz13_2 : w12.cell? ⟨gb113, 2, none⟩ = some (.slice none 0 0) := (blk_cell BK113.out 2).trans rfl; have hfz13_0 := blk_frozen BK113.out 0; have hfz13_1 := blk_frozen BK113.out 1; have hfz13_2 := blk_frozen BK113.out 2) | ((with_reducible refine gate_callee (f := 31) rfl ?_); refine goesL_ (some 24) rfl rfl Try.func31 (by kernel_rfl) rfl #[.agg #[.int .i64 ((rd_T40 l1 x19_1).f0), .int .i64 ((rd_T40 l1 x19_1).f1), .slice A112_2 ((rd_T40 l1 x19_1).f2).length c112_2]] rfl (by (try simp only [List.map_toArray, List.map_cons, List.map_nil]); first | done | rfl | (simp only [List.length_drop, List.length_take]; rfl)) ?_; (with_reducible refine (delta_told.calls ((rd_T40 l1 x19_1).f0) ((rd_T40 l1 x19_1).f1) _ _ ((rd_T40 l1 x19_1).f2) true _ ?side1 ?side2 A9.out).mono ?_); (case side1 => exact Kd.C_below HR112_2.out (by repeat (first | (with_reducible first | exact HB.out | apply b1 | apply b2 | apply b3 | refine below_set ?_ GE113.out) | exact HB.out))); (case side2 => exact HC112_2.out); rintro e w14 ⟨rfl, hb⟩; refine ⟨_, rfl, ?_⟩; have n0_ := Aside0.mk (Kd.R_below (by (with_reducible repeat (first | apply Kd.R_alloc | apply Kd.R_drewN | apply Kd.R_drew)); exact (Kd.R_mono (Kd.R_far (p := ⟨gb113, 2, none⟩) (Kd.R_far (p := ⟨gb113, 1, none⟩) (Kd.R_far (p := ⟨gb113, 0, none⟩) (Kd.R_types HO_7.out BK113.out (by decide)) (fun _ hk => hk.2) (.int .i64 ((rd_T40 l1 x19_1).f0))) (fun _ hk => hk.2) (.int .i64 ((rd_T40 l1 x19_1).f1))) (fun _ hk => hk.2) (.slice A112_2 ((rd_T40 l1 x19_1).f2).length c112_2)) (fun _ h_ => h_.1))) hb); have n1_ := Aside0.mk (blk_below (g := gb113) (o := .cells #[.int .i64 ((rd_T40 l1 x19_1).f0), .int .i64 ((rd_T40 l1 x19_1).f1), .slice A112_2 ((rd_T40 l1 x19_1).f2).length c112_2] 40 (0, 0)) (by (with_reducible repeat (first | refine blk_drewN ?_ _ | refine blk_drew ?_ | refine blk_alloc ?_ _)); refine blk_put (cs := #[.int .i64 ((rd_T40 l1 x19_1).f0), .int .i64 ((rd_T40 l1 x19_1).f1), .slice none 0 0]) ?_ 2 _ rfl; (with_reducible repeat (first | refine blk_drewN ?_ _ | refine blk_drew ?_ | refine blk_alloc ?_ _)); refine blk_put (cs := #[.int .i64 ((rd_T40 l1 x19_1).f0), .int .i64 0, .slice none 0 0]) ?_ 1 _ rfl; (with_reducible repeat (first | refine blk_drewN ?_ _ | refine blk_drew ?_ | refine blk_alloc ?_ _)); refine blk_put (cs := #[.int .i64 0, .int .i64 0, .slice none 0 0]) ?_ 0 _ rfl; (with_reducible repeat (first | refine blk_drewN ?_ _ | refine blk_drew ?_ | refine blk_alloc ?_ _)); exact BK113.out) hb); have n2_ := Aside0.mk (below_step (by repeat (first | (with_reducible first | exact HB.out | apply b1 | apply b2 | apply b3 | refine below_set ?_ GE113.out) | exact HB.out)) hb); clear HO_7; clear BK113; clear HB; have HO_7 := n0_; have BK113 := n1_; have HB := n2_; clear n0_ n1_ n2_; (try clear hb); (try clear hb2); (try clear hk); (try clear hi); have hcz15_0 : w14.cell? ⟨gb113, 0, none⟩ = some (.int .i64 ((rd_T40 l1 x19_1).f0)) := (blk_cell BK113.out 0).trans rfl; have hcz15_1 : w14.cell? ⟨gb113, 1, none⟩ = some (.int .i64 ((rd_T40 l1 x19_1).f1)) := (blk_cell BK113.out 1).trans rfl; have hcz15_2 : w14.cell? ⟨gb113, 2, none⟩ = some (.slice A112_2 ((rd_T40 l1 x19_1).f2).length c112_2) := (blk_cell BK113.out 2).trans rfl; have hfz15_0 := blk_frozen BK113.out 0; have hfz15_1 := blk_frozen BK113.out 1; have hfz15_2 := blk_frozen BK113.out 2) | ((with_reducible refine gate_builtin (b := .append) (xs := #[.tmp 25, .tmp 27]) rfl ?_); at_builtin; refine Kd.R_append_rows (Kd.int .u8) (w0 := w) w.heap.size rfl (.tmp 25) (.tmp 27) 31 5 (.int .u8 0) 1 rfl Try.underlying31 info5 rfl (by decide) (by omega) u7 x7_1 ((rd_T40 l1 x19_1).f2) _ _ _ (fun _ => True) (fun _ => False) rfl rfl ?aO ?aR (fun _ _ h => h) (fun _ h => h.elim) ?aF ?aB ?aS ?aL ?_; (case aR => repeat (first | exact (Kd.C_below HR112_2.out HB.out) | (with_reducible refine Kd.C_alloc ?_ _) | (with_reducible refine Kd.C_drewN ?_ _) | (with_reducible refine Kd.C_drew ?_))); (case aB => exact (by repeat (first | (with_reducible first | exact HB.out | apply b1 | apply b2 | apply b3 | refine below_set ?_ GE113.out) | exact HB.out))); (case aF => exact (fun _ _ => trivial)); (case aO => exact (by (with_reducible repeat (first | apply Kd.R_alloc | apply Kd.R_drewN | apply Kd.R_drew)); exact HO_7.out)); (case aS => exact (below_size (by repeat (first | (with_reducible first | exact HB.out | apply b1 | apply b2 | apply b3 | refine below_set ?_ GE113.out) | exact HB.out)))); (case aL => have := LMc11.out; omega); intro v116 w16 ho hb hg hat; rw [← Ny115.out] at ho; have n0_ := Aside0.mk (blk_grown (g := gb113) (o := .cells #[.int .i64 ((rd_T40 l1 x19_1).f0), .int .i64 ((rd_T40 l1 x19_1).f1), .slice A112_2 ((rd_T40 l1 x19_1).f2).length c112_2] 40 (0, 0)) (by (with_reducible repeat (first | refine blk_drewN ?_ _ | refine blk_drew ?_ | refine blk_alloc ?_ _)); exact BK113.out) hg (Kd.R_ne HO_7.out BK113.out (by decide))); have n1_ := Aside0.mk (hb); have n2_ := Aside0.mk (ho); clear BK113; clear HB; clear HO_7; have BK113 := n0_; have HB := n1_; have HO117 := n2_; clear n0_ n1_ n2_; clear ho hb hg hat))
         go_roundg k1
         case measure => have := HK1.out; omega
         case rel => exact ⟨(y115), (wrap64 (x19_1 + 1)), (by first | rfl | (simp; done) | (simp [*]; done)), H', ⟨by have := HK1.out; omega⟩, ⟨by (with_reducible repeat (first | apply Kd.R_alloc | apply Kd.R_drewN | apply Kd.R_drew)); exact HO117.out⟩, ⟨by repeat (first | (with_reducible first | exact HB.out | apply b1 | apply b2 | apply b3 | refine below_set ?_ GE113.out) | exact HB.out)⟩⟩
        ·rw [if_neg c11] at H
         exact absurd H (by simp)
       ·replace c10 := Bool.eq_false_iff.mpr c10
        subst c10
        have H1 : (if 0 ≤ ((rd_T40 l1 x19_1).f0) then (if ((rd_T40 l1 x19_1).f0) ≤ (wrap64 (((rd_T40 l1 x19_1).f0) + ((rd_T40 l1 x19_1).f1))) then (if (wrap64 (((rd_T40 l1 x19_1).f0) + ((rd_T40 l1 x19_1).f1))) ≤ (l0.length : Int) then (if x7_1.length + ((l0.take ((wrap64 (((rd_T40 l1 x19_1).f0) + ((rd_T40 l1 x19_1).f1))) : Int).toNat).drop (((rd_T40 l1 x19_1).f0) : Int).toNat).length < 140737488355328 then (delta_Apply.l0 k1 l0 (x7_1 ++ ((l0.take ((wrap64 (((rd_T40 l1 x19_1).f0) + ((rd_T40 l1 x19_1).f1))) : Int).toNat).drop (((rd_T40 l1 x19_1).f0) : Int).toNat)) l1 (l1.length : Int) (wrap64 (x19_1 + 1))) else (none)) else (none)) else (none)) else (none)) = some (r1, r2) := by rw [if_neg (show ¬ (false = true) by decide)] at H; exact H
        clear H
        have H := H1
        clear H1
        by_cases c17 : 0 ≤ ((rd_T40 l1 x19_1).f0)
        ·rw [if_pos c17] at H
         have c17b0 := eq_true c17
         have c17b1 : decide (0 ≤ ((rd_T40 l1 x19_1).f0)) = true := decide_eq_true c17
         clear c17
         by_cases c18 : ((rd_T40 l1 x19_1).f0) ≤ (wrap64 (((rd_T40 l1 x19_1).f0) + ((rd_T40 l1 x19_1).f1)))
         ·rw [if_pos c18] at H
          have c18b0 := eq_true c18
          have c18b1 : decide (((rd_T40 l1 x19_1).f0) ≤ (wrap64 (((rd_T40 l1 x19_1).f0) + ((rd_T40 l1 x19_1).f1)))) = true := decide_eq_true c18
          by_cases c19 : (wrap64 (((rd_T40 l1 x19_1).f0) + ((rd_T40 l1 x19_1).f1))) ≤ (l0.length : Int)
          ·rw [if_pos c19] at H
           have c19b0 := eq_true c19
           have c19b1 : decide ((wrap64 (((rd_T40 l1 x19_1).f0) + ((rd_T40 l1 x19_1).f1))) ≤ (l0.length : Int)) = true := decide_eq_true c19
           by_cases c20 : x7_1.length + ((l0.take ((wrap64 (((rd_T40 l1 x19_1).f0) + ((rd_T40 l1 x19_1).f1))) : Int).toNat).drop (((rd_T40 l1 x19_1).f0) : Int).toNat).length < 140737488355328
           ·rw [if_pos c20] at H
            have LMc20 := Aside0.mk c20
            clear c20
            obtain ⟨y119, hy119⟩ : ∃ y_ : List Int, y_ = (x7_1 ++ ((l0.take ((wrap64 (((rd_T40 l1 x19_1).f0) + ((rd_T40 l1 x19_1).f1))) : Int).toNat).drop (((rd_T40 l1 x19_1).f0) : Int).toNat)) := ⟨_, rfl⟩
            replace H : (delta_Apply.l0 k1 l0 y119 l1 (l1.length : Int) (wrap64 (x19_1 + 1))) = some (r1, r2) := by first | (rw [hy119]; with_reducible exact H) | (have H2_ := (Option.bind_some _ _).symm.trans H; rw [hy119]; with_reducible exact H2_) | (have H2_ := (Option.bind_some _ _).symm.trans H; with_reducible exact H2_) | with_reducible exact H | (rw [hy119]; exact H) | exact H
            have Ny119 := Aside0.mk hy119
            clear hy119
            have H' := Aside0.mk H
            clear H
            have p112 : 0 ≤ (x19_1 : Int) := of_decide_eq_true (by assumption)
            have q112 : x19_1 < (l1.length : Int) := of_decide_eq_true (by assumption)
            obtain ⟨ad112, A112_2, c112_2, e112, hx112_0, hx112_1, hx112_2, hl112_2, hi112_2⟩ := at_T40 HR1.out x19_1 p112 q112
            cases e112
            replace hx112_0 := (HB.out.cell (World.block_lt_of_cell? w _ hx112_0)).trans hx112_0
            replace hx112_1 := (HB.out.cell (World.block_lt_of_cell? w _ hx112_1)).trans hx112_1
            replace hx112_2 := (HB.out.cell (World.block_lt_of_cell? w _ hx112_2)).trans hx112_2
            have HR112_2 := Aside0.mk hi112_2
            have HC112_2 := Aside0.mk hl112_2
            clear hi112_2 hl112_2
            replace p112 := eq_true p112
            replace q112 := eq_true q112
            go_wp2_with (first | ((with_reducible refine gate_dst (N := 9) rfl ?_); refine box_event ?hg (N := 9) ?hd (cs := #[.int .i64 0, .int .i64 0, .slice none 0 0]) (t := 40) ?hr ?_; (case hd => rfl); (case hg => rfl); (case hr => first | (go_simp; done) | (go_simp; rfl)); intro gb113 hg w21 hbox hb; have n0_ := Aside0.mk (Kd.R_below (by (with_reducible repeat (first | apply Kd.R_alloc | apply Kd.R_drewN | apply Kd.R_drew)); exact HO_7.out) hb); have n1_ := Aside0.mk (below_step (by repeat (first | exact HB.out | apply b1 | apply b2 | apply b3)) hb); have n2_ := Aside0.mk (hbox); have n3_ := Aside0.mk ((by rw [hg]; exact (below_size (by repeat (first | exact HB.out | apply b1 | apply b2 | apply b3))) : w.heap.size ≤ gb113)); have n4_ := Aside0.mk ((by rw [hg]; exact (below_size (by repeat (first | exact HB.out | apply b1 | apply b2 | apply b3))) : w.heap.size ≤ gb113)); clear HO_7; clear HB; have HO_7 := n0_; have HB := n1_; have BK113 := n2_; have GW113 := n3_; have GE113 := n4_; clear n0_ n1_ n2_ n3_ n4_; clear hb hbox hg; have hcz22_0 : w21.cell? ⟨gb113, 0, none⟩ = some (.int .i64 0) := (blk_cell BK113.out 0).trans rfl; have hcz22_1 : w21.cell? ⟨gb113, 1, none⟩ = some (.int .i64 0) := (blk_cell BK113.out 1).trans rfl; have hcz22_2 : w21.cell? ⟨gb113, 2, none⟩ = some (.slice none 0 0) := (blk_cell BK113.out 2).trans rfl; have hfz22_0 := blk_frozen BK113.out 0; have hfz22_1 := blk_frozen BK113.out 1; have hfz22_2 := blk_frozen BK113.out 2) | ((with_reducible refine gate_callee (f := 31) rfl ?_); refine goesL_ (some 24) rfl rfl Try.func31 (by kernel_rfl) rfl #[.agg #[.int .i64 ((rd_T40 l1 x19_1).f0), .int .i64 ((rd_T40 l1 x19_1).f1), .slice A112_2 ((rd_T40 l1 x19_1).f2).length c112_2]] rfl (by (try simp only [List.map_toArray, List.map_cons, List.map_nil]); first | done | rfl | (simp only [List.length_drop, List.length_take]; rfl)) ?_; (with_reducible refine (delta_told.calls ((rd_T40 l1 x19_1).f0) ((rd_T40 l1 x19_1).f1) _ _ ((rd_T40 l1 x19_1).f2) false _ ?side1 ?side2 A9.out).mono ?_); (case side1 => exact Kd.C_below HR112_2.out (by repeat (first | (with_reducible first | exact HB.out | apply b1 | apply b2 | apply b3 | refine below_set ?_ GE113.out) | exact HB.out))); (case side2 => exact HC112_2.out); rintro e w23 ⟨rfl, hb⟩; refine ⟨_, rfl, ?_⟩; have n0_ := Aside0.mk (Kd.R_below (by (with_reducible repeat (first | apply Kd.R_alloc | apply Kd.R_drewN | apply Kd.R_drew)); exact (Kd.R_mono (Kd.R_far (p := ⟨gb113, 2, none⟩) (Kd.R_far (p := ⟨gb113, 1, none⟩) (Kd.R_far (p := ⟨gb113, 0, none⟩) (Kd.R_types HO_7.out BK113.out (by decide)) (fun _ hk => hk.2) (.int .i64 ((rd_T40 l1 x19_1).f0))) (fun _ hk => hk.2) (.int .i64 ((rd_T40 l1 x19_1).f1))) (fun _ hk => hk.2) (.slice A112_2 ((rd_T40 l1 x19_1).f2).length c112_2)) (fun _ h_ => h_.1))) hb); have n1_ := Aside0.mk (blk_below (g := gb113) (o := .cells #[.int .i64 ((rd_T40 l1 x19_1).f0), .int .i64 ((rd_T40 l1 x19_1).f1), .slice A112_2 ((rd_T40 l1 x19_1).f2).length c112_2] 40 (0, 0)) (by (with_reducible repeat (first | refine blk_drewN ?_ _ | refine blk_drew ?_ | refine blk_alloc ?_ _)); refine blk_put (cs := #[.int .i64 ((rd_T40 l1 x19_1).f0), .int .i64 ((rd_T40 l1 x19_1).f1), .slice none 0 0]) ?_ 2 _ rfl; (with_reducible repeat (first | refine blk_drewN ?_ _ | refine blk_drew ?_ | refine blk_alloc ?_ _)); refine blk_put (cs := #[.int .i64 ((rd_T40 l1 x19_1).f0), .int .i64 0, .slice none 0 0]) ?_ 1 _ rfl; (with_reducible repeat (first | refine blk_drewN ?_ _ | refine blk_drew ?_ | refine blk_alloc ?_ _)); refine blk_put (cs := #[.int .i64 0, .int .i64 0, .slice none 0 0]) ?_ 0 _ rfl; (with_reducible repeat (first | refine blk_drewN ?_ _ | refine blk_drew ?_ | refine blk_alloc ?_ _)); exact BK113.out) hb); have n2_ := Aside0.mk (below_step (by repeat (first | (with_reducible first | exact HB.out | apply b1 | apply b2 | apply b3 | refine below_set ?_ GE113.out) | exact HB.out)) hb); clear HO_7; clear BK113; clear HB; have HO_7 := n0_; have BK113 := n1_; have HB := n2_; clear n0_ n1_ n2_; (try clear hb); (try clear hb2); (try clear hk); (try clear hi); have hcz24_0 : w23.cell? ⟨gb113, 0, none⟩ = some (.int .i64 ((rd_T40 l1 x19_1).f0)) := (blk_cell BK113.out 0).trans rfl; have hcz24_1 : w23.cell? ⟨gb113, 1, none⟩ = some (.int .i64 ((rd_T40 l1 x19_1).f1)) := (blk_cell BK113.out 1).trans rfl; have hcz24_2 : w23.cell? ⟨gb113, 2, none⟩ = some (.slice A112_2 ((rd_T40 l1 x19_1).f2).length c112_2) := (blk_cell BK113.out 2).trans rfl; have hfz24_0 := blk_frozen BK113.out 0; have hfz24_1 := blk_frozen BK113.out 1; have hfz24_2 := blk_frozen BK113.out 2; obtain ⟨i025, hi025, _, hsz25, _⟩ := info_parts info5; obtain ⟨A25, hcut25, hA25, hC25⟩ := print_mid_of (P := Try.prog) (Value.int .u8) 0 31 5 .i64 .i64 Try.underlying31 hi025 hsz25 A0 c0 l0 ((rd_T40 l1 x19_1).f0) (wrap64 (((rd_T40 l1 x19_1).f0) + ((rd_T40 l1 x19_1).f1))) (of_decide_eq_true (by assumption)) (by first | omega | exact of_decide_eq_true (by assumption)) (of_decide_eq_true (by assumption)) HC0.out; have HR118 := Aside0.mk (Kd.C_of_reads (h1 := fun _ => rfl) (hA25 _ (Kd.reads_of_C HR0.out))); have HC118 := Aside0.mk hC25; clear hA25 hC25 hi025 hsz25) | ((with_reducible refine gate_builtin (b := .append) (xs := #[.tmp 29, .tmp 38]) rfl ?_); at_builtin; refine Kd.R_append_rows (Kd.int .u8) (w0 := w) w.heap.size rfl (.tmp 29) (.tmp 38) 31 5 (.int .u8 0) 1 rfl Try.underlying31 info5 rfl (by decide) (by omega) u7 x7_1 ((l0.take ((wrap64 (((rd_T40 l1 x19_1).f0) + ((rd_T40 l1 x19_1).f1))) : Int).toNat).drop (((rd_T40 l1 x19_1).f0) : Int).toNat) _ _ _ (fun _ => True) (fun _ => False) rfl rfl ?aO ?aR (fun _ _ h => h) (fun _ h => h.elim) ?aF ?aB ?aS ?aL ?_; (case aR => first | (rw [← show ((l0.take ((wrap64 (((rd_T40 l1 x19_1).f0) + ((rd_T40 l1 x19_1).f1))) : Int).toNat).drop (((rd_T40 l1 x19_1).f0) : Int).toNat).length = ((wrap64 (((rd_T40 l1 x19_1).f0) + ((rd_T40 l1 x19_1).f1))).toNat - ((rd_T40 l1 x19_1).f0).toNat) from (by rw [List.length_drop, List.length_take]; have h_ : ((wrap64 (((rd_T40 l1 x19_1).f0) + ((rd_T40 l1 x19_1).f1))) : Int) ≤ (l0.length : Int) := of_decide_eq_true (by assumption); omega)]; repeat (first | exact (Kd.C_below HR118.out HB.out) | (with_reducible refine Kd.C_alloc ?_ _) | (with_reducible refine Kd.C_drewN ?_ _) | (with_reducible refine Kd.C_drew ?_))) | (repeat (first | exact (Kd.C_below HR118.out HB.out) | (with_reducible refine Kd.C_alloc ?_ _) | (with_reducible refine Kd.C_drewN ?_ _) | (with_reducible refine Kd.C_drew ?_)))); (case aB => exact (by repeat (first | (with_reducible first | exact HB.out | apply b1 | apply b2 | apply b3 | refine below_set ?_ GE113.out) | exact HB.out))); (case aF => exact (fun _ _ => trivial)); (case aO => exact (by (with_reducible repeat (first | apply Kd.R_alloc | apply Kd.R_drewN | apply Kd.R_drew)); exact HO_7.out)); (case aS => exact (below_size (by repeat (first | (with_reducible first | exact HB.out | apply b1 | apply b2 | apply b3 | refine below_set ?_ GE113.out) | exact HB.out)))); (case aL => have := LMc20.out; have hlx_ := (show ((l0.take ((wrap64 (((rd_T40 l1 x19_1).f0) + ((rd_T40 l1 x19_1).f1))) : Int).toNat).drop (((rd_T40 l1 x19_1).f0) : Int).toNat).length = ((wrap64 (((rd_T40 l1 x19_1).f0) + ((rd_T40 l1 x19_1).f1))).toNat - ((rd_T40 l1 x19_1).f0).toNat) from (by rw [List.length_drop, List.length_take]; have h_ : ((wrap64 (((rd_T40 l1 x19_1).f0) + ((rd_T40 l1 x19_1).f1))) : Int) ≤ (l0.length : Int) := of_decide_eq_true (by assumption); omega)); omega); intro v120 w26 ho hb hg hat; rw [← Ny119.out] at ho; have n0_ := Aside0.mk (blk_grown (g := gb113) (o := .cells #[.int .i64 ((rd_T40 l1 x19_1).f0), .int .i64 ((rd_T40 l1 x19_1).f1), .slice A112_2 ((rd_T40 l1 x19_1).f2).length c112_2] 40 (0, 0)) (by (with_reducible repeat (first | refine blk_drewN ?_ _ | refine blk_drew ?_ | refine blk_alloc ?_ _)); exact BK113.out) hg (Kd.R_ne HO_7.out BK113.out (by decide))); have n1_ := Aside0.mk (hb); have n2_ := Aside0.mk (ho); clear BK113; clear HB; clear HO_7; have BK113 := n0_; have HB := n1_; have HO121 := n2_; clear n0_ n1_ n2_; clear ho hb hg hat))
            go_roundg k1
            case measure => have := HK1.out; omega
            case rel => exact ⟨(y119), (wrap64 (x19_1 + 1)), (by first | rfl | (simp; done) | (simp [*]; done)), H', ⟨by have := HK1.out; omega⟩, ⟨by (with_reducible repeat (first | apply Kd.R_alloc | apply Kd.R_drewN | apply Kd.R_drew)); exact HO121.out⟩, ⟨by repeat (first | (with_reducible first | exact HB.out | apply b1 | apply b2 | apply b3 | refine below_set ?_ GE113.out) | exact HB.out)⟩⟩
           ·rw [if_neg c20] at H
            exact absurd H (by simp)
          ·rw [if_neg c19] at H
           exact absurd H (by simp)
         ·rw [if_neg c18] at H
          exact absurd H (by simp)
        ·rw [if_neg c17] at H
         exact absurd H (by simp)
      ·rw [if_neg c8] at H
       exact absurd H (by simp)
     ·rw [if_neg c7] at H
      exact absurd H (by simp)
    ·rw [if_neg c6] at H
     have c6b0 : decide (x19_1 < (l1.length : Int)) = false := decide_eq_false c6
     clear c6
     simp only [Option.some.injEq, Prod.mk.injEq] at H
     obtain ⟨rfl, rfl⟩ := H
     go_wp2
     go_ret2
     exact ⟨_, by first | rfl | (simp [*] <;> rfl), by (with_reducible repeat (first | apply Kd.R_alloc | apply Kd.R_drewN | apply Kd.R_drew)); exact HO_7.out, by repeat (first | exact HB.out | apply b1 | apply b2 | apply b3)⟩
 ·rw [if_neg c4] at H
  have c4b0 : (t111 == 0) = false := beq_eq_false_iff_ne.mpr c4
  have c4b1 : (t111 != 0) = true := bne_iff_ne.mpr c4
  simp only [Option.some.injEq, Prod.mk.injEq] at H
  obtain ⟨rfl, rfl⟩ := H
  go_enter Try.func18, Try.ntmps18
  go_wp2_with (first | ((with_reducible refine gate_callee (f := 14) rfl ?_); refine goesL_ (some 13) rfl rfl Try.func14 (by kernel_rfl) rfl #[.slice A1 l1.length c1, .int .i64 (l0.length : Int)] rfl (by (try simp only [List.map_toArray, List.map_cons, List.map_nil]); first | done | rfl | (simp only [List.length_drop, List.length_take]; rfl)) ?_; (with_reducible refine (delta_Check.calls k _ _ l1 (l0.length : Int) t111 _ ?side1 ?side2 A3.out).mono ?_); (case side1 => repeat (first | exact HR1.out | (with_reducible refine Kd.C_alloc ?_ _) | (with_reducible refine Kd.C_drewN ?_ _) | (with_reducible refine Kd.C_drew ?_))); (case side2 => exact HC1.out); rintro e w27 ⟨rfl, hb⟩; refine ⟨_, rfl, ?_⟩; have n0_ := Aside0.mk (below_step (by repeat (first | exact HB.out | apply b1 | apply b2 | apply b3)) hb); clear HB; have HB := n0_; clear n0_; (try clear hb); (try clear hb2); (try clear hk); (try clear hi)))
  go_ret2
  exact ⟨_, by first | rfl | (simp [*] <;> rfl), by first | exact Kd.R_nil _ _ _ _ _ | exact Kd.N_nil _ _ _ _ _ | exact Kd.V_nil _ _ _ _ _ | exact Kd.Q_nil _ _ _ _ _ | exact Kd.S_nil _ _ _ _ _, by repeat (first | exact HB.out | apply b1 | apply b2 | apply b3)⟩

/-! ### remoraref08_Same: function 20 -/
def remoraref08_Same.l0 : Nat → List (S40) → List (S40) → Int → Option (Bool)
 | 0, _, _, _ => none
 | k + 1, x0, x1, x5 => if x5 < (x0.length : Int) then (if 0 ≤ x5 then (if x5 < (x1.length : Int) then (if ((rd_T40 x0 x5).f0) = ((rd_T40 x1 x5).f0) then (if ((rd_T40 x0 x5).f1) = ((rd_T40 x1 x5).f1) then (if (strOfNums ((rd_T40 x0 x5).f2)).toList = (strOfNums ((rd_T40 x1 x5).f2)).toList then (remoraref08_Same.l0 k x0 x1 (wrap64 (x5 + 1))) else (some false)) else (some false)) else (some false)) else (none)) else (none)) else (some true)
def remoraref08_Same.f (k : Nat) (l0 : List (S40)) (l1 : List (S40)) : Option (Bool) := if (l0.length : Int) = (l1.length : Int) then (remoraref08_Same.l0 k l0 l1 0) else (some false)
theorem remoraref08_Same.mono_l : ∀ k, (∀ y0 y1 y2, LeO (remoraref08_Same.l0 k y0 y1 y2) (remoraref08_Same.l0 (k + 1) y0 y1 y2))
 | 0 => fun _ _ _ r h => by simp [remoraref08_Same.l0] at h
 | k + 1 => by
  have ih0 := remoraref08_Same.mono_l k
  ·intro y0 y1 y2
   unfold remoraref08_Same.l0
   repeat' first
   | (with_reducible exact ih0 _ _ _)
   | (with_reducible exact LeO.refl _)
   | (with_reducible exact LeO.none _)
   | (with_reducible refine LeO.ite ?_ ?_)
   | (with_reducible refine LeO.bind ?_ (fun _ => ?_))
   | exact ih0 _ _ _
   | exact LeO.none _
   | refine LeO.ite ?_ ?_
   | refine LeO.bind ?_ (fun _ => ?_)
theorem remoraref08_Same.mono : ∀ a0 a1 k, LeO (remoraref08_Same.f k a0 a1) (remoraref08_Same.f (k + 1) a0 a1) := by
 intro a0 a1 k
 have ih0 := remoraref08_Same.mono_l k
 unfold remoraref08_Same.f
 repeat' first
   | (with_reducible exact ih0 _ _ _)
   | (with_reducible exact LeO.refl _)
   | (with_reducible exact LeO.none _)
   | (with_reducible refine LeO.ite ?_ ?_)
   | (with_reducible refine LeO.bind ?_ (fun _ => ?_))
   | exact ih0 _ _ _
   | exact LeO.none _
   | refine LeO.ite ?_ ?_
   | refine LeO.bind ?_ (fun _ => ?_)
set_option maxHeartbeats 8000000 in
set_option maxRecDepth 100000 in
theorem remoraref08_Same.calls (k : Nat) (A0 : Option Addr) (c0 : Nat) (l0 : List (S40)) (A1 : Option Addr) (c1 : Nat) (l1 : List (S40)) (r : Bool) (w : World) (hr0 : Kd.C k40 w A0 l0.length l0) (hc0 : l0.length ≤ c0) (hr1 : Kd.C k40 w A1 l1.length l1) (hc1 : l1.length ≤ c1) (h : remoraref08_Same.f k l0 l1 = some r) :
  Calls Try.prog 20 #[.slice A0 l0.length c0, .slice A1 l1.length c1] w fun e w' => e = .returned (.bool r) ∧ Drawn0 w w' := by
 have HR0 := Aside0.mk hr0
 have HC0 := Aside0.mk hc0
 clear hr0 hc0
 have HR1 := Aside0.mk hr1
 have HC1 := Aside0.mk hc1
 clear hr1 hc1
 have H : (if (l0.length : Int) = (l1.length : Int) then (remoraref08_Same.l0 k l0 l1 0) else (some false)) = some r := h
 clear h
 by_cases c3 : (l0.length : Int) = (l1.length : Int)
 ·rw [if_pos c3] at H
  have c3b0 : ((l0.length : Int) == (l1.length : Int)) = true := beq_iff_eq.mpr c3
  have c3b1 : ((l0.length : Int) != (l1.length : Int)) = false := bne_eq_false_iff_eq.mpr c3
  have c3b2 : (l0.length == l1.length) = true := by first | simpa using c3 | (simp at c3 ⊢; omega)
  clear c3
  have H' := Aside0.mk H
  clear H
  go_enter Try.func20, Try.ntmps20
  go_wp2
  have hwi_ : ∀ n : Int, IntKind.i64.wrap n = wrap64 n := i64_w
  repeat (go_quiet (fail); try go_wp2)
  clear hwi_
  go_loopg [5] k (fun kq v5 w' => ∃ (x5_1 : Int), v5 = .int .i64 x5_1 ∧ Aside0 (remoraref08_Same.l0 kq l0 l1 x5_1 = some r) ∧ Aside0 (kq ≤ k) ∧ Drawn0 w w')
  case atStart => exact ⟨(0), (by first | rfl | (simp; done) | (simp [*]; done)), H', ⟨Nat.le_refl _⟩, by repeat (first | exact Drawn0.refl _ | apply Drawn0.step)⟩
  case round =>
   clear H'
   try clear c1
   try clear c2
   try clear p2
   try clear c3
   try clear c3b0
   try clear c3b1
   try clear c3b2
   obtain ⟨x5_1, rfl, HA, HK1, ⟨m1, rfl⟩⟩ := hrel
   cases gk with
   | zero => exact absurd HA.out (by simp [remoraref08_Same.l0])
   | succ k1 =>
    have H := HA.out
    clear HA
    simp only [remoraref08_Same.l0] at H
    by_cases c4 : x5_1 < (l0.length : Int)
    ·rw [if_pos c4] at H
     have c4b0 : decide (x5_1 < (l0.length : Int)) = true := decide_eq_true c4
     clear c4
     by_cases c5 : 0 ≤ x5_1
     ·rw [if_pos c5] at H
      have c5b0 : decide (0 ≤ x5_1) = true := decide_eq_true c5
      clear c5
      by_cases c6 : x5_1 < (l1.length : Int)
      ·rw [if_pos c6] at H
       have c6b0 : decide (x5_1 < (l1.length : Int)) = true := decide_eq_true c6
       clear c6
       by_cases c7 : ((rd_T40 l0 x5_1).f0) = ((rd_T40 l1 x5_1).f0)
       ·rw [if_pos c7] at H
        have c7b0 : (((rd_T40 l0 x5_1).f0) == ((rd_T40 l1 x5_1).f0)) = true := beq_iff_eq.mpr c7
        have c7b1 : (((rd_T40 l0 x5_1).f0) != ((rd_T40 l1 x5_1).f0)) = false := bne_eq_false_iff_eq.mpr c7
        clear c7
        by_cases c8 : ((rd_T40 l0 x5_1).f1) = ((rd_T40 l1 x5_1).f1)
        ·rw [if_pos c8] at H
         have c8b0 : (((rd_T40 l0 x5_1).f1) == ((rd_T40 l1 x5_1).f1)) = true := beq_iff_eq.mpr c8
         have c8b1 : (((rd_T40 l0 x5_1).f1) != ((rd_T40 l1 x5_1).f1)) = false := bne_eq_false_iff_eq.mpr c8
         clear c8
         by_cases c9 : (strOfNums ((rd_T40 l0 x5_1).f2)).toList = (strOfNums ((rd_T40 l1 x5_1).f2)).toList
         ·rw [if_pos c9] at H
          have c9b0 : ((strOfNums ((rd_T40 l0 x5_1).f2)).toList == (strOfNums ((rd_T40 l1 x5_1).f2)).toList) = true := beq_iff_eq.mpr c9
          have c9b1 : ((strOfNums ((rd_T40 l0 x5_1).f2)).toList != (strOfNums ((rd_T40 l1 x5_1).f2)).toList) = false := bne_eq_false_iff_eq.mpr c9
          clear c9
          have H' := Aside0.mk H
          clear H
          have p122 : 0 ≤ (x5_1 : Int) := of_decide_eq_true (by assumption)
          have q122 : x5_1 < (l0.length : Int) := of_decide_eq_true (by assumption)
          obtain ⟨ad122, A122_2, c122_2, e122, hx122_0, hx122_1, hx122_2, hl122_2, hi122_2⟩ := at_T40 HR0.out x5_1 p122 q122
          cases e122
          have HR122_2 := Aside0.mk hi122_2
          have HC122_2 := Aside0.mk hl122_2
          clear hi122_2 hl122_2
          replace p122 := eq_true p122
          replace q122 := eq_true q122
          have p123 : 0 ≤ (x5_1 : Int) := of_decide_eq_true (by assumption)
          have q123 : x5_1 < (l1.length : Int) := of_decide_eq_true (by assumption)
          obtain ⟨ad123, A123_2, c123_2, e123, hx123_0, hx123_1, hx123_2, hl123_2, hi123_2⟩ := at_T40 HR1.out x5_1 p123 q123
          cases e123
          have HR123_2 := Aside0.mk hi123_2
          have HC123_2 := Aside0.mk hl123_2
          clear hi123_2 hl123_2
          replace p123 := eq_true p123
          replace q123 := eq_true q123
          have p124 : 0 ≤ (x5_1 : Int) := of_decide_eq_true (by assumption)
          have q124 : x5_1 < (l0.length : Int) := of_decide_eq_true (by assumption)
          obtain ⟨ad124, A124_2, c124_2, e124, hx124_0, hx124_1, hx124_2, hl124_2, hi124_2⟩ := at_T40 HR0.out x5_1 p124 q124
          obtain rfl : ad122 = ad124 := (by injection e124)
          have HR124_2 := Aside0.mk hi124_2
          have HC124_2 := Aside0.mk hl124_2
          clear hi124_2 hl124_2
          replace p124 := eq_true p124
          replace q124 := eq_true q124
          have ea_ := Option.some.inj (hx122_2.symm.trans hx124_2)
          injection ea_ with ea_ en_ ec_
          subst ea_
          subst ec_
          clear en_
          have p125 : 0 ≤ (x5_1 : Int) := of_decide_eq_true (by assumption)
          have q125 : x5_1 < (l1.length : Int) := of_decide_eq_true (by assumption)
          obtain ⟨ad125, A125_2, c125_2, e125, hx125_0, hx125_1, hx125_2, hl125_2, hi125_2⟩ := at_T40 HR1.out x5_1 p125 q125
          obtain rfl : ad123 = ad125 := (by injection e125)
          have HR125_2 := Aside0.mk hi125_2
          have HC125_2 := Aside0.mk hl125_2
          clear hi125_2 hl125_2
          replace p125 := eq_true p125
          replace q125 := eq_true q125
          have ea_ := Option.some.inj (hx123_2.symm.trans hx125_2)
          injection ea_ with ea_ en_ ec_
          subst ea_
          subst ec_
          clear en_
          have p126 : 0 ≤ (x5_1 : Int) := of_decide_eq_true (by assumption)
          have q126 : x5_1 < (l0.length : Int) := of_decide_eq_true (by assumption)
          obtain ⟨ad126, A126_2, c126_2, e126, hx126_0, hx126_1, hx126_2, hl126_2, hi126_2⟩ := at_T40 HR0.out x5_1 p126 q126
          obtain rfl : ad122 = ad126 := (by injection e126)
          have HR126_2 := Aside0.mk hi126_2
          have HC126_2 := Aside0.mk hl126_2
          clear hi126_2 hl126_2
          replace p126 := eq_true p126
          replace q126 := eq_true q126
          have ea_ := Option.some.inj (hx122_2.symm.trans hx126_2)
          injection ea_ with ea_ en_ ec_
          subst ea_
          subst ec_
          clear en_
          have hcv10 := Kd.C_string (P := Try.prog) (A := A122_2) (c := c122_2) Try.underlying31 Try.underlying5 Try.underlying9 HR126_2.out
          have hcv10d := fun (n_ : Nat) => Kd.C_string (P := Try.prog) (A := A122_2) (c := c122_2) Try.underlying31 Try.underlying5 Try.underlying9 (Kd.C_drewN HR126_2.out n_)
          have p127 : 0 ≤ (x5_1 : Int) := of_decide_eq_true (by assumption)
          have q127 : x5_1 < (l1.length : Int) := of_decide_eq_true (by assumption)
          obtain ⟨ad127, A127_2, c127_2, e127, hx127_0, hx127_1, hx127_2, hl127_2, hi127_2⟩ := at_T40 HR1.out x5_1 p127 q127
          obtain rfl : ad123 = ad127 := (by injection e127)
          have HR127_2 := Aside0.mk hi127_2
          have HC127_2 := Aside0.mk hl127_2
          clear hi127_2 hl127_2
          replace p127 := eq_true p127
          replace q127 := eq_true q127
          have ea_ := Option.some.inj (hx123_2.symm.trans hx127_2)
          injection ea_ with ea_ en_ ec_
          subst ea_
          subst ec_
          clear en_
          have hcv11 := Kd.C_string (P := Try.prog) (A := A123_2) (c := c123_2) Try.underlying31 Try.underlying5 Try.underlying9 HR127_2.out
          have hcv11d := fun (n_ : Nat) => Kd.C_string (P := Try.prog) (A := A123_2) (c := c123_2) Try.underlying31 Try.underlying5 Try.underlying9 (Kd.C_drewN HR127_2.out n_)
          go_wp2
          have hwi_ : ∀ n : Int, IntKind.i64.wrap n = wrap64 n := i64_w
          repeat (go_quiet (fail); try go_wp2)
          clear hwi_
          go_roundg k1
          case measure => have := HK1.out; omega
          case rel => exact ⟨(wrap64 (x5_1 + 1)), (by first | rfl | (simp; done) | (simp [*]; done)), H', ⟨by have := HK1.out; omega⟩, by repeat (first | exact Drawn0.refl _ | apply Drawn0.step)⟩
         ·rw [if_neg c9] at H
          have c9b0 : ((strOfNums ((rd_T40 l0 x5_1).f2)).toList == (strOfNums ((rd_T40 l1 x5_1).f2)).toList) = false := beq_eq_false_iff_ne.mpr c9
          have c9b1 : ((strOfNums ((rd_T40 l0 x5_1).f2)).toList != (strOfNums ((rd_T40 l1 x5_1).f2)).toList) = true := bne_iff_ne.mpr c9
          obtain rfl := Option.some.inj H
          have p122 : 0 ≤ (x5_1 : Int) := of_decide_eq_true (by assumption)
          have q122 : x5_1 < (l0.length : Int) := of_decide_eq_true (by assumption)
          obtain ⟨ad122, A122_2, c122_2, e122, hx122_0, hx122_1, hx122_2, hl122_2, hi122_2⟩ := at_T40 HR0.out x5_1 p122 q122
          cases e122
          have HR122_2 := Aside0.mk hi122_2
          have HC122_2 := Aside0.mk hl122_2
          clear hi122_2 hl122_2
          replace p122 := eq_true p122
          replace q122 := eq_true q122
          have p123 : 0 ≤ (x5_1 : Int) := of_decide_eq_true (by assumption)
          have q123 : x5_1 < (l1.length : Int) := of_decide_eq_true (by assumption)
          obtain ⟨ad123, A123_2, c123_2, e123, hx123_0, hx123_1, hx123_2, hl123_2, hi123_2⟩ := at_T40 HR1.out x5_1 p123 q123
          cases e123
          have HR123_2 := Aside0.mk hi123_2
          have HC123_2 := Aside0.mk hl123_2
          clear hi123_2 hl123_2
          replace p123 := eq_true p123
          replace q123 := eq_true q123
          have p124 : 0 ≤ (x5_1 : Int) := of_decide_eq_true (by assumption)
          have q124 : x5_1 < (l0.length : Int) := of_decide_eq_true (by assumption)
          obtain ⟨ad124, A124_2, c124_2, e124, hx124_0, hx124_1, hx124_2, hl124_2, hi124_2⟩ := at_T40 HR0.out x5_1 p124 q124
          obtain rfl : ad122 = ad124 := (by injection e124)
          have HR124_2 := Aside0.mk hi124_2
          have HC124_2 := Aside0.mk hl124_2
          clear hi124_2 hl124_2
          replace p124 := eq_true p124
          replace q124 := eq_true q124
          have ea_ := Option.some.inj (hx122_2.symm.trans hx124_2)
          injection ea_ with ea_ en_ ec_
          subst ea_
          subst ec_
          clear en_
          have p125 : 0 ≤ (x5_1 : Int) := of_decide_eq_true (by assumption)
          have q125 : x5_1 < (l1.length : Int) := of_decide_eq_true (by assumption)
          obtain ⟨ad125, A125_2, c125_2, e125, hx125_0, hx125_1, hx125_2, hl125_2, hi125_2⟩ := at_T40 HR1.out x5_1 p125 q125
          obtain rfl : ad123 = ad125 := (by injection e125)
          have HR125_2 := Aside0.mk hi125_2
          have HC125_2 := Aside0.mk hl125_2
          clear hi125_2 hl125_2
          replace p125 := eq_true p125
          replace q125 := eq_true q125
          have ea_ := Option.some.inj (hx123_2.symm.trans hx125_2)
          injection ea_ with ea_ en_ ec_
          subst ea_
          subst ec_
          clear en_
          have p126 : 0 ≤ (x5_1 : Int) := of_decide_eq_true (by assumption)
          have q126 : x5_1 < (l0.length : Int) := of_decide_eq_true (by assumption)
          obtain ⟨ad126, A126_2, c126_2, e126, hx126_0, hx126_1, hx126_2, hl126_2, hi126_2⟩ := at_T40 HR0.out x5_1 p126 q126
          obtain rfl : ad122 = ad126 := (by injection e126)
          have HR126_2 := Aside0.mk hi126_2
          have HC126_2 := Aside0.mk hl126_2
          clear hi126_2 hl126_2
          replace p126 := eq_true p126
          replace q126 := eq_true q126
          have ea_ := Option.some.inj (hx122_2.symm.trans hx126_2)
          injection ea_ with ea_ en_ ec_
          subst ea_
          subst ec_
          clear en_
          have hcv12 := Kd.C_string (P := Try.prog) (A := A122_2) (c := c122_2) Try.underlying31 Try.underlying5 Try.underlying9 HR126_2.out
          have hcv12d := fun (n_ : Nat) => Kd.C_string (P := Try.prog) (A := A122_2) (c := c122_2) Try.underlying31 Try.underlying5 Try.underlying9 (Kd.C_drewN HR126_2.out n_)
          have p127 : 0 ≤ (x5_1 : Int) := of_decide_eq_true (by assumption)
          have q127 : x5_1 < (l1.length : Int) := of_decide_eq_true (by assumption)
          obtain ⟨ad127, A127_2, c127_2, e127, hx127_0, hx127_1, hx127_2, hl127_2, hi127_2⟩ := at_T40 HR1.out x5_1 p127 q127
          obtain rfl : ad123 = ad127 := (by injection e127)
          have HR127_2 := Aside0.mk hi127_2
          have HC127_2 := Aside0.mk hl127_2
          clear hi127_2 hl127_2
          replace p127 := eq_true p127
          replace q127 := eq_true q127
          have ea_ := Option.some.inj (hx123_2.symm.trans hx127_2)
          injection ea_ with ea_ en_ ec_
          subst ea_
          subst ec_
          clear en_
          have hcv13 := Kd.C_string (P := Try.prog) (A := A123_2) (c := c123_2) Try.underlying31 Try.underlying5 Try.underlying9 HR127_2.out
          have hcv13d := fun (n_ : Nat) => Kd.C_string (P := Try.prog) (A := A123_2) (c := c123_2) Try.underlying31 Try.underlying5 Try.underlying9 (Kd.C_drewN HR127_2.out n_)
          go_wp2
          have hwi_ : ∀ n : Int, IntKind.i64.wrap n = wrap64 n := i64_w
          repeat (go_quiet (fail); try go_wp2)
          clear hwi_
          go_ret
          exact ⟨by first | rfl | (simp; done) | (simp [*]; done), by repeat (first | exact Drawn0.refl _ | apply Drawn0.step)⟩
        ·rw [if_neg c8] at H
         have c8b0 : (((rd_T40 l0 x5_1).f1) == ((rd_T40 l1 x5_1).f1)) = false := beq_eq_false_iff_ne.mpr c8
         have c8b1 : (((rd_T40 l0 x5_1).f1) != ((rd_T40 l1 x5_1).f1)) = true := bne_iff_ne.mpr c8
         obtain rfl := Option.some.inj H
         have p122 : 0 ≤ (x5_1 : Int) := of_decide_eq_true (by assumption)
         have q122 : x5_1 < (l0.length : Int) := of_decide_eq_true (by assumption)
         obtain ⟨ad122, A122_2, c122_2, e122, hx122_0, hx122_1, hx122_2, hl122_2, hi122_2⟩ := at_T40 HR0.out x5_1 p122 q122
         cases e122
         have HR122_2 := Aside0.mk hi122_2
         have HC122_2 := Aside0.mk hl122_2
         clear hi122_2 hl122_2
         replace p122 := eq_true p122
         replace q122 := eq_true q122
         have p123 : 0 ≤ (x5_1 : Int) := of_decide_eq_true (by assumption)
         have q123 : x5_1 < (l1.length : Int) := of_decide_eq_true (by assumption)
         obtain ⟨ad123, A123_2, c123_2, e123, hx123_0, hx123_1, hx123_2, hl123_2, hi123_2⟩ := at_T40 HR1.out x5_1 p123 q123
         cases e123
         have HR123_2 := Aside0.mk hi123_2
         have HC123_2 := Aside0.mk hl123_2
         clear hi123_2 hl123_2
         replace p123 := eq_true p123
         replace q123 := eq_true q123
         have p124 : 0 ≤ (x5_1 : Int) := of_decide_eq_true (by assumption)
         have q124 : x5_1 < (l0.length : Int) := of_decide_eq_true (by assumption)
         obtain ⟨ad124, A124_2, c124_2, e124, hx124_0, hx124_1, hx124_2, hl124_2, hi124_2⟩ := at_T40 HR0.out x5_1 p124 q124
         obtain rfl : ad122 = ad124 := (by injection e124)
         have HR124_2 := Aside0.mk hi124_2
         have HC124_2 := Aside0.mk hl124_2
         clear hi124_2 hl124_2
         replace p124 := eq_true p124
         replace q124 := eq_true q124
         have ea_ := Option.some.inj (hx122_2.symm.trans hx124_2)
         injection ea_ with ea_ en_ ec_
         subst ea_
         subst ec_
         clear en_
         have p125 : 0 ≤ (x5_1 : Int) := of_decide_eq_true (by assumption)
         have q125 : x5_1 < (l1.length : Int) := of_decide_eq_true (by assumption)
         obtain ⟨ad125, A125_2, c125_2, e125, hx125_0, hx125_1, hx125_2, hl125_2, hi125_2⟩ := at_T40 HR1.out x5_1 p125 q125
         obtain rfl : ad123 = ad125 := (by injection e125)
         have HR125_2 := Aside0.mk hi125_2
         have HC125_2 := Aside0.mk hl125_2
         clear hi125_2 hl125_2
         replace p125 := eq_true p125
         replace q125 := eq_true q125
         have ea_ := Option.some.inj (hx123_2.symm.trans hx125_2)
         injection ea_ with ea_ en_ ec_
         subst ea_
         subst ec_
         clear en_
         go_wp2
         have hwi_ : ∀ n : Int, IntKind.i64.wrap n = wrap64 n := i64_w
         repeat (go_quiet (fail); try go_wp2)
         clear hwi_
         go_ret
         exact ⟨by first | rfl | (simp; done) | (simp [*]; done), by repeat (first | exact Drawn0.refl _ | apply Drawn0.step)⟩
       ·rw [if_neg c7] at H
        have c7b0 : (((rd_T40 l0 x5_1).f0) == ((rd_T40 l1 x5_1).f0)) = false := beq_eq_false_iff_ne.mpr c7
        have c7b1 : (((rd_T40 l0 x5_1).f0) != ((rd_T40 l1 x5_1).f0)) = true := bne_iff_ne.mpr c7
        obtain rfl := Option.some.inj H
        have p122 : 0 ≤ (x5_1 : Int) := of_decide_eq_true (by assumption)
        have q122 : x5_1 < (l0.length : Int) := of_decide_eq_true (by assumption)
        obtain ⟨ad122, A122_2, c122_2, e122, hx122_0, hx122_1, hx122_2, hl122_2, hi122_2⟩ := at_T40 HR0.out x5_1 p122 q122
        cases e122
        have HR122_2 := Aside0.mk hi122_2
        have HC122_2 := Aside0.mk hl122_2
        clear hi122_2 hl122_2
        replace p122 := eq_true p122
        replace q122 := eq_true q122
        have p123 : 0 ≤ (x5_1 : Int) := of_decide_eq_true (by assumption)
        have q123 : x5_1 < (l1.length : Int) := of_decide_eq_true (by assumption)
        obtain ⟨ad123, A123_2, c123_2, e123, hx123_0, hx123_1, hx123_2, hl123_2, hi123_2⟩ := at_T40 HR1.out x5_1 p123 q123
        cases e123
        have HR123_2 := Aside0.mk hi123_2
        have HC123_2 := Aside0.mk hl123_2
        clear hi123_2 hl123_2
        replace p123 := eq_true p123
        replace q123 := eq_true q123
        go_wp2
        have hwi_ : ∀ n : Int, IntKind.i64.wrap n = wrap64 n := i64_w
        repeat (go_quiet (fail); try go_wp2)
        clear hwi_
        go_ret
        exact ⟨by first | rfl | (simp; done) | (simp [*]; done), by repeat (first | exact Drawn0.refl _ | apply Drawn0.step)⟩
      ·rw [if_neg c6] at H
       exact absurd H (by simp)
     ·rw [if_neg c5] at H
      exact absurd H (by simp)
    ·rw [if_neg c4] at H
     have c4b0 : decide (x5_1 < (l0.length : Int)) = false := decide_eq_false c4
     clear c4
     obtain rfl := Option.some.inj H
     go_wp2
     have hwi_ : ∀ n : Int, IntKind.i64.wrap n = wrap64 n := i64_w
     repeat (go_quiet (fail); try go_wp2)
     clear hwi_
     go_ret
     exact ⟨by first | rfl | (simp; done) | (simp [*]; done), by repeat (first | exact Drawn0.refl _ | apply Drawn0.step)⟩
 ·rw [if_neg c3] at H
  have c3b0 : ((l0.length : Int) == (l1.length : Int)) = false := beq_eq_false_iff_ne.mpr c3
  have c3b1 : ((l0.length : Int) != (l1.length : Int)) = true := bne_iff_ne.mpr c3
  have c3b2 : (l0.length == l1.length) = false := by first | simpa using c3 | (simp at c3 ⊢; omega)
  obtain rfl := Option.some.inj H
  go_enter Try.func20, Try.ntmps20
  go_wp2
  have hwi_ : ∀ n : Int, IntKind.i64.wrap n = wrap64 n := i64_w
  repeat (go_quiet (fail); try go_wp2)
  clear hwi_
  go_ret
  exact ⟨by first | rfl | (simp; done) | (simp [*]; done), by repeat (first | exact Drawn0.refl _ | apply Drawn0.step)⟩

-- NOT PRINTED: function 36 (delta_joiner)

/-! ### delta_Norm: function 21 -/
def toT (x : S40) : Jn.T3 := (x.f0, x.f1, x.f2)
def ofT (t : Jn.T3) : S40 := ⟨t.1, t.2.1, t.2.2⟩
theorem map_to_of (l : List Jn.T3) : (l.map ofT).map toT = l := by
 rw [List.map_map]
 exact List.map_id l
def delta_Norm.f (l0 : List (S40)) : Option (List (S40)) := if l0.length ≤ 1000000 ∧ Jn.wt (l0.map toT) ≤ 1000000000 then some (((l0.map toT).foldl Jn.addL []).map ofT) else none
theorem delta_Norm.calls (A0 : Option Addr) (c0 : Nat) (l0 : List (S40)) (r : List (S40)) (w : World) (hr0 : Kd.C k40 w A0 l0.length l0) (hc0 : l0.length ≤ c0) (h : delta_Norm.f l0 = some r) :
  Calls Try.prog 21 #[.slice A0 l0.length c0] w fun e w' => ∃ v0_ : Value, e = .returned v0_ ∧ Kd.N k40 40 w' w.heap.size (fun k_ => (w.heap.size ≤ k_)) v0_ r ∧ Below w.heap.size w w' := by
 unfold delta_Norm.f at h
 by_cases h0 : l0.length ≤ 1000000 ∧ Jn.wt (l0.map toT) ≤ 1000000000
 ·rw [if_pos h0] at h
  obtain rfl := Option.some.inj h
  have hC : Jn.kP.C w A0 (l0.map toT).length (l0.map toT) := by
   rw [List.length_map]
   exact Jn.iso_C hr0
  have hl : (l0.map toT).length = l0.length := List.length_map toT
  have := Jn.Norm_calls A0 c0 (l0.map toT) w hC (by omega) (by omega) h0.2
  rw [hl] at this
  refine this.mono fun e w' ⟨v, h1, h2, h3⟩ => ⟨v, h1, Jn.iso_N (f := toT) ?_, h3⟩
  rw [map_to_of]
  exact Jn.N_of_S h2
 ·rw [if_neg h0] at h
  cases h

/-! ### remoralaw08_awake: function 11 -/
def remoralaw08_awake.f : Option Bool := some true
set_option maxHeartbeats 8000000 in
set_option maxRecDepth 100000 in
theorem remoralaw08_awake.calls (r : Bool) (w : World) (h : remoralaw08_awake.f = some r) :
  Calls Try.prog 11 #[] w fun e w' => e = .returned (.bool r) ∧ Below w.heap.size w w' := by
 obtain rfl := Option.some.inj h
 clear h
 have HA := Aside0.mk (show delta_Apply.f 20 [97, 98, 99, 100, 101, 102] [⟨1, 2, []⟩, ⟨0, 0, [120]⟩, ⟨3, 3, []⟩] = some ([98, 99, 120, 100, 101, 102], 0) from by decide +kernel)
 have HN := Aside0.mk (show delta_Norm.f [⟨1, 2, []⟩, ⟨3, 1, []⟩] = some [⟨1, 3, []⟩] from by kernel_rfl)
 have HS := Aside0.mk (show remoraref08_Same.f 20 [⟨1, 3, []⟩] [⟨1, 3, []⟩] = some true from by decide +kernel)
 have kc := fun (w : World) (C : Array Value) (n c : Nat) => Lib.run_convert_bytes_const (P := Try.prog) w 31 5 C n c Try.underlying31 Try.underlying5
 have kc2 : ∀ (o : Obj) (C : Array Value) (n c : Nat), (convert 31 31 (.slice (some ⟨w.heap.size + 1, 0, none⟩) n c)).run Try.prog ((w.alloc o).alloc (.cells C 5)) = .ok (.slice (some ⟨w.heap.size + 1, 0, none⟩) n c) ((w.alloc o).alloc (.cells C 5 (C.size, C.size + 1))) := fun o C n c => by
  have := kc (w.alloc o) C n c
  rwa [show (w.alloc o).heap.size = w.heap.size + 1 from Array.size_push _] at this
 have kc1 := kc w
 clear kc
 go_enter Try.func11, Try.ntmps11
 go_wp2_with fail
 clear kc1 kc2
 have s1 : (w.alloc (.cells #[.int .u8 97, .int .u8 98, .int .u8 99, .int .u8 100, .int .u8 101, .int .u8 102] 5 (6, 7))).heap.size = w.heap.size + 1 := Array.size_push _
 have s2 : ((w.alloc (.cells #[.int .u8 97, .int .u8 98, .int .u8 99, .int .u8 100, .int .u8 101, .int .u8 102] 5 (6, 7))).alloc (.cells #[.int .u8 120] 5 (1, 2))).heap.size = w.heap.size + 2 := (Array.size_push _).trans (congrArg (· + 1) s1)
 have c1 := Jn.C_alloc_lit w .u8 5 (6, 7) [97, 98, 99, 100, 101, 102] #[.int .u8 97, .int .u8 98, .int .u8 99, .int .u8 100, .int .u8 101, .int .u8 102] rfl (by decide)
 have b1 := below_alloc (Below.refl w.heap.size w) (.cells #[.int .u8 97, .int .u8 98, .int .u8 99, .int .u8 100, .int .u8 101, .int .u8 102] 5 (6, 7))
 generalize hw1 : w.alloc (.cells #[.int .u8 97, .int .u8 98, .int .u8 99, .int .u8 100, .int .u8 101, .int .u8 102] 5 (6, 7)) = w1 at *
 have c2 := Jn.C_alloc_lit w1 .u8 5 (1, 2) [120] #[.int .u8 120] rfl (by decide)
 have b2 := below_alloc (Below.refl w1.heap.size w1) (.cells #[.int .u8 120] 5 (1, 2))
 generalize hw2 : w1.alloc (.cells #[.int .u8 120] 5 (1, 2)) = w2 at *
 have b3 := fun o : Obj => below_alloc (Below.refl w2.heap.size w2) o
 have HB := Aside0.mk (below_step (below_step b1 b2) (b3 (.cells #[.int .i64 1, .int .i64 2, .slice none 0 0, .int .i64 0, .int .i64 0, .slice (some ⟨w.heap.size + 1, 0, none⟩) 1 1, .int .i64 3, .int .i64 3, .slice none 0 0] 40)))
 have c3 : Kd.C k40 (w2.alloc (.cells #[.int .i64 1, .int .i64 2, .slice none 0 0, .int .i64 0, .int .i64 0, .slice (some ⟨w.heap.size + 1, 0, none⟩) 1 1, .int .i64 3, .int .i64 3, .slice none 0 0] 40)) (some ⟨w2.heap.size, 0, none⟩) 3 [⟨1, 2, []⟩, ⟨0, 0, [120]⟩, ⟨3, 3, []⟩] := by
  refine Jn.C_of_iso (f := toT) (Jn.kP_alloc_lit w2 _ _ [(1, 2, []), (0, 0, [120]), (3, 3, [])] _ (by decide) (fun j p hj => ?_))
  match j, hj with
  | 0, hj => obtain rfl := Option.some.inj hj; exact ⟨_, _, rfl, rfl, rfl, Nat.zero_le _, Jn.C_zero _ _ _⟩
  | 1, hj =>
   obtain rfl := Option.some.inj hj
   refine ⟨_, _, rfl, rfl, rfl, Nat.le_refl _, ?_⟩
   rw [← s1]
   exact Kd.C_below c2 (b3 _)
  | 2, hj => obtain rfl := Option.some.inj hj; exact ⟨_, _, rfl, rfl, rfl, Nat.zero_le _, Jn.C_zero _ _ _⟩
 rw [← s2]
 have c1' := Kd.C_below (Kd.C_below c1 b2) (b3 (.cells #[.int .i64 1, .int .i64 2, .slice none 0 0, .int .i64 0, .int .i64 0, .slice (some ⟨w.heap.size + 1, 0, none⟩) 1 1, .int .i64 3, .int .i64 3, .slice none 0 0] 40))
 clear c1 c2 b1 b2 b3
 refine (delta_Apply.calls 20 _ 6 [97, 98, 99, 100, 101, 102] _ 3 [⟨1, 2, []⟩, ⟨0, 0, [120]⟩, ⟨3, 3, []⟩] [98, 99, 120, 100, 101, 102] 0 _ c1' (by decide) c3 (by decide) HA.out).mono ?_
 rintro e w3 ⟨v0, rfl, hR, hb⟩
 obtain ⟨A0, c0, rfl, hl0, hr0⟩ := Kd.R_reads hR
 replace HB := Aside0.mk (below_step HB.out hb)
 have hse : strOfNums [98, 99, 120, 100, 101, 102] = ⟨#[98, 99, 120, 100, 101, 102]⟩ := by decide +kernel
 have hcv : (convert 31 9 (.slice A0 6 c0)).run Try.prog w3 = .ok (.string (strOfNums [98, 99, 120, 100, 101, 102])) w3 := Kd.C_string (P := Try.prog) (A := A0) (c := c0) Try.underlying31 Try.underlying5 Try.underlying9 hr0
 rw [hse] at hcv
 clear hse
 clear c1' c3 s1 s2 hb hR hr0 hw1 hw2
 go_wp2_with fail
 have c4 : Kd.C k40 (w3.alloc (.cells #[.int .i64 1, .int .i64 2, .slice none 0 0, .int .i64 3, .int .i64 1, .slice none 0 0] 40)) (some ⟨w3.heap.size, 0, none⟩) 2 [⟨1, 2, []⟩, ⟨3, 1, []⟩] := by
  refine Jn.C_of_iso (f := toT) (Jn.kP_alloc_lit w3 _ _ [(1, 2, []), (3, 1, [])] _ (by decide) (fun j p hj => ?_))
  match j, hj with
  | 0, hj => obtain rfl := Option.some.inj hj; exact ⟨_, _, rfl, rfl, rfl, Nat.zero_le _, Jn.C_zero _ _ _⟩
  | 1, hj => obtain rfl := Option.some.inj hj; exact ⟨_, _, rfl, rfl, rfl, Nat.zero_le _, Jn.C_zero _ _ _⟩
 replace HB := Aside0.mk (below_step HB.out (below_alloc (Below.refl w3.heap.size w3) (.cells #[.int .i64 1, .int .i64 2, .slice none 0 0, .int .i64 3, .int .i64 1, .slice none 0 0] 40)))
 refine (delta_Norm.calls _ 2 [⟨1, 2, []⟩, ⟨3, 1, []⟩] [⟨1, 3, []⟩] _ c4 (by decide) HN.out).mono ?_
 rintro e w4 ⟨v1, rfl, hN, hb⟩
 replace HB := Aside0.mk (below_step HB.out hb)
 obtain ⟨A1, c1, rfl, hl1, hr1⟩ := Kd.N_reads hN
 clear c4 hN hb hcv
 go_wp2_with fail
 have c5 : Kd.C k40 (w4.alloc (.cells #[.int .i64 1, .int .i64 3, .slice none 0 0] 40)) (some ⟨w4.heap.size, 0, none⟩) 1 [⟨1, 3, []⟩] := by
  refine Jn.C_of_iso (f := toT) (Jn.kP_alloc_lit w4 _ _ [(1, 3, [])] _ (by decide) (fun j p hj => ?_))
  match j, hj with
  | 0, hj => obtain rfl := Option.some.inj hj; exact ⟨_, _, rfl, rfl, rfl, Nat.zero_le _, Jn.C_zero _ _ _⟩
 have b4 := below_alloc (Below.refl w4.heap.size w4) (.cells #[.int .i64 1, .int .i64 3, .slice none 0 0] 40)
 replace HB := Aside0.mk (below_step HB.out b4)
 refine (remoraref08_Same.calls 20 A1 c1 [⟨1, 3, []⟩] _ 1 [⟨1, 3, []⟩] true _ (Kd.C_below hr1 b4) hl1 c5 (by decide) HS.out).mono ?_
 rintro e w5 ⟨rfl, hb⟩
 replace HB := Aside0.mk (below_step HB.out (by first | exact hb | exact hb.below))
 clear c5 b4 hb hr1
 go_wp2_with fail
 go_ret
 exact ⟨rfl, HB.out⟩

/-! ### remoraref08_Length: function 33 -/
def remoraref08_Length.f (a0_0 : Int) (a0_1 : Int) (l0_2 : List Int) : Option (Int) := if (l0_2.length : Int) > 0 then (some (l0_2.length : Int)) else (some (mx a0_1 0))
set_option maxHeartbeats 8000000 in
set_option maxRecDepth 100000 in
theorem remoraref08_Length.calls (a0_0 : Int) (a0_1 : Int) (A0_2 : Option Addr) (c0_2 : Nat) (l0_2 : List Int) (r : Int) (w : World) (hr0_2 : Kd.C (Kd.int .u8) w A0_2 l0_2.length l0_2) (hc0_2 : l0_2.length ≤ c0_2) (h : remoraref08_Length.f a0_0 a0_1 l0_2 = some r) :
  Calls Try.prog 33 #[.agg #[.int .i64 a0_0, .int .i64 a0_1, .slice A0_2 l0_2.length c0_2]] w fun e w' => e = .returned (.int .i64 r) ∧ Below w.heap.size w w' := by
 have hu40 := Try.underlying40
 have HR0_2 := Aside0.mk hr0_2
 have HC0_2 := Aside0.mk hc0_2
 clear hr0_2 hc0_2
 have HB := Aside0.mk (Below.refl w.heap.size w)
 have H : (if (l0_2.length : Int) > 0 then (some (l0_2.length : Int)) else (some (mx a0_1 0))) = some r := h
 clear h
 by_cases c2 : (l0_2.length : Int) > 0
 ·rw [if_pos c2] at H
  have c2b0 : decide (0 < (l0_2.length : Int)) = true := decide_eq_true c2
  have c2b1 : decide (0 < l0_2.length) = true := decide_eq_true (by omega)
  clear c2
  obtain rfl := Option.some.inj H
  go_enter Try.func33, Try.ntmps33
  go_wp2_with (first | ((with_reducible refine gate_dst (N := 1) rfl ?_); refine box_event ?hg (N := 1) ?hd (cs := #[.int .i64 a0_0, .int .i64 a0_1, .slice A0_2 l0_2.length c0_2]) (t := 40) ?hr ?_; (case hd => rfl); (case hg => rfl); (case hr => first | (go_simp; done) | (go_simp; rfl)); intro gb128 hg w3 hbox hb; have n0_ := Aside0.mk (below_step (by repeat (first | exact HB.out | apply b1 | apply b2 | apply b3)) hb); have n1_ := Aside0.mk (hbox); have n2_ := Aside0.mk ((by rw [hg]; exact (below_size (by repeat (first | exact HB.out | apply b1 | apply b2 | apply b3))) : w.heap.size ≤ gb128)); have n3_ := Aside0.mk ((by rw [hg]; exact (below_size (by repeat (first | exact HB.out | apply b1 | apply b2 | apply b3))) : w.heap.size ≤ gb128)); clear HB; have HB := n0_; have BK128 := n1_; have GW128 := n2_; have GE128 := n3_; clear n0_ n1_ n2_ n3_; clear hb hbox hg; have hcz4_0 : w3.cell? ⟨gb128, 0, none⟩ = some (.int .i64 a0_0) := (blk_cell BK128.out 0).trans rfl; have hcz4_1 : w3.cell? ⟨gb128, 1, none⟩ = some (.int .i64 a0_1) := (blk_cell BK128.out 1).trans rfl; have hcz4_2 : w3.cell? ⟨gb128, 2, none⟩ = some (.slice A0_2 l0_2.length c0_2) := (blk_cell BK128.out 2).trans rfl; have hfz4_0 := blk_frozen BK128.out 0; have hfz4_1 := blk_frozen BK128.out 1; have hfz4_2 := blk_frozen BK128.out 2))
  go_ret
  exact ⟨by first | rfl | (simp [*] <;> rfl), by repeat (first | (with_reducible first | exact HB.out | apply b1 | apply b2 | apply b3 | refine below_set ?_ GE128.out) | exact HB.out)⟩
 ·rw [if_neg c2] at H
  have c2b0 : decide (0 < (l0_2.length : Int)) = false := decide_eq_false c2
  have c2b1 : decide (0 < l0_2.length) = false := decide_eq_false (by omega)
  clear c2
  obtain ⟨ji5, hji5⟩ : ∃ j_ : Int, (mx a0_1 0) = j_ := ⟨_, rfl⟩
  replace H : (some ji5) = some r := by first | (rw [hji5] at H; exact H) | (simp only [hji5] at H ⊢; exact H)
  (try (have hji5l : 0 ≤ ji5 := by (rw [← hji5]; unfold mx; (repeat' split) <;> omega)))
  (try (have hji5m : 0 ≤ ji5 := by omega))
  have hji5_ : (if a0_1 < 0 then 0 else a0_1) = ji5 := hji5
  obtain rfl := Option.some.inj H
  go_enter Try.func33, Try.ntmps33
  go_wp2_with (first | ((with_reducible refine gate_dst (N := 1) rfl ?_); refine box_event ?hg (N := 1) ?hd (cs := #[.int .i64 a0_0, .int .i64 a0_1, .slice A0_2 l0_2.length c0_2]) (t := 40) ?hr ?_; (case hd => rfl); (case hg => rfl); (case hr => first | (go_simp; done) | (go_simp; rfl)); intro gb128 hg w6 hbox hb; have n0_ := Aside0.mk (below_step (by repeat (first | exact HB.out | apply b1 | apply b2 | apply b3)) hb); have n1_ := Aside0.mk (hbox); have n2_ := Aside0.mk ((by rw [hg]; exact (below_size (by repeat (first | exact HB.out | apply b1 | apply b2 | apply b3))) : w.heap.size ≤ gb128)); have n3_ := Aside0.mk ((by rw [hg]; exact (below_size (by repeat (first | exact HB.out | apply b1 | apply b2 | apply b3))) : w.heap.size ≤ gb128)); clear HB; have HB := n0_; have BK128 := n1_; have GW128 := n2_; have GE128 := n3_; clear n0_ n1_ n2_ n3_; clear hb hbox hg; have hcz7_0 : w6.cell? ⟨gb128, 0, none⟩ = some (.int .i64 a0_0) := (blk_cell BK128.out 0).trans rfl; have hcz7_1 : w6.cell? ⟨gb128, 1, none⟩ = some (.int .i64 a0_1) := (blk_cell BK128.out 1).trans rfl; have hcz7_2 : w6.cell? ⟨gb128, 2, none⟩ = some (.slice A0_2 l0_2.length c0_2) := (blk_cell BK128.out 2).trans rfl; have hfz7_0 := blk_frozen BK128.out 0; have hfz7_1 := blk_frozen BK128.out 1; have hfz7_2 := blk_frozen BK128.out 2))
  go_ret
  exact ⟨by first | rfl | (simp [errW_none, errW_some] <;> rfl) | (simp only [← hji5]; first | rfl | (simp [errW_none, errW_some] <;> rfl)) | (simp [*, errW_none, errW_some] <;> rfl), by repeat (first | (with_reducible first | exact HB.out | apply b1 | apply b2 | apply b3 | refine below_set ?_ GE128.out) | exact HB.out)⟩

/-! ### remoraref08_Size: function 17 -/
def remoraref08_Size.l0 : Nat → List (S40) → Int → Int → Option (Int)
 | 0, _, _, _ => none
 | k + 1, x0, x3, x4 => if x4 < (x0.length : Int) then (if 0 ≤ x4 then ((remoraref08_Length.f ((rd_T40 x0 x4).f0) ((rd_T40 x0 x4).f1) ((rd_T40 x0 x4).f2)).bind fun t130 => (remoraref08_Size.l0 k x0 (wrap64 (x3 + t130)) (wrap64 (x4 + 1)))) else (none)) else (some x3)
def remoraref08_Size.f (k : Nat) (l0 : List (S40)) : Option (Int) := remoraref08_Size.l0 k l0 0 0
theorem remoraref08_Size.mono_l : ∀ k, (∀ y0 y1 y2, LeO (remoraref08_Size.l0 k y0 y1 y2) (remoraref08_Size.l0 (k + 1) y0 y1 y2))
 | 0 => fun _ _ _ r h => by simp [remoraref08_Size.l0] at h
 | k + 1 => by
  have ih0 := remoraref08_Size.mono_l k
  ·intro y0 y1 y2
   unfold remoraref08_Size.l0
   repeat' first
   | (with_reducible exact ih0 _ _ _)
   | (with_reducible exact LeO.refl _)
   | (with_reducible exact LeO.none _)
   | (with_reducible refine LeO.ite ?_ ?_)
   | (with_reducible refine LeO.bind ?_ (fun _ => ?_))
   | exact ih0 _ _ _
   | exact LeO.none _
   | refine LeO.ite ?_ ?_
   | refine LeO.bind ?_ (fun _ => ?_)
theorem remoraref08_Size.mono : ∀ a0 k, LeO (remoraref08_Size.f k a0) (remoraref08_Size.f (k + 1) a0) := by
 intro a0 k
 have ih0 := remoraref08_Size.mono_l k
 unfold remoraref08_Size.f
 repeat' first
   | (with_reducible exact ih0 _ _ _)
   | (with_reducible exact LeO.refl _)
   | (with_reducible exact LeO.none _)
   | (with_reducible refine LeO.ite ?_ ?_)
   | (with_reducible refine LeO.bind ?_ (fun _ => ?_))
   | exact ih0 _ _ _
   | exact LeO.none _
   | refine LeO.ite ?_ ?_
   | refine LeO.bind ?_ (fun _ => ?_)
set_option maxHeartbeats 8000000 in
set_option maxRecDepth 100000 in
theorem remoraref08_Size.calls (k : Nat) (A0 : Option Addr) (c0 : Nat) (l0 : List (S40)) (r : Int) (w : World) (hr0 : Kd.C k40 w A0 l0.length l0) (hc0 : l0.length ≤ c0) (h : remoraref08_Size.f k l0 = some r) :
  Calls Try.prog 17 #[.slice A0 l0.length c0] w fun e w' => e = .returned (.int .i64 r) ∧ Below w.heap.size w w' := by
 have hu40 := Try.underlying40
 have HR0 := Aside0.mk hr0
 have HC0 := Aside0.mk hc0
 clear hr0 hc0
 have HB := Aside0.mk (Below.refl w.heap.size w)
 have H : (remoraref08_Size.l0 k l0 0 0) = some r := h
 clear h
 have H' := Aside0.mk H
 clear H
 go_enter Try.func17, Try.ntmps17
 go_wp2
 go_loopg [3, 4] k (fun kq v3 v4 w' => ∃ (x3_1 : Int) (x4_1 : Int), v3 = .int .i64 x3_1 ∧ v4 = .int .i64 x4_1 ∧ Aside0 (remoraref08_Size.l0 kq l0 x3_1 x4_1 = some r) ∧ Aside0 (kq ≤ k) ∧ Aside0 (Below w.heap.size w w'))
 case atStart => exact ⟨(0), (0), (by first | rfl | (simp; done) | (simp [*]; done)), (by first | rfl | (simp; done) | (simp [*]; done)), H', ⟨Nat.le_refl _⟩, ⟨by repeat (first | exact HB.out | apply b1 | apply b2 | apply b3)⟩⟩
 case round =>
  clear H'
  try clear c1
  obtain ⟨x3_1, x4_1, rfl, rfl, HA, HK1, HB⟩ := hrel
  cases gk with
  | zero => exact absurd HA.out (by simp [remoraref08_Size.l0])
  | succ k1 =>
   have H := HA.out
   clear HA
   simp only [remoraref08_Size.l0] at H
   by_cases c2 : x4_1 < (l0.length : Int)
   ·rw [if_pos c2] at H
    have c2b0 : decide (x4_1 < (l0.length : Int)) = true := decide_eq_true c2
    clear c2
    by_cases c3 : 0 ≤ x4_1
    ·rw [if_pos c3] at H
     have c3b0 : decide (0 ≤ x4_1) = true := decide_eq_true c3
     clear c3
     replace H := Option.bind_eq_some_iff.mp H
     obtain ⟨t130, A40, H⟩ := H
     replace H : (remoraref08_Size.l0 k1 l0 (wrap64 (x3_1 + t130)) (wrap64 (x4_1 + 1))) = some r := H
     have A4 := Aside0.mk A40
     clear A40
     have H' := Aside0.mk H
     clear H
     have p129 : 0 ≤ (x4_1 : Int) := of_decide_eq_true (by assumption)
     have q129 : x4_1 < (l0.length : Int) := of_decide_eq_true (by assumption)
     obtain ⟨ad129, A129_2, c129_2, e129, hx129_0, hx129_1, hx129_2, hl129_2, hi129_2⟩ := at_T40 HR0.out x4_1 p129 q129
     cases e129
     replace hx129_0 := (HB.out.cell (World.block_lt_of_cell? w _ hx129_0)).trans hx129_0
     replace hx129_1 := (HB.out.cell (World.block_lt_of_cell? w _ hx129_1)).trans hx129_1
     replace hx129_2 := (HB.out.cell (World.block_lt_of_cell? w _ hx129_2)).trans hx129_2
     have HR129_2 := Aside0.mk hi129_2
     have HC129_2 := Aside0.mk hl129_2
     clear hi129_2 hl129_2
     replace p129 := eq_true p129
     replace q129 := eq_true q129
     go_wp2_with (first | ((with_reducible refine gate_callee (f := 33) rfl ?_); refine goesL_ (some 16) rfl rfl Try.func33 (by kernel_rfl) rfl #[.agg #[.int .i64 ((rd_T40 l0 x4_1).f0), .int .i64 ((rd_T40 l0 x4_1).f1), .slice A129_2 ((rd_T40 l0 x4_1).f2).length c129_2]] rfl (by (try simp only [List.map_toArray, List.map_cons, List.map_nil]); first | done | rfl | (simp only [List.length_drop, List.length_take]; rfl)) ?_; (with_reducible refine (remoraref08_Length.calls ((rd_T40 l0 x4_1).f0) ((rd_T40 l0 x4_1).f1) _ _ ((rd_T40 l0 x4_1).f2) t130 _ ?side1 ?side2 A4.out).mono ?_); (case side1 => repeat (first | exact (Kd.C_below HR129_2.out HB.out) | (with_reducible refine Kd.C_alloc ?_ _) | (with_reducible refine Kd.C_drewN ?_ _) | (with_reducible refine Kd.C_drew ?_))); (case side2 => exact HC129_2.out); rintro e w5 ⟨rfl, hb⟩; refine ⟨_, rfl, ?_⟩; have n0_ := Aside0.mk (below_step (by repeat (first | exact HB.out | apply b1 | apply b2 | apply b3)) hb); clear HB; have HB := n0_; clear n0_; (try clear hb); (try clear hb2); (try clear hk); (try clear hi)))
     go_roundg k1
     case measure => have := HK1.out; omega
     case rel => exact ⟨(wrap64 (x3_1 + t130)), (wrap64 (x4_1 + 1)), (by first | rfl | (simp; done) | (simp [*]; done)), (by first | rfl | (simp; done) | (simp [*]; done)), H', ⟨by have := HK1.out; omega⟩, ⟨by repeat (first | exact HB.out | apply b1 | apply b2 | apply b3)⟩⟩
    ·rw [if_neg c3] at H
     exact absurd H (by simp)
   ·rw [if_neg c2] at H
    have c2b0 : decide (x4_1 < (l0.length : Int)) = false := decide_eq_false c2
    clear c2
    obtain rfl := Option.some.inj H
    go_wp2
    go_ret
    exact ⟨by first | rfl | (simp [*] <;> rfl), by repeat (first | exact HB.out | apply b1 | apply b2 | apply b3)⟩

/-! ### remoraref08_Right: function 35 -/
def remoraref08_Right.f (a0_0 : Int) (a0_1 : Int) (l0_2 : List Int) : Option (Bool) := if (l0_2.length : Int) > 0 then (if a0_0 = 0 then (some (a0_1 == 0)) else (some false)) else (if a0_0 ≥ 0 then (some (decide (a0_1 ≥ 1))) else (some false))
set_option maxHeartbeats 8000000 in
set_option maxRecDepth 100000 in
theorem remoraref08_Right.calls (a0_0 : Int) (a0_1 : Int) (A0_2 : Option Addr) (c0_2 : Nat) (l0_2 : List Int) (r : Bool) (w : World) (hr0_2 : Kd.C (Kd.int .u8) w A0_2 l0_2.length l0_2) (hc0_2 : l0_2.length ≤ c0_2) (h : remoraref08_Right.f a0_0 a0_1 l0_2 = some r) :
  Calls Try.prog 35 #[.agg #[.int .i64 a0_0, .int .i64 a0_1, .slice A0_2 l0_2.length c0_2]] w fun e w' => e = .returned (.bool r) ∧ Below w.heap.size w w' := by
 have hu40 := Try.underlying40
 have HR0_2 := Aside0.mk hr0_2
 have HC0_2 := Aside0.mk hc0_2
 clear hr0_2 hc0_2
 have HB := Aside0.mk (Below.refl w.heap.size w)
 have H : (if (l0_2.length : Int) > 0 then (if a0_0 = 0 then (some (a0_1 == 0)) else (some false)) else (if a0_0 ≥ 0 then (some (decide (a0_1 ≥ 1))) else (some false))) = some r := h
 clear h
 by_cases c2 : (l0_2.length : Int) > 0
 ·rw [if_pos c2] at H
  have c2b0 : decide (0 < (l0_2.length : Int)) = true := decide_eq_true c2
  have c2b1 : decide (0 < l0_2.length) = true := decide_eq_true (by omega)
  clear c2
  by_cases c3 : a0_0 = 0
  ·rw [if_pos c3] at H
   have c3b0 : (a0_0 == 0) = true := beq_iff_eq.mpr c3
   have c3b1 : (a0_0 != 0) = false := bne_eq_false_iff_eq.mpr c3
   clear c3
   obtain rfl := Option.some.inj H
   go_enter Try.func35, Try.ntmps35
   go_wp2_with (first | ((with_reducible refine gate_dst (N := 1) rfl ?_); refine box_event ?hg (N := 1) ?hd (cs := #[.int .i64 a0_0, .int .i64 a0_1, .slice A0_2 l0_2.length c0_2]) (t := 40) ?hr ?_; (case hd => rfl); (case hg => rfl); (case hr => first | (go_simp; done) | (go_simp; rfl)); intro gb131 hg w4 hbox hb; have n0_ := Aside0.mk (below_step (by repeat (first | exact HB.out | apply b1 | apply b2 | apply b3)) hb); have n1_ := Aside0.mk (hbox); have n2_ := Aside0.mk ((by rw [hg]; exact (below_size (by repeat (first | exact HB.out | apply b1 | apply b2 | apply b3))) : w.heap.size ≤ gb131)); have n3_ := Aside0.mk ((by rw [hg]; exact (below_size (by repeat (first | exact HB.out | apply b1 | apply b2 | apply b3))) : w.heap.size ≤ gb131)); clear HB; have HB := n0_; have BK131 := n1_; have GW131 := n2_; have GE131 := n3_; clear n0_ n1_ n2_ n3_; clear hb hbox hg; have hcz5_0 : w4.cell? ⟨gb131, 0, none⟩ = some (.int .i64 a0_0) := (blk_cell BK131.out 0).trans rfl; have hcz5_1 : w4.cell? ⟨gb131, 1, none⟩ = some (.int .i64 a0_1) := (blk_cell BK131.out 1).trans rfl; have hcz5_2 : w4.cell? ⟨gb131, 2, none⟩ = some (.slice A0_2 l0_2.length c0_2) := (blk_cell BK131.out 2).trans rfl; have hfz5_0 := blk_frozen BK131.out 0; have hfz5_1 := blk_frozen BK131.out 1; have hfz5_2 := blk_frozen BK131.out 2))
   go_ret
   exact ⟨by first | rfl | (simp [*] <;> rfl), by repeat (first | (with_reducible first | exact HB.out | apply b1 | apply b2 | apply b3 | refine below_set ?_ GE131.out) | exact HB.out)⟩
  ·rw [if_neg c3] at H
   have c3b0 : (a0_0 == 0) = false := beq_eq_false_iff_ne.mpr c3
   have c3b1 : (a0_0 != 0) = true := bne_iff_ne.mpr c3
   obtain rfl := Option.some.inj H
   go_enter Try.func35, Try.ntmps35
   go_wp2_with (first | ((with_reducible refine gate_dst (N := 1) rfl ?_); refine box_event ?hg (N := 1) ?hd (cs := #[.int .i64 a0_0, .int .i64 a0_1, .slice A0_2 l0_2.length c0_2]) (t := 40) ?hr ?_; (case hd => rfl); (case hg => rfl); (case hr => first | (go_simp; done) | (go_simp; rfl)); intro gb131 hg w6 hbox hb; have n0_ := Aside0.mk (below_step (by repeat (first | exact HB.out | apply b1 | apply b2 | apply b3)) hb); have n1_ := Aside0.mk (hbox); have n2_ := Aside0.mk ((by rw [hg]; exact (below_size (by repeat (first | exact HB.out | apply b1 | apply b2 | apply b3))) : w.heap.size ≤ gb131)); have n3_ := Aside0.mk ((by rw [hg]; exact (below_size (by repeat (first | exact HB.out | apply b1 | apply b2 | apply b3))) : w.heap.size ≤ gb131)); clear HB; have HB := n0_; have BK131 := n1_; have GW131 := n2_; have GE131 := n3_; clear n0_ n1_ n2_ n3_; clear hb hbox hg; have hcz7_0 : w6.cell? ⟨gb131, 0, none⟩ = some (.int .i64 a0_0) := (blk_cell BK131.out 0).trans rfl; have hcz7_1 : w6.cell? ⟨gb131, 1, none⟩ = some (.int .i64 a0_1) := (blk_cell BK131.out 1).trans rfl; have hcz7_2 : w6.cell? ⟨gb131, 2, none⟩ = some (.slice A0_2 l0_2.length c0_2) := (blk_cell BK131.out 2).trans rfl; have hfz7_0 := blk_frozen BK131.out 0; have hfz7_1 := blk_frozen BK131.out 1; have hfz7_2 := blk_frozen BK131.out 2))
   go_ret
   exact ⟨by first | rfl | (simp [*] <;> rfl), by repeat (first | (with_reducible first | exact HB.out | apply b1 | apply b2 | apply b3 | refine below_set ?_ GE131.out) | exact HB.out)⟩
 ·rw [if_neg c2] at H
  have c2b0 : decide (0 < (l0_2.length : Int)) = false := decide_eq_false c2
  have c2b1 : decide (0 < l0_2.length) = false := decide_eq_false (by omega)
  clear c2
  by_cases c8 : a0_0 ≥ 0
  ·rw [if_pos c8] at H
   have c8b0 : decide (0 ≤ a0_0) = true := decide_eq_true c8
   clear c8
   obtain rfl := Option.some.inj H
   go_enter Try.func35, Try.ntmps35
   go_wp2_with (first | ((with_reducible refine gate_dst (N := 1) rfl ?_); refine box_event ?hg (N := 1) ?hd (cs := #[.int .i64 a0_0, .int .i64 a0_1, .slice A0_2 l0_2.length c0_2]) (t := 40) ?hr ?_; (case hd => rfl); (case hg => rfl); (case hr => first | (go_simp; done) | (go_simp; rfl)); intro gb131 hg w9 hbox hb; have n0_ := Aside0.mk (below_step (by repeat (first | exact HB.out | apply b1 | apply b2 | apply b3)) hb); have n1_ := Aside0.mk (hbox); have n2_ := Aside0.mk ((by rw [hg]; exact (below_size (by repeat (first | exact HB.out | apply b1 | apply b2 | apply b3))) : w.heap.size ≤ gb131)); have n3_ := Aside0.mk ((by rw [hg]; exact (below_size (by repeat (first | exact HB.out | apply b1 | apply b2 | apply b3))) : w.heap.size ≤ gb131)); clear HB; have HB := n0_; have BK131 := n1_; have GW131 := n2_; have GE131 := n3_; clear n0_ n1_ n2_ n3_; clear hb hbox hg; have hcz10_0 : w9.cell? ⟨gb131, 0, none⟩ = some (.int .i64 a0_0) := (blk_cell BK131.out 0).trans rfl; have hcz10_1 : w9.cell? ⟨gb131, 1, none⟩ = some (.int .i64 a0_1) := (blk_cell BK131.out 1).trans rfl; have hcz10_2 : w9.cell? ⟨gb131, 2, none⟩ = some (.slice A0_2 l0_2.length c0_2) := (blk_cell BK131.out 2).trans rfl; have hfz10_0 := blk_frozen BK131.out 0; have hfz10_1 := blk_frozen BK131.out 1; have hfz10_2 := blk_frozen BK131.out 2))
   go_ret
   exact ⟨by first | rfl | (simp [*] <;> rfl), by repeat (first | (with_reducible first | exact HB.out | apply b1 | apply b2 | apply b3 | refine below_set ?_ GE131.out) | exact HB.out)⟩
  ·rw [if_neg c8] at H
   have c8b0 : decide (0 ≤ a0_0) = false := decide_eq_false c8
   clear c8
   obtain rfl := Option.some.inj H
   go_enter Try.func35, Try.ntmps35
   go_wp2_with (first | ((with_reducible refine gate_dst (N := 1) rfl ?_); refine box_event ?hg (N := 1) ?hd (cs := #[.int .i64 a0_0, .int .i64 a0_1, .slice A0_2 l0_2.length c0_2]) (t := 40) ?hr ?_; (case hd => rfl); (case hg => rfl); (case hr => first | (go_simp; done) | (go_simp; rfl)); intro gb131 hg w11 hbox hb; have n0_ := Aside0.mk (below_step (by repeat (first | exact HB.out | apply b1 | apply b2 | apply b3)) hb); have n1_ := Aside0.mk (hbox); have n2_ := Aside0.mk ((by rw [hg]; exact (below_size (by repeat (first | exact HB.out | apply b1 | apply b2 | apply b3))) : w.heap.size ≤ gb131)); have n3_ := Aside0.mk ((by rw [hg]; exact (below_size (by repeat (first | exact HB.out | apply b1 | apply b2 | apply b3))) : w.heap.size ≤ gb131)); clear HB; have HB := n0_; have BK131 := n1_; have GW131 := n2_; have GE131 := n3_; clear n0_ n1_ n2_ n3_; clear hb hbox hg; have hcz12_0 : w11.cell? ⟨gb131, 0, none⟩ = some (.int .i64 a0_0) := (blk_cell BK131.out 0).trans rfl; have hcz12_1 : w11.cell? ⟨gb131, 1, none⟩ = some (.int .i64 a0_1) := (blk_cell BK131.out 1).trans rfl; have hcz12_2 : w11.cell? ⟨gb131, 2, none⟩ = some (.slice A0_2 l0_2.length c0_2) := (blk_cell BK131.out 2).trans rfl; have hfz12_0 := blk_frozen BK131.out 0; have hfz12_1 := blk_frozen BK131.out 1; have hfz12_2 := blk_frozen BK131.out 2))
   go_ret
   exact ⟨by first | rfl | (simp [*] <;> rfl), by repeat (first | (with_reducible first | exact HB.out | apply b1 | apply b2 | apply b3 | refine below_set ?_ GE131.out) | exact HB.out)⟩

end Go.Proofs.Ytifmajnhcbicnaa.PDeltaApplies
