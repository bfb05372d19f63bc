-- Written by a program of this session (the kit's printer with hand-written contracts among its functions).
-- squeezed
import Derived.Test.YtkihlcmjjoiccaaPMatchCostsx0
import Derived.Test.YtkihlcmjjoiccaaPMatchCostsx1
import Derived.Test.YtkihlcmjjoiccaaPMatchCostsx7
import Derived.Test.YtkihlcmjjoiccaaPMatchCostsx10
import Derived.Test.YtkihlcmjjoiccaaPMatchCostsx11
import Derived.Test.YtkihlcmjjoiccaaPMatchCostsx12
namespace Go.Proofs.Ytkihlcmjjoiccaa.PMatchCosts
open Go.RowKit Go.Proofs.YtkihlcmjjoiccaaW.PrintWords Go.Proofs.YtkihlcmjjoiccaaW.PrintLast Go.Proofs.YtkihlcmjjoiccaaW.PrintMore
attribute [local go_sem] max2_int min2_int max_two min_two max_three min_three max_four min_four   -- for this text's walks alone
set_option linter.unusedVariables false
set_option linter.unusedSimpArgs false

def delta_length.f (a0_0 : Int) (a0_1 : Int) (l0_2 : List Int) : Option (Int) := (delta_told.f a0_0 a0_1 l0_2).bind fun t177 => (if t177 = true then (some (l0_2.length : Int)) else (some (mx a0_1 0)))
set_option maxHeartbeats 8000000 in
set_option maxRecDepth 100000 in
theorem delta_length.calls (a0_0 : Int) (a0_1 : Int) (A0_2 : Option Addr) (c0_2 : Nat) (l0_2 : List Int) (r : Int) (w : World) (hr0_2 : Kd.C (Kd.int .u8) w A0_2 l0_2.length l0_2) (hc0_2 : l0_2.length ≤ c0_2) (h : delta_length.f a0_0 a0_1 l0_2 = some r) :
    Calls Try.prog 39 #[.agg #[.int .i64 a0_0, .int .i64 a0_1, .slice A0_2 l0_2.length c0_2]] w fun e w' => e = .returned (.int .i64 r) ∧ Below w.heap.size w w' := by
 have hu47 := Try.underlying47
 have HR0_2 := zA hr0_2
 have HC0_2 := zA hc0_2
 clear hr0_2 hc0_2
 have HB := zA (Below.refl w.heap.size w)
 have H : ((delta_told.f a0_0 a0_1 l0_2).bind fun t177 => (if t177 = true then (some (l0_2.length : Int)) else (some (mx a0_1 0)))) = some r := h
 clear h
 replace H := Option.bind_eq_some_iff.mp H
 obtain ⟨t177, A20, H⟩ := H
 replace H : (if t177 = true then (some (l0_2.length : Int)) else (some (mx a0_1 0))) = some r := H
 have A2 := zA A20
 clear A20
 by_cases c3 : t177 = true
 ·subst c3
  have H1 : (some (l0_2.length : Int)) = some r := by rw [if_pos rfl] at H; exact H
  clear H
  have H := H1
  clear H1
  obtain rfl := Option.some.inj H
  go_enter Try.func39, Try.ntmps39
  go_wp2_with (first | ((with_reducible refine gate_dst (N := 1) rfl ?_); refine box_event ?hg (N := 1) ?hd (cs := #[.int .i64 a0_0, .int .i64 a0_1, .slice A0_2 l0_2.length c0_2]) (t := 47) ?hr ?_; (case hd => rfl); (case hg => rfl); (case hr => first | (go_simp; done) | (go_simp; rfl)); intro gb176 hg w4 hbox hb; have n0_ := zA (zb5 (by repeat (first | (with_reducible first | exact HB.out | apply zb3 | apply zb1 | apply zb2) | exact HB.out)) hb); have n1_ := zA (hbox); have n2_ := zA ((by rw [hg]; exact (zb6 (by repeat (first | (with_reducible first | exact HB.out | apply zb3 | apply zb1 | apply zb2) | exact HB.out))) : w.heap.size ≤ gb176)); have n3_ := zA ((by rw [hg]; exact (zb6 (by repeat (first | (with_reducible first | exact HB.out | apply zb3 | apply zb1 | apply zb2) | exact HB.out))) : w.heap.size ≤ gb176)); clear HB; have HB := n0_; have BK176 := n1_; have GW176 := n2_; have GE176 := n3_; clear n0_ n1_ n2_ n3_; clear hb hbox hg; have hcz5_0 : w4.cell? ⟨gb176, 0, none⟩ = some (.int .i64 a0_0) := (zc1 BK176.out 0).trans rfl; have hcz5_1 : w4.cell? ⟨gb176, 1, none⟩ = some (.int .i64 a0_1) := (zc1 BK176.out 1).trans rfl; have hcz5_2 : w4.cell? ⟨gb176, 2, none⟩ = some (.slice A0_2 l0_2.length c0_2) := (zc1 BK176.out 2).trans rfl; have hfz5_0 := zc5 BK176.out 0; have hfz5_1 := zc5 BK176.out 1; have hfz5_2 := zc5 BK176.out 2) | ((with_reducible refine gate_callee (f := 38) rfl ?_); refine goesL_ (some 4) rfl rfl Try.func38 (by kernel_rfl) rfl #[.agg #[.int .i64 a0_0, .int .i64 a0_1, .slice A0_2 l0_2.length c0_2]] rfl (by (try simp only [zm1, zm2, zm3]); first | done | rfl | (simp only [List.length_drop, List.length_take]; rfl)) ?_; (with_reducible refine (delta_told.calls a0_0 a0_1 _ _ l0_2 true _ ?side1 ?side2 A2.out).mono ?_); (case side1 => repeat (first | exact (Kd.C_below HR0_2.out HB.out) | (with_reducible refine Kd.C_alloc ?_ _) | (with_reducible refine Kd.C_drewN ?_ _) | (with_reducible refine Kd.C_drew ?_))); (case side2 => exact HC0_2.out); rintro e w6 ⟨rfl, hb⟩; refine ⟨_, rfl, ?_⟩; have n0_ := zA (zc6 (g := gb176) (o := .cells #[.int .i64 a0_0, .int .i64 a0_1, .slice A0_2 l0_2.length c0_2] 47 (0, 0)) (by (with_reducible repeat (first | refine zc3 ?_ _ | refine zc4 ?_ | refine zc2 ?_ _)); exact BK176.out) hb); have n1_ := zA (zb5 (by repeat (first | (with_reducible first | exact HB.out | apply zb3 | apply zb1 | apply zb2 | refine zb4 ?_ GE176.out) | exact HB.out)) hb); clear BK176; clear HB; have BK176 := n0_; have HB := n1_; clear n0_ n1_; (try clear hb); (try clear hb2); (try clear hk); (try clear hi); have hcz7_0 : w6.cell? ⟨gb176, 0, none⟩ = some (.int .i64 a0_0) := (zc1 BK176.out 0).trans rfl; have hcz7_1 : w6.cell? ⟨gb176, 1, none⟩ = some (.int .i64 a0_1) := (zc1 BK176.out 1).trans rfl; have hcz7_2 : w6.cell? ⟨gb176, 2, none⟩ = some (.slice A0_2 l0_2.length c0_2) := (zc1 BK176.out 2).trans rfl; have hfz7_0 := zc5 BK176.out 0; have hfz7_1 := zc5 BK176.out 1; have hfz7_2 := zc5 BK176.out 2))
  go_ret
  exact ⟨by first | rfl | (simp [*] <;> rfl), by repeat (first | (with_reducible first | exact HB.out | apply zb3 | apply zb1 | apply zb2 | refine zb4 ?_ GE176.out) | exact HB.out)⟩
 ·replace c3 := Bool.eq_false_iff.mpr c3
  subst c3
  have H1 : (some (mx a0_1 0)) = some r := by rw [if_neg (show ¬ (false = true) by decide)] at H; exact H
  clear H
  have H := H1
  clear H1
  obtain ⟨ji8, hji8⟩ : ∃ j_ : Int, (mx a0_1 0) = j_ := ⟨_, rfl⟩
  replace H : (some ji8) = some r := by first | (rw [hji8] at H; exact H) | (simp only [hji8] at H ⊢; exact H)
  (try rw [hji8] at A2)
  (try (have hji8l : 0 ≤ ji8 := by (rw [← hji8]; unfold mx; (repeat' split) <;> omega)))
  (try (have hji8m : 0 ≤ ji8 := by omega))
  have hji8_ : (if a0_1 < 0 then 0 else a0_1) = ji8 := hji8
  obtain rfl := Option.some.inj H
  go_enter Try.func39, Try.ntmps39
  go_wp2_with (first | ((with_reducible refine gate_dst (N := 1) rfl ?_); refine box_event ?hg (N := 1) ?hd (cs := #[.int .i64 a0_0, .int .i64 a0_1, .slice A0_2 l0_2.length c0_2]) (t := 47) ?hr ?_; (case hd => rfl); (case hg => rfl); (case hr => first | (go_simp; done) | (go_simp; rfl)); intro gb176 hg w9 hbox hb; have n0_ := zA (zb5 (by repeat (first | (with_reducible first | exact HB.out | apply zb3 | apply zb1 | apply zb2) | exact HB.out)) hb); have n1_ := zA (hbox); have n2_ := zA ((by rw [hg]; exact (zb6 (by repeat (first | (with_reducible first | exact HB.out | apply zb3 | apply zb1 | apply zb2) | exact HB.out))) : w.heap.size ≤ gb176)); have n3_ := zA ((by rw [hg]; exact (zb6 (by repeat (first | (with_reducible first | exact HB.out | apply zb3 | apply zb1 | apply zb2) | exact HB.out))) : w.heap.size ≤ gb176)); clear HB; have HB := n0_; have BK176 := n1_; have GW176 := n2_; have GE176 := n3_; clear n0_ n1_ n2_ n3_; clear hb hbox hg; have hcz10_0 : w9.cell? ⟨gb176, 0, none⟩ = some (.int .i64 a0_0) := (zc1 BK176.out 0).trans rfl; have hcz10_1 : w9.cell? ⟨gb176, 1, none⟩ = some (.int .i64 a0_1) := (zc1 BK176.out 1).trans rfl; have hcz10_2 : w9.cell? ⟨gb176, 2, none⟩ = some (.slice A0_2 l0_2.length c0_2) := (zc1 BK176.out 2).trans rfl; have hfz10_0 := zc5 BK176.out 0; have hfz10_1 := zc5 BK176.out 1; have hfz10_2 := zc5 BK176.out 2) | ((with_reducible refine gate_callee (f := 38) rfl ?_); refine goesL_ (some 4) rfl rfl Try.func38 (by kernel_rfl) rfl #[.agg #[.int .i64 a0_0, .int .i64 a0_1, .slice A0_2 l0_2.length c0_2]] rfl (by (try simp only [zm1, zm2, zm3]); first | done | rfl | (simp only [List.length_drop, List.length_take]; rfl)) ?_; (with_reducible refine (delta_told.calls a0_0 a0_1 _ _ l0_2 false _ ?side1 ?side2 A2.out).mono ?_); (case side1 => repeat (first | exact (Kd.C_below HR0_2.out HB.out) | (with_reducible refine Kd.C_alloc ?_ _) | (with_reducible refine Kd.C_drewN ?_ _) | (with_reducible refine Kd.C_drew ?_))); (case side2 => exact HC0_2.out); rintro e w11 ⟨rfl, hb⟩; refine ⟨_, rfl, ?_⟩; have n0_ := zA (zc6 (g := gb176) (o := .cells #[.int .i64 a0_0, .int .i64 a0_1, .slice A0_2 l0_2.length c0_2] 47 (0, 0)) (by (with_reducible repeat (first | refine zc3 ?_ _ | refine zc4 ?_ | refine zc2 ?_ _)); exact BK176.out) hb); have n1_ := zA (zb5 (by repeat (first | (with_reducible first | exact HB.out | apply zb3 | apply zb1 | apply zb2 | refine zb4 ?_ GE176.out) | exact HB.out)) hb); clear BK176; clear HB; have BK176 := n0_; have HB := n1_; clear n0_ n1_; (try clear hb); (try clear hb2); (try clear hk); (try clear hi); have hcz12_0 : w11.cell? ⟨gb176, 0, none⟩ = some (.int .i64 a0_0) := (zc1 BK176.out 0).trans rfl; have hcz12_1 : w11.cell? ⟨gb176, 1, none⟩ = some (.int .i64 a0_1) := (zc1 BK176.out 1).trans rfl; have hcz12_2 : w11.cell? ⟨gb176, 2, none⟩ = some (.slice A0_2 l0_2.length c0_2) := (zc1 BK176.out 2).trans rfl; have hfz12_0 := zc5 BK176.out 0; have hfz12_1 := zc5 BK176.out 1; have hfz12_2 := zc5 BK176.out 2))
  go_ret
  exact ⟨by first | rfl | (simp [errW_none, errW_some] <;> rfl) | (simp only [← hji8]; first | rfl | (simp [errW_none, errW_some] <;> rfl)) | (simp [*, errW_none, errW_some] <;> rfl), by repeat (first | (with_reducible first | exact HB.out | apply zb3 | apply zb1 | apply zb2 | refine zb4 ?_ GE176.out) | exact HB.out)⟩

def delta_Cost.l0 : Nat → Int → Int → List (S47) → Int → Int → Option (Int × Int)
 | 0, _, _, _, _, _ => none
 | k + 1, x4, x5, x8, x9, x10 => if x10 < x9 then (if 0 ≤ x10 then (if x10 < (x8.length : Int) then ((delta_told.f ((rd_T47 x8 x10).f0) ((rd_T47 x8 x10).f1) ((rd_T47 x8 x10).f2)).bind fun t180 => (if t180 = true then ((delta_length.f ((rd_T47 x8 x10).f0) ((rd_T47 x8 x10).f1) ((rd_T47 x8 x10).f2)).bind fun t181 => (delta_Cost.l0 k (wrap64 (x4 + t181)) x5 x8 x9 (wrap64 (x10 + 1)))) else ((delta_length.f ((rd_T47 x8 x10).f0) ((rd_T47 x8 x10).f1) ((rd_T47 x8 x10).f2)).bind fun t182 => (delta_Cost.l0 k x4 (wrap64 (x5 + t182)) x8 x9 (wrap64 (x10 + 1)))))) else (none)) else (none)) else (some (x4, x5))
def delta_Cost.f (k : Nat) (l0 : List (S47)) : Option (Int × Int) := delta_Cost.l0 k 0 0 l0 (l0.length : Int) 0
theorem delta_Cost.mono_l : ∀ k, (∀ y0 y1 y2 y3 y4, LeO (delta_Cost.l0 k y0 y1 y2 y3 y4) (delta_Cost.l0 (k + 1) y0 y1 y2 y3 y4))
 | 0 => fun _ _ _ _ _ r h => by simp [delta_Cost.l0] at h
 | k + 1 => by
  have ih0 := delta_Cost.mono_l k
  ·intro y0 y1 y2 y3 y4
   unfold delta_Cost.l0
   repeat' first
   | (with_reducible exact ih0 _ _ _ _ _)
   | (with_reducible exact LeO.refl _)
   | (with_reducible exact LeO.none _)
   | (with_reducible refine LeO.ite ?_ ?_)
   | (with_reducible refine LeO.bind ?_ (fun _ => ?_))
   | exact ih0 _ _ _ _ _
   | exact LeO.none _
   | refine LeO.ite ?_ ?_
   | refine LeO.bind ?_ (fun _ => ?_)
theorem delta_Cost.mono : ∀ a0 k, LeO (delta_Cost.f k a0) (delta_Cost.f (k + 1) a0) := by
 intro a0 k
 have ih0 := delta_Cost.mono_l k
 unfold delta_Cost.f
 repeat' first
     | (with_reducible exact ih0 _ _ _ _ _)
     | (with_reducible exact LeO.refl _)
     | (with_reducible exact LeO.none _)
     | (with_reducible refine LeO.ite ?_ ?_)
     | (with_reducible refine LeO.bind ?_ (fun _ => ?_))
     | exact ih0 _ _ _ _ _
     | exact LeO.none _
     | refine LeO.ite ?_ ?_
     | refine LeO.bind ?_ (fun _ => ?_)
set_option maxHeartbeats 8000000 in
set_option maxRecDepth 100000 in
theorem delta_Cost.calls (k : Nat) (A0 : Option Addr) (c0 : Nat) (l0 : List (S47)) (r1 : Int) (r2 : Int) (w : World) (hr0 : Kd.C k47 w A0 l0.length l0) (hc0 : l0.length ≤ c0) (h : delta_Cost.f k l0 = some (r1, r2)) :
    Calls Try.prog 20 #[.slice A0 l0.length c0] w fun e w' => e = .returned (.tuple #[.int .i64 r1, .int .i64 r2]) ∧ Below w.heap.size w w' := by
 have hu47 := Try.underlying47
 have HR0 := zA hr0
 have HC0 := zA hc0
 clear hr0 hc0
 have HB := zA (Below.refl w.heap.size w)
 have H : (delta_Cost.l0 k 0 0 l0 (l0.length : Int) 0) = some (r1, r2) := h
 clear h
 have H' := zA H
 clear H
 go_enter Try.func20, Try.ntmps20
 go_wp2
 go_loopg [4, 5, 10] k (fun kq v4 v5 v10 w' => ∃ (x4_1 : Int) (x5_1 : Int) (x10_1 : Int), v4 = .int .i64 x4_1 ∧ v5 = .int .i64 x5_1 ∧ v10 = .int .i64 x10_1 ∧ Aside0 (delta_Cost.l0 kq x4_1 x5_1 l0 (l0.length : Int) x10_1 = some (r1, r2)) ∧ Aside0 (kq ≤ k) ∧ Aside0 (Below w.heap.size w w'))
 case atStart => exact ⟨(0), (0), (0), (by first | rfl | (simp; done) | (simp [*]; done)), (by first | rfl | (simp; done) | (simp [*]; done)), (by first | rfl | (simp; done) | (simp [*]; done)), H', ⟨Nat.le_refl _⟩, ⟨by repeat (first | (with_reducible first | exact HB.out | apply zb3 | apply zb1 | apply zb2) | exact HB.out)⟩⟩
 case round =>
  clear H'
  obtain ⟨x4_1, x5_1, x10_1, rfl, rfl, rfl, HA, HK1, HB⟩ := hrel
  cases gk with
  | zero => exact absurd HA.out (by simp [delta_Cost.l0])
  | succ k1 =>
   have H := HA.out
   clear HA
   simp only [delta_Cost.l0] at H
   by_cases c2 : x10_1 < (l0.length : Int)
   ·rw [if_pos c2] at H
    have c2b0 : decide (x10_1 < (l0.length : Int)) = true := zd1 c2
    clear c2
    by_cases c3 : 0 ≤ x10_1
    ·rw [if_pos c3] at H
     have c3b0 : decide (0 ≤ x10_1) = true := zd1 c3
     clear c3
     by_cases c4 : x10_1 < (l0.length : Int)
     ·rw [if_pos c4] at H
      have c4b0 : decide (x10_1 < (l0.length : Int)) = true := zd1 c4
      clear c4
      replace H := Option.bind_eq_some_iff.mp H
      obtain ⟨t180, A50, H⟩ := H
      replace H : (if t180 = true then ((delta_length.f ((rd_T47 l0 x10_1).f0) ((rd_T47 l0 x10_1).f1) ((rd_T47 l0 x10_1).f2)).bind fun t181 => (delta_Cost.l0 k1 (wrap64 (x4_1 + t181)) x5_1 l0 (l0.length : Int) (wrap64 (x10_1 + 1)))) else ((delta_length.f ((rd_T47 l0 x10_1).f0) ((rd_T47 l0 x10_1).f1) ((rd_T47 l0 x10_1).f2)).bind fun t182 => (delta_Cost.l0 k1 x4_1 (wrap64 (x5_1 + t182)) l0 (l0.length : Int) (wrap64 (x10_1 + 1))))) = some (r1, r2) := H
      have A5 := zA A50
      clear A50
      by_cases c6 : t180 = true
      ·subst c6
       have H1 : ((delta_length.f ((rd_T47 l0 x10_1).f0) ((rd_T47 l0 x10_1).f1) ((rd_T47 l0 x10_1).f2)).bind fun t181 => (delta_Cost.l0 k1 (wrap64 (x4_1 + t181)) x5_1 l0 (l0.length : Int) (wrap64 (x10_1 + 1)))) = some (r1, r2) := by rw [if_pos rfl] at H; exact H
       clear H
       have H := H1
       clear H1
       replace H := Option.bind_eq_some_iff.mp H
       obtain ⟨t181, A70, H⟩ := H
       replace H : (delta_Cost.l0 k1 (wrap64 (x4_1 + t181)) x5_1 l0 (l0.length : Int) (wrap64 (x10_1 + 1))) = some (r1, r2) := H
       have A7 := zA A70
       clear A70
       have H' := zA H
       clear H
       have p178 : 0 ≤ (x10_1 : Int) := zd3 (by first | (with_reducible assumption) | assumption)
       have q178 : x10_1 < (l0.length : Int) := zd3 (by first | (with_reducible assumption) | assumption)
       obtain ⟨ad178, A178_2, c178_2, e178, hx178_0, hx178_1, hx178_2, hl178_2, hi178_2⟩ := at_T47 HR0.out x10_1 p178 q178
       cases e178
       replace hx178_0 := (HB.out.cell (World.block_lt_of_cell? w _ hx178_0)).trans hx178_0
       replace hx178_1 := (HB.out.cell (World.block_lt_of_cell? w _ hx178_1)).trans hx178_1
       replace hx178_2 := (HB.out.cell (World.block_lt_of_cell? w _ hx178_2)).trans hx178_2
       have HR178_2 := zA hi178_2
       have HC178_2 := zA hl178_2
       clear hi178_2 hl178_2
       replace p178 := eq_true p178
       replace q178 := eq_true q178
       go_wp2_with (first | ((with_reducible refine gate_dst (N := 7) rfl ?_); refine box_event ?hg (N := 7) ?hd (cs := #[.int .i64 0, .int .i64 0, .slice none 0 0]) (t := 47) ?hr ?_; (case hd => rfl); (case hg => rfl); (case hr => first | (go_simp; done) | (go_simp; rfl)); intro gb179 hg w8 hbox hb; have n0_ := zA (zb5 (by repeat (first | (with_reducible first | exact HB.out | apply zb3 | apply zb1 | apply zb2) | exact HB.out)) hb); have n1_ := zA (hbox); have n2_ := zA ((by rw [hg]; exact (zb6 (by repeat (first | (with_reducible first | exact HB.out | apply zb3 | apply zb1 | apply zb2) | exact HB.out))) : w.heap.size ≤ gb179)); have n3_ := zA ((by rw [hg]; exact (zb6 (by repeat (first | (with_reducible first | exact HB.out | apply zb3 | apply zb1 | apply zb2) | exact HB.out))) : w.heap.size ≤ gb179)); clear HB; have HB := n0_; have BK179 := n1_; have GW179 := n2_; have GE179 := n3_; clear n0_ n1_ n2_ n3_; clear hb hbox hg; have hcz9_0 : w8.cell? ⟨gb179, 0, none⟩ = some (.int .i64 0) := (zc1 BK179.out 0).trans rfl; have hcz9_1 : w8.cell? ⟨gb179, 1, none⟩ = some (.int .i64 0) := (zc1 BK179.out 1).trans rfl; have hcz9_2 : w8.cell? ⟨gb179, 2, none⟩ = some (.slice none 0 0) := (zc1 BK179.out 2).trans rfl; have hfz9_0 := zc5 BK179.out 0; have hfz9_1 := zc5 BK179.out 1; have hfz9_2 := zc5 BK179.out 2) | ((with_reducible refine gate_callee (f := 38) rfl ?_); refine goesL_ (some 15) rfl rfl Try.func38 (by kernel_rfl) rfl #[.agg #[.int .i64 ((rd_T47 l0 x10_1).f0), .int .i64 ((rd_T47 l0 x10_1).f1), .slice A178_2 ((rd_T47 l0 x10_1).f2).length c178_2]] rfl (by (try simp only [zm1, zm2, zm3]); first | done | rfl | (simp only [List.length_drop, List.length_take]; rfl)) ?_; (with_reducible refine (delta_told.calls ((rd_T47 l0 x10_1).f0) ((rd_T47 l0 x10_1).f1) _ _ ((rd_T47 l0 x10_1).f2) true _ ?side1 ?side2 A5.out).mono ?_); (case side1 => exact Kd.C_below HR178_2.out (by repeat (first | (with_reducible first | exact HB.out | apply zb3 | apply zb1 | apply zb2 | refine zb4 ?_ GE179.out) | exact HB.out))); (case side2 => exact HC178_2.out); rintro e w10 ⟨rfl, hb⟩; refine ⟨_, rfl, ?_⟩; have n0_ := zA (zc6 (g := gb179) (o := .cells #[.int .i64 ((rd_T47 l0 x10_1).f0), .int .i64 ((rd_T47 l0 x10_1).f1), .slice A178_2 ((rd_T47 l0 x10_1).f2).length c178_2] 47 (0, 0)) (by (with_reducible repeat (first | refine zc3 ?_ _ | refine zc4 ?_ | refine zc2 ?_ _)); refine blk_put (cs := #[.int .i64 ((rd_T47 l0 x10_1).f0), .int .i64 ((rd_T47 l0 x10_1).f1), .slice none 0 0]) ?_ 2 _ rfl; (with_reducible repeat (first | refine zc3 ?_ _ | refine zc4 ?_ | refine zc2 ?_ _)); refine blk_put (cs := #[.int .i64 ((rd_T47 l0 x10_1).f0), .int .i64 0, .slice none 0 0]) ?_ 1 _ rfl; (with_reducible repeat (first | refine zc3 ?_ _ | refine zc4 ?_ | refine zc2 ?_ _)); refine blk_put (cs := #[.int .i64 0, .int .i64 0, .slice none 0 0]) ?_ 0 _ rfl; (with_reducible repeat (first | refine zc3 ?_ _ | refine zc4 ?_ | refine zc2 ?_ _)); exact BK179.out) hb); have n1_ := zA (zb5 (by repeat (first | (with_reducible first | exact HB.out | apply zb3 | apply zb1 | apply zb2 | refine zb4 ?_ GE179.out) | exact HB.out)) hb); clear BK179; clear HB; have BK179 := n0_; have HB := n1_; clear n0_ n1_; (try clear hb); (try clear hb2); (try clear hk); (try clear hi); have hcz11_0 : w10.cell? ⟨gb179, 0, none⟩ = some (.int .i64 ((rd_T47 l0 x10_1).f0)) := (zc1 BK179.out 0).trans rfl; have hcz11_1 : w10.cell? ⟨gb179, 1, none⟩ = some (.int .i64 ((rd_T47 l0 x10_1).f1)) := (zc1 BK179.out 1).trans rfl; have hcz11_2 : w10.cell? ⟨gb179, 2, none⟩ = some (.slice A178_2 ((rd_T47 l0 x10_1).f2).length c178_2) := (zc1 BK179.out 2).trans rfl; have hfz11_0 := zc5 BK179.out 0; have hfz11_1 := zc5 BK179.out 1; have hfz11_2 := zc5 BK179.out 2) | ((with_reducible refine gate_callee (f := 39) rfl ?_); refine goesL_ (some 18) rfl rfl Try.func39 (by kernel_rfl) rfl #[.agg #[.int .i64 ((rd_T47 l0 x10_1).f0), .int .i64 ((rd_T47 l0 x10_1).f1), .slice A178_2 ((rd_T47 l0 x10_1).f2).length c178_2]] rfl (by (try simp only [zm1, zm2, zm3]); first | done | rfl | (simp only [List.length_drop, List.length_take]; rfl)) ?_; (with_reducible refine (delta_length.calls ((rd_T47 l0 x10_1).f0) ((rd_T47 l0 x10_1).f1) _ _ ((rd_T47 l0 x10_1).f2) t181 _ ?side1 ?side2 A7.out).mono ?_); (case side1 => repeat (first | exact (Kd.C_below HR178_2.out HB.out) | (with_reducible refine Kd.C_alloc ?_ _) | (with_reducible refine Kd.C_drewN ?_ _) | (with_reducible refine Kd.C_drew ?_))); (case side2 => exact HC178_2.out); rintro e w12 ⟨rfl, hb⟩; refine ⟨_, rfl, ?_⟩; have n0_ := zA (zc6 (g := gb179) (o := .cells #[.int .i64 ((rd_T47 l0 x10_1).f0), .int .i64 ((rd_T47 l0 x10_1).f1), .slice A178_2 ((rd_T47 l0 x10_1).f2).length c178_2] 47 (0, 0)) (by (with_reducible repeat (first | refine zc3 ?_ _ | refine zc4 ?_ | refine zc2 ?_ _)); exact BK179.out) hb); have n1_ := zA (zb5 (by repeat (first | (with_reducible first | exact HB.out | apply zb3 | apply zb1 | apply zb2 | refine zb4 ?_ GE179.out) | exact HB.out)) hb); clear BK179; clear HB; have BK179 := n0_; have HB := n1_; clear n0_ n1_; (try clear hb); (try clear hb2); (try clear hk); (try clear hi)))
       go_roundg k1
       case measure => have := HK1.out; omega
       case rel => exact ⟨(wrap64 (x4_1 + t181)), (x5_1), (wrap64 (x10_1 + 1)), (by first | rfl | (simp; done) | (simp [*]; done)), (by first | rfl | (simp; done) | (simp [*]; done)), (by first | rfl | (simp; done) | (simp [*]; done)), H', ⟨by have := HK1.out; omega⟩, ⟨by repeat (first | (with_reducible first | exact HB.out | apply zb3 | apply zb1 | apply zb2 | refine zb4 ?_ GE179.out) | exact HB.out)⟩⟩
      ·replace c6 := Bool.eq_false_iff.mpr c6
       subst c6
       have H1 : ((delta_length.f ((rd_T47 l0 x10_1).f0) ((rd_T47 l0 x10_1).f1) ((rd_T47 l0 x10_1).f2)).bind fun t182 => (delta_Cost.l0 k1 x4_1 (wrap64 (x5_1 + t182)) l0 (l0.length : Int) (wrap64 (x10_1 + 1)))) = some (r1, r2) := by rw [if_neg (show ¬ (false = true) by decide)] at H; exact H
       clear H
       have H := H1
       clear H1
       replace H := Option.bind_eq_some_iff.mp H
       obtain ⟨t182, A130, H⟩ := H
       replace H : (delta_Cost.l0 k1 x4_1 (wrap64 (x5_1 + t182)) l0 (l0.length : Int) (wrap64 (x10_1 + 1))) = some (r1, r2) := H
       have A13 := zA A130
       clear A130
       have H' := zA H
       clear H
       have p178 : 0 ≤ (x10_1 : Int) := zd3 (by first | (with_reducible assumption) | assumption)
       have q178 : x10_1 < (l0.length : Int) := zd3 (by first | (with_reducible assumption) | assumption)
       obtain ⟨ad178, A178_2, c178_2, e178, hx178_0, hx178_1, hx178_2, hl178_2, hi178_2⟩ := at_T47 HR0.out x10_1 p178 q178
       cases e178
       replace hx178_0 := (HB.out.cell (World.block_lt_of_cell? w _ hx178_0)).trans hx178_0
       replace hx178_1 := (HB.out.cell (World.block_lt_of_cell? w _ hx178_1)).trans hx178_1
       replace hx178_2 := (HB.out.cell (World.block_lt_of_cell? w _ hx178_2)).trans hx178_2
       have HR178_2 := zA hi178_2
       have HC178_2 := zA hl178_2
       clear hi178_2 hl178_2
       replace p178 := eq_true p178
       replace q178 := eq_true q178
       go_wp2_with (first | ((with_reducible refine gate_dst (N := 7) rfl ?_); refine box_event ?hg (N := 7) ?hd (cs := #[.int .i64 0, .int .i64 0, .slice none 0 0]) (t := 47) ?hr ?_; (case hd => rfl); (case hg => rfl); (case hr => first | (go_simp; done) | (go_simp; rfl)); intro gb179 hg w14 hbox hb; have n0_ := zA (zb5 (by repeat (first | (with_reducible first | exact HB.out | apply zb3 | apply zb1 | apply zb2) | exact HB.out)) hb); have n1_ := zA (hbox); have n2_ := zA ((by rw [hg]; exact (zb6 (by repeat (first | (with_reducible first | exact HB.out | apply zb3 | apply zb1 | apply zb2) | exact HB.out))) : w.heap.size ≤ gb179)); have n3_ := zA ((by rw [hg]; exact (zb6 (by repeat (first | (with_reducible first | exact HB.out | apply zb3 | apply zb1 | apply zb2) | exact HB.out))) : w.heap.size ≤ gb179)); clear HB; have HB := n0_; have BK179 := n1_; have GW179 := n2_; have GE179 := n3_; clear n0_ n1_ n2_ n3_; clear hb hbox hg; have hcz15_0 : w14.cell? ⟨gb179, 0, none⟩ = some (.int .i64 0) := (zc1 BK179.out 0).trans rfl; have hcz15_1 : w14.cell? ⟨gb179, 1, none⟩ = some (.int .i64 0) := (zc1 BK179.out 1).trans rfl; have hcz15_2 : w14.cell? ⟨gb179, 2, none⟩ = some (.slice none 0 0) := (zc1 BK179.out 2).trans rfl; have hfz15_0 := zc5 BK179.out 0; have hfz15_1 := zc5 BK179.out 1; have hfz15_2 := zc5 BK179.out 2) | ((with_reducible refine gate_callee (f := 38) rfl ?_); refine goesL_ (some 15) rfl rfl Try.func38 (by kernel_rfl) rfl #[.agg #[.int .i64 ((rd_T47 l0 x10_1).f0), .int .i64 ((rd_T47 l0 x10_1).f1), .slice A178_2 ((rd_T47 l0 x10_1).f2).length c178_2]] rfl (by (try simp only [zm1, zm2, zm3]); first | done | rfl | (simp only [List.length_drop, List.length_take]; rfl)) ?_; (with_reducible refine (delta_told.calls ((rd_T47 l0 x10_1).f0) ((rd_T47 l0 x10_1).f1) _ _ ((rd_T47 l0 x10_1).f2) false _ ?side1 ?side2 A5.out).mono ?_); (case side1 => exact Kd.C_below HR178_2.out (by repeat (first | (with_reducible first | exact HB.out | apply zb3 | apply zb1 | apply zb2 | refine zb4 ?_ GE179.out) | exact HB.out))); (case side2 => exact HC178_2.out); rintro e w16 ⟨rfl, hb⟩; refine ⟨_, rfl, ?_⟩; have n0_ := zA (zc6 (g := gb179) (o := .cells #[.int .i64 ((rd_T47 l0 x10_1).f0), .int .i64 ((rd_T47 l0 x10_1).f1), .slice A178_2 ((rd_T47 l0 x10_1).f2).length c178_2] 47 (0, 0)) (by (with_reducible repeat (first | refine zc3 ?_ _ | refine zc4 ?_ | refine zc2 ?_ _)); refine blk_put (cs := #[.int .i64 ((rd_T47 l0 x10_1).f0), .int .i64 ((rd_T47 l0 x10_1).f1), .slice none 0 0]) ?_ 2 _ rfl; (with_reducible repeat (first | refine zc3 ?_ _ | refine zc4 ?_ | refine zc2 ?_ _)); refine blk_put (cs := #[.int .i64 ((rd_T47 l0 x10_1).f0), .int .i64 0, .slice none 0 0]) ?_ 1 _ rfl; (with_reducible repeat (first | refine zc3 ?_ _ | refine zc4 ?_ | refine zc2 ?_ _)); refine blk_put (cs := #[.int .i64 0, .int .i64 0, .slice none 0 0]) ?_ 0 _ rfl; (with_reducible repeat (first | refine zc3 ?_ _ | refine zc4 ?_ | refine zc2 ?_ _)); exact BK179.out) hb); have n1_ := zA (zb5 (by repeat (first | (with_reducible first | exact HB.out | apply zb3 | apply zb1 | apply zb2 | refine zb4 ?_ GE179.out) | exact HB.out)) hb); clear BK179; clear HB; have BK179 := n0_; have HB := n1_; clear n0_ n1_; (try clear hb); (try clear hb2); (try clear hk); (try clear hi); have hcz17_0 : w16.cell? ⟨gb179, 0, none⟩ = some (.int .i64 ((rd_T47 l0 x10_1).f0)) := (zc1 BK179.out 0).trans rfl; have hcz17_1 : w16.cell? ⟨gb179, 1, none⟩ = some (.int .i64 ((rd_T47 l0 x10_1).f1)) := (zc1 BK179.out 1).trans rfl; have hcz17_2 : w16.cell? ⟨gb179, 2, none⟩ = some (.slice A178_2 ((rd_T47 l0 x10_1).f2).length c178_2) := (zc1 BK179.out 2).trans rfl; have hfz17_0 := zc5 BK179.out 0; have hfz17_1 := zc5 BK179.out 1; have hfz17_2 := zc5 BK179.out 2) | ((with_reducible refine gate_callee (f := 39) rfl ?_); refine goesL_ (some 22) rfl rfl Try.func39 (by kernel_rfl) rfl #[.agg #[.int .i64 ((rd_T47 l0 x10_1).f0), .int .i64 ((rd_T47 l0 x10_1).f1), .slice A178_2 ((rd_T47 l0 x10_1).f2).length c178_2]] rfl (by (try simp only [zm1, zm2, zm3]); first | done | rfl | (simp only [List.length_drop, List.length_take]; rfl)) ?_; (with_reducible refine (delta_length.calls ((rd_T47 l0 x10_1).f0) ((rd_T47 l0 x10_1).f1) _ _ ((rd_T47 l0 x10_1).f2) t182 _ ?side1 ?side2 A13.out).mono ?_); (case side1 => repeat (first | exact (Kd.C_below HR178_2.out HB.out) | (with_reducible refine Kd.C_alloc ?_ _) | (with_reducible refine Kd.C_drewN ?_ _) | (with_reducible refine Kd.C_drew ?_))); (case side2 => exact HC178_2.out); rintro e w18 ⟨rfl, hb⟩; refine ⟨_, rfl, ?_⟩; have n0_ := zA (zc6 (g := gb179) (o := .cells #[.int .i64 ((rd_T47 l0 x10_1).f0), .int .i64 ((rd_T47 l0 x10_1).f1), .slice A178_2 ((rd_T47 l0 x10_1).f2).length c178_2] 47 (0, 0)) (by (with_reducible repeat (first | refine zc3 ?_ _ | refine zc4 ?_ | refine zc2 ?_ _)); exact BK179.out) hb); have n1_ := zA (zb5 (by repeat (first | (with_reducible first | exact HB.out | apply zb3 | apply zb1 | apply zb2 | refine zb4 ?_ GE179.out) | exact HB.out)) hb); clear BK179; clear HB; have BK179 := n0_; have HB := n1_; clear n0_ n1_; (try clear hb); (try clear hb2); (try clear hk); (try clear hi)))
       go_roundg k1
       case measure => have := HK1.out; omega
       case rel => exact ⟨(x4_1), (wrap64 (x5_1 + t182)), (wrap64 (x10_1 + 1)), (by first | rfl | (simp; done) | (simp [*]; done)), (by first | rfl | (simp; done) | (simp [*]; done)), (by first | rfl | (simp; done) | (simp [*]; done)), H', ⟨by have := HK1.out; omega⟩, ⟨by repeat (first | (with_reducible first | exact HB.out | apply zb3 | apply zb1 | apply zb2 | refine zb4 ?_ GE179.out) | exact HB.out)⟩⟩
     ·rw [if_neg c4] at H
      exact absurd H (by simp)
    ·rw [if_neg c3] at H
     exact absurd H (by simp)
   ·rw [if_neg c2] at H
    have c2b0 : decide (x10_1 < (l0.length : Int)) = false := zd2 c2
    clear c2
    simp only [Option.some.injEq, Prod.mk.injEq] at H
    obtain ⟨rfl, rfl⟩ := H
    go_wp2
    go_ret2
    exact ⟨by first | rfl | (simp [*] <;> rfl), by repeat (first | (with_reducible first | exact HB.out | apply zb3 | apply zb1 | apply zb2) | exact HB.out)⟩

mutual
def remoralaw09_MatchCosts.j0 : Nat → List Int → Bool → Int → Int → Int → List (S55) → Option (Bool)
 | 0, _, _, _, _, _, _ => none
 | k + 1, x1, x18, x184000, x184001, x184002, x184003 => if x18 = true then ((remoralaw09_awake.f k).bind fun t185 => (some t185)) else ((match_Of.f k x184000 x184001 x184002 x184003 x1).bind fun bt186 => (if bt186.2 = 0 then ((remoraref06_Check.f k x184000 x184001 x184002 x184003).bind fun t192 => (if t192 = 0 then ((delta_Cost.f k bt186.1).bind fun bt193 => (remoralaw09_MatchCosts.l0 k x1 bt186.1 bt193.1 bt193.2 bt186.1 (bt186.1.length : Int) 0 x184000 x184001 x184002 x184003)) else (none))) else (if (bt186.1.length : Int) = 0 then ((remoraref06_Check.f k x184000 x184001 x184002 x184003).bind fun t190 => (if bt186.2 = t190 then ((remoralaw09_awake.f k).bind fun t191 => (some t191)) else (none))) else (none))))
def remoralaw09_MatchCosts.l0 : Nat → List Int → List (S47) → Int → Int → List (S47) → Int → Int → Int → Int → Int → List (S55) → Option (Bool)
 | 0, _, _, _, _, _, _, _, _, _, _, _ => none
 | k + 1, x1, x5, x7, x8, x48, x49, x50, x184000, x184001, x184002, x184003 => if x50 < x49 then (if 0 ≤ x50 then (if x50 < (x48.length : Int) then (if (((rd_T47 x48 x50).f2).length : Int) = 0 then (if ((rd_T47 x48 x50).f1) < 1 then (none) else (if ((rd_T47 x48 x50).f0) < 0 then (none) else (if x184001 = 0 then (none) else (if (Int.tmod ((rd_T47 x48 x50).f0) x184001) = 0 then (if (wrap64 (((rd_T47 x48 x50).f0) + ((rd_T47 x48 x50).f1))) > x184000 then (none) else (remoralaw09_MatchCosts.l0 k x1 x5 x7 x8 x48 x49 (wrap64 (x50 + 1)) x184000 x184001 x184002 x184003)) else (none))))) else (remoralaw09_MatchCosts.l0 k x1 x5 x7 x8 x48 x49 (wrap64 (x50 + 1)) x184000 x184001 x184002 x184003)) else (none)) else (none)) else (if (wrap64 (x7 + x8)) = (x1.length : Int) then ((remoraref08_Norm.f x5).bind fun t197 => ((remoraref08_Same.f k t197 x5).bind fun t200 => (if t200 = true then ((remoralaw09_awake.f k).bind fun t201 => (some t201)) else (none)))) else (none))
end
def remoralaw09_MatchCosts.f (k : Nat) (a0_0 : Int) (a0_1 : Int) (a0_2 : Int) (l0_3 : List (S55)) (l1 : List Int) : Option (Bool) := (remoralaw09_light.f k a0_0 a0_1 a0_2 l0_3).bind fun t184 => (if t184 = true then (remoralaw09_MatchCosts.j0 k l1 (decide ((l1.length : Int) > 1500)) a0_0 a0_1 a0_2 l0_3) else (remoralaw09_MatchCosts.j0 k l1 true a0_0 a0_1 a0_2 l0_3))
theorem remoralaw09_MatchCosts.mono_l : ∀ k, (∀ y0 y1 y2 y3 y4 y5, LeO (remoralaw09_MatchCosts.j0 k y0 y1 y2 y3 y4 y5) (remoralaw09_MatchCosts.j0 (k + 1) y0 y1 y2 y3 y4 y5)) ∧ (∀ y0 y1 y2 y3 y4 y5 y6 y7 y8 y9 y10, LeO (remoralaw09_MatchCosts.l0 k y0 y1 y2 y3 y4 y5 y6 y7 y8 y9 y10) (remoralaw09_MatchCosts.l0 (k + 1) y0 y1 y2 y3 y4 y5 y6 y7 y8 y9 y10))
 | 0 => ⟨fun _ _ _ _ _ _ r h => by simp [remoralaw09_MatchCosts.j0] at h, fun _ _ _ _ _ _ _ _ _ _ _ r h => by simp [remoralaw09_MatchCosts.l0] at h⟩
 | k + 1 => by
  obtain ⟨ih0, ih1⟩ := remoralaw09_MatchCosts.mono_l k
  refine ⟨?_, ?_⟩
  ·intro y0 y1 y2 y3 y4 y5
   unfold remoralaw09_MatchCosts.j0
   repeat' first
   | (with_reducible exact ih0 _ _ _ _ _ _)
   | (with_reducible exact ih1 _ _ _ _ _ _ _ _ _ _ _)
   | (with_reducible exact delta_Cost.mono _ _)
   | (with_reducible exact match_Of.mono _ _ _ _ _ _)
   | (with_reducible exact remoralaw09_awake.mono _)
   | (with_reducible exact remoralaw09_light.mono _ _ _ _ _)
   | (with_reducible exact remoraref06_Check.mono _ _ _ _ _)
   | (with_reducible exact remoraref08_Same.mono _ _ _)
   | (with_reducible exact LeO.refl _)
   | (with_reducible exact LeO.none _)
   | (with_reducible refine LeO.ite ?_ ?_)
   | (with_reducible refine LeO.bind ?_ (fun _ => ?_))
   | exact ih0 _ _ _ _ _ _
   | exact ih1 _ _ _ _ _ _ _ _ _ _ _
   | exact delta_Cost.mono _ _
   | exact match_Of.mono _ _ _ _ _ _
   | exact remoralaw09_awake.mono _
   | exact remoralaw09_light.mono _ _ _ _ _
   | exact remoraref06_Check.mono _ _ _ _ _
   | exact remoraref08_Same.mono _ _ _
   | exact LeO.none _
   | refine LeO.ite ?_ ?_
   | refine LeO.bind ?_ (fun _ => ?_)
  ·intro y0 y1 y2 y3 y4 y5 y6 y7 y8 y9 y10
   unfold remoralaw09_MatchCosts.l0
   repeat' first
   | (with_reducible exact ih0 _ _ _ _ _ _)
   | (with_reducible exact ih1 _ _ _ _ _ _ _ _ _ _ _)
   | (with_reducible exact delta_Cost.mono _ _)
   | (with_reducible exact match_Of.mono _ _ _ _ _ _)
   | (with_reducible exact remoralaw09_awake.mono _)
   | (with_reducible exact remoralaw09_light.mono _ _ _ _ _)
   | (with_reducible exact remoraref06_Check.mono _ _ _ _ _)
   | (with_reducible exact remoraref08_Same.mono _ _ _)
   | (with_reducible exact LeO.refl _)
   | (with_reducible exact LeO.none _)
   | (with_reducible refine LeO.ite ?_ ?_)
   | (with_reducible refine LeO.bind ?_ (fun _ => ?_))
   | exact ih0 _ _ _ _ _ _
   | exact ih1 _ _ _ _ _ _ _ _ _ _ _
   | exact delta_Cost.mono _ _
   | exact match_Of.mono _ _ _ _ _ _
   | exact remoralaw09_awake.mono _
   | exact remoralaw09_light.mono _ _ _ _ _
   | exact remoraref06_Check.mono _ _ _ _ _
   | exact remoraref08_Same.mono _ _ _
   | exact LeO.none _
   | refine LeO.ite ?_ ?_
   | refine LeO.bind ?_ (fun _ => ?_)
theorem remoralaw09_MatchCosts.mono : ∀ a0 a1 a2 a3 a4 k, LeO (remoralaw09_MatchCosts.f k a0 a1 a2 a3 a4) (remoralaw09_MatchCosts.f (k + 1) a0 a1 a2 a3 a4) := by
 intro a0 a1 a2 a3 a4 k
 obtain ⟨ih0, ih1⟩ := remoralaw09_MatchCosts.mono_l k
 unfold remoralaw09_MatchCosts.f
 repeat' first
     | (with_reducible exact ih0 _ _ _ _ _ _)
     | (with_reducible exact ih1 _ _ _ _ _ _ _ _ _ _ _)
     | (with_reducible exact delta_Cost.mono _ _)
     | (with_reducible exact match_Of.mono _ _ _ _ _ _)
     | (with_reducible exact remoralaw09_awake.mono _)
     | (with_reducible exact remoralaw09_light.mono _ _ _ _ _)
     | (with_reducible exact remoraref06_Check.mono _ _ _ _ _)
     | (with_reducible exact remoraref08_Same.mono _ _ _)
     | (with_reducible exact LeO.refl _)
     | (with_reducible exact LeO.none _)
     | (with_reducible refine LeO.ite ?_ ?_)
     | (with_reducible refine LeO.bind ?_ (fun _ => ?_))
     | exact ih0 _ _ _ _ _ _
     | exact ih1 _ _ _ _ _ _ _ _ _ _ _
     | exact delta_Cost.mono _ _
     | exact match_Of.mono _ _ _ _ _ _
     | exact remoralaw09_awake.mono _
     | exact remoralaw09_light.mono _ _ _ _ _
     | exact remoraref06_Check.mono _ _ _ _ _
     | exact remoraref08_Same.mono _ _ _
     | exact LeO.none _
     | refine LeO.ite ?_ ?_
     | refine LeO.bind ?_ (fun _ => ?_)
set_option maxHeartbeats 8000000 in
set_option maxRecDepth 100000 in
theorem remoralaw09_MatchCosts.calls (k : Nat) (a0_0 : Int) (a0_1 : Int) (a0_2 : Int) (A0_3 : Option Addr) (c0_3 : Nat) (l0_3 : List (S55)) (A1 : Option Addr) (c1 : Nat) (l1 : List Int) (r : Bool) (w : World) (hr0_3 : Kd.C k55 w A0_3 l0_3.length l0_3) (hc0_3 : l0_3.length ≤ c0_3) (hr1 : Kd.C (Kd.int .u8) w A1 l1.length l1) (hc1 : l1.length ≤ c1) (h : remoralaw09_MatchCosts.f k a0_0 a0_1 a0_2 l0_3 l1 = some r) :
    Calls Try.prog 6 #[.agg #[.int .i64 a0_0, .int .i64 a0_1, .int .i64 a0_2, .slice A0_3 l0_3.length c0_3], .slice A1 l1.length c1] w fun e w' => e = .returned (.bool r) ∧ Below w.heap.size w w' := by
 have hu24 := Try.underlying24
 have hu47 := Try.underlying47
 have HR0_3 := zA hr0_3
 have HC0_3 := zA hc0_3
 clear hr0_3 hc0_3
 have HR1 := zA hr1
 have HC1 := zA hc1
 clear hr1 hc1
 have HB := zA (Below.refl w.heap.size w)
 have H : ((remoralaw09_light.f k a0_0 a0_1 a0_2 l0_3).bind fun t184 => (if t184 = true then (remoralaw09_MatchCosts.j0 k l1 (decide ((l1.length : Int) > 1500)) a0_0 a0_1 a0_2 l0_3) else (remoralaw09_MatchCosts.j0 k l1 true a0_0 a0_1 a0_2 l0_3))) = some r := h
 clear h
 have HC3 := zA H
 clear H
 go_enter Try.func6, Try.ntmps6
 go_upto_region 1 with (first | ((with_reducible refine gate_dst (N := 2) rfl ?_); (try (refine gate_guard (by rfl) ?_; dsimp only)); refine box_event ?hg (N := 2) ?hd (cs := #[.int .i64 a0_0, .int .i64 a0_1, .int .i64 a0_2, .slice A0_3 l0_3.length c0_3]) (t := 24) ?hr ?_; (case hd => rfl); (case hg => rfl); (case hr => first | (go_simp; done) | (go_simp; rfl)); intro gb183 hg w4 hbox hb; have n0_ := zA (zb5 (by repeat (first | (with_reducible first | exact HB.out | apply zb3 | apply zb1 | apply zb2) | exact HB.out)) hb); have n1_ := zA (hbox); have n2_ := zA ((by rw [hg]; exact (zb6 (by repeat (first | (with_reducible first | exact HB.out | apply zb3 | apply zb1 | apply zb2) | exact HB.out))) : w.heap.size ≤ gb183)); have n3_ := zA ((by rw [hg]; exact (zb6 (by repeat (first | (with_reducible first | exact HB.out | apply zb3 | apply zb1 | apply zb2) | exact HB.out))) : w.heap.size ≤ gb183)); clear HB; have HB := n0_; have BK183 := n1_; have GW183 := n2_; have GE183 := n3_; clear n0_ n1_ n2_ n3_; clear hb hbox hg))
 (try simp only [Act.put, zs1, zs2, zs3])
 go_cut [18] (fun v18 wc => ∃ (kq : Nat) (x18_2 : Bool), v18 = .bool x18_2 ∧ Aside0 (remoralaw09_MatchCosts.j0 kq l1 x18_2 a0_0 a0_1 a0_2 l0_3 = some r) ∧ Aside0 (kq ≤ k) ∧ Aside0 (wc.heap[gb183]? = some (.cells #[.int .i64 a0_0, .int .i64 a0_1, .int .i64 a0_2, (.slice A0_3 l0_3.length c0_3)] 24 (0, 0))) ∧ Aside0 (Below w.heap.size w wc))
 case first =>
  have H := HC3.out
  clear HC3
  replace H := Option.bind_eq_some_iff.mp H
  obtain ⟨t184, A50, H⟩ := H
  replace H : (if t184 = true then (remoralaw09_MatchCosts.j0 k l1 (decide ((l1.length : Int) > 1500)) a0_0 a0_1 a0_2 l0_3) else (remoralaw09_MatchCosts.j0 k l1 true a0_0 a0_1 a0_2 l0_3)) = some r := H
  have A5 := zA A50
  clear A50
  by_cases c6 : t184 = true
  ·subst c6
   have H1 : (remoralaw09_MatchCosts.j0 k l1 (decide ((l1.length : Int) > 1500)) a0_0 a0_1 a0_2 l0_3) = some r := by rw [if_pos rfl] at H; exact H
   clear H
   have H := H1
   clear H1
   have H' := zA H
   clear H
   have hcz7_0 : w4.cell? ⟨gb183, 0, none⟩ = some (.int .i64 a0_0) := (zc1 BK183.out 0).trans rfl
   have hcz7_1 : w4.cell? ⟨gb183, 1, none⟩ = some (.int .i64 a0_1) := (zc1 BK183.out 1).trans rfl
   have hcz7_2 : w4.cell? ⟨gb183, 2, none⟩ = some (.int .i64 a0_2) := (zc1 BK183.out 2).trans rfl
   have hcz7_3 : w4.cell? ⟨gb183, 3, none⟩ = some (.slice A0_3 l0_3.length c0_3) := (zc1 BK183.out 3).trans rfl
   have hfz7_0 := zc5 BK183.out 0
   have hfz7_1 := zc5 BK183.out 1
   have hfz7_2 := zc5 BK183.out 2
   have hfz7_3 := zc5 BK183.out 3
   go_wp2_with (first | ((with_reducible refine gate_callee (f := 7) rfl ?_); refine goesL_ (some 12) rfl rfl Try.func7 (by kernel_rfl) rfl #[.agg #[.int .i64 a0_0, .int .i64 a0_1, .int .i64 a0_2, .slice A0_3 l0_3.length c0_3]] rfl (by (try simp only [zm1, zm2, zm3]); first | done | rfl | (simp only [List.length_drop, List.length_take]; rfl)) ?_; (with_reducible refine (remoralaw09_light.calls k a0_0 a0_1 a0_2 _ _ l0_3 true _ ?side1 ?side2 A5.out).mono ?_); (case side1 => repeat (first | exact (Kd.C_below HR0_3.out HB.out) | (with_reducible refine Kd.C_alloc ?_ _) | (with_reducible refine Kd.C_drewN ?_ _) | (with_reducible refine Kd.C_drew ?_))); (case side2 => exact HC0_3.out); rintro e w8 ⟨rfl, hb⟩; refine ⟨_, rfl, ?_⟩; have n0_ := zA (zc6 (g := gb183) (o := .cells #[.int .i64 a0_0, .int .i64 a0_1, .int .i64 a0_2, .slice A0_3 l0_3.length c0_3] 24 (0, 0)) (by (with_reducible repeat (first | refine zc3 ?_ _ | refine zc4 ?_ | refine zc2 ?_ _)); exact BK183.out) hb); have n1_ := zA (zb5 (by repeat (first | (with_reducible first | exact HB.out | apply zb3 | apply zb1 | apply zb2 | refine zb4 ?_ GE183.out) | exact HB.out)) hb); clear BK183; clear HB; have BK183 := n0_; have HB := n1_; clear n0_ n1_; (try clear hb); (try clear hb2); (try clear hk); (try clear hi)))
   go_meet
   case rel => exact ⟨_, (decide ((l1.length : Int) > 1500)), (by first | rfl | (simp; done) | (simp [*]; done)), H', ⟨by first | omega | exact Nat.le_refl _⟩, ⟨by (with_reducible repeat (first | refine zc3 ?_ _ | refine zc4 ?_ | refine zc2 ?_ _)); exact BK183.out⟩, ⟨by repeat (first | (with_reducible first | exact HB.out | apply zb3 | apply zb1 | apply zb2 | refine zb4 ?_ GE183.out) | exact HB.out)⟩⟩
  ·replace c6 := Bool.eq_false_iff.mpr c6
   subst c6
   have H1 : (remoralaw09_MatchCosts.j0 k l1 true a0_0 a0_1 a0_2 l0_3) = some r := by rw [if_neg (show ¬ (false = true) by decide)] at H; exact H
   clear H
   have H := H1
   clear H1
   have H' := zA H
   clear H
   have hcz9_0 : w4.cell? ⟨gb183, 0, none⟩ = some (.int .i64 a0_0) := (zc1 BK183.out 0).trans rfl
   have hcz9_1 : w4.cell? ⟨gb183, 1, none⟩ = some (.int .i64 a0_1) := (zc1 BK183.out 1).trans rfl
   have hcz9_2 : w4.cell? ⟨gb183, 2, none⟩ = some (.int .i64 a0_2) := (zc1 BK183.out 2).trans rfl
   have hcz9_3 : w4.cell? ⟨gb183, 3, none⟩ = some (.slice A0_3 l0_3.length c0_3) := (zc1 BK183.out 3).trans rfl
   have hfz9_0 := zc5 BK183.out 0
   have hfz9_1 := zc5 BK183.out 1
   have hfz9_2 := zc5 BK183.out 2
   have hfz9_3 := zc5 BK183.out 3
   go_wp2_with (first | ((with_reducible refine gate_callee (f := 7) rfl ?_); refine goesL_ (some 12) rfl rfl Try.func7 (by kernel_rfl) rfl #[.agg #[.int .i64 a0_0, .int .i64 a0_1, .int .i64 a0_2, .slice A0_3 l0_3.length c0_3]] rfl (by (try simp only [zm1, zm2, zm3]); first | done | rfl | (simp only [List.length_drop, List.length_take]; rfl)) ?_; (with_reducible refine (remoralaw09_light.calls k a0_0 a0_1 a0_2 _ _ l0_3 false _ ?side1 ?side2 A5.out).mono ?_); (case side1 => repeat (first | exact (Kd.C_below HR0_3.out HB.out) | (with_reducible refine Kd.C_alloc ?_ _) | (with_reducible refine Kd.C_drewN ?_ _) | (with_reducible refine Kd.C_drew ?_))); (case side2 => exact HC0_3.out); rintro e w10 ⟨rfl, hb⟩; refine ⟨_, rfl, ?_⟩; have n0_ := zA (zc6 (g := gb183) (o := .cells #[.int .i64 a0_0, .int .i64 a0_1, .int .i64 a0_2, .slice A0_3 l0_3.length c0_3] 24 (0, 0)) (by (with_reducible repeat (first | refine zc3 ?_ _ | refine zc4 ?_ | refine zc2 ?_ _)); exact BK183.out) hb); have n1_ := zA (zb5 (by repeat (first | (with_reducible first | exact HB.out | apply zb3 | apply zb1 | apply zb2 | refine zb4 ?_ GE183.out) | exact HB.out)) hb); clear BK183; clear HB; have BK183 := n0_; have HB := n1_; clear n0_ n1_; (try clear hb); (try clear hb2); (try clear hk); (try clear hi)))
   go_meet
   case rel => exact ⟨_, (true), (by first | rfl | (simp; done) | (simp [*]; done)), H', ⟨by first | omega | exact Nat.le_refl _⟩, ⟨by (with_reducible repeat (first | refine zc3 ?_ _ | refine zc4 ?_ | refine zc2 ?_ _)); exact BK183.out⟩, ⟨by repeat (first | (with_reducible first | exact HB.out | apply zb3 | apply zb1 | apply zb2 | refine zb4 ?_ GE183.out) | exact HB.out)⟩⟩
 case rest =>
  clear HC3
  try clear c1
  try clear p2
  try clear c6
  try clear c7
  try clear hcz7_0
  try clear hcz7_1
  try clear hcz7_2
  try clear hcz7_3
  try clear hcz9_0
  try clear hcz9_1
  try clear hcz9_2
  try clear hcz9_3
  try clear hfz7_0
  try clear hfz7_1
  try clear hfz7_2
  try clear hfz7_3
  try clear hfz9_0
  try clear hfz9_1
  try clear hfz9_2
  try clear hfz9_3
  obtain ⟨kq, x18_2, rfl, HA, HJ2, BK183, HB⟩ := hcut
  cases kq with
  | zero => exact absurd HA.out (by simp [remoralaw09_MatchCosts.j0])
  | succ kj2 =>
   have H := HA.out
   clear HA
   simp only [remoralaw09_MatchCosts.j0] at H
   by_cases c11 : x18_2 = true
   ·subst c11
    have H1 : ((remoralaw09_awake.f kj2).bind fun t185 => (some t185)) = some r := by rw [if_pos rfl] at H; exact H
    clear H
    have H := H1
    clear H1
    replace H := Option.bind_eq_some_iff.mp H
    obtain ⟨t185, A120, H⟩ := H
    replace H : (some t185) = some r := H
    have A12 := zA A120
    clear A120
    obtain rfl := Option.some.inj H
    go_wp2_with (first | ((with_reducible refine gate_callee (f := 8) rfl ?_); refine goesL_ (some 19) rfl rfl Try.func8 (by kernel_rfl) rfl #[] rfl (by (try simp only [zm1, zm2, zm3]); first | done | rfl | (simp only [List.length_drop, List.length_take]; rfl)) ?_; (with_reducible refine (remoralaw09_awake.calls kj2  t185 _ A12.out).mono ?_); rintro e w13 ⟨rfl, hb⟩; refine ⟨_, rfl, ?_⟩; have n0_ := zA (zc6 (g := gb183) (o := .cells #[.int .i64 a0_0, .int .i64 a0_1, .int .i64 a0_2, .slice A0_3 l0_3.length c0_3] 24 (0, 0)) (by (with_reducible repeat (first | refine zc3 ?_ _ | refine zc4 ?_ | refine zc2 ?_ _)); exact BK183.out) hb); have n1_ := zA (zb5 (by repeat (first | (with_reducible first | exact HB.out | apply zb3 | apply zb1 | apply zb2 | refine zb4 ?_ GE183.out) | exact HB.out)) hb); clear BK183; clear HB; have BK183 := n0_; have HB := n1_; clear n0_ n1_; (try clear hb); (try clear hb2); (try clear hk); (try clear hi)))
    go_ret
    exact ⟨by first | rfl | (simp [*] <;> rfl), by repeat (first | (with_reducible first | exact HB.out | apply zb3 | apply zb1 | apply zb2 | refine zb4 ?_ GE183.out) | exact HB.out)⟩
   ·replace c11 := Bool.eq_false_iff.mpr c11
    subst c11
    have H1 : ((match_Of.f kj2 a0_0 a0_1 a0_2 l0_3 l1).bind fun bt186 => (if bt186.2 = 0 then ((remoraref06_Check.f kj2 a0_0 a0_1 a0_2 l0_3).bind fun t192 => (if t192 = 0 then ((delta_Cost.f kj2 bt186.1).bind fun bt193 => (remoralaw09_MatchCosts.l0 kj2 l1 bt186.1 bt193.1 bt193.2 bt186.1 (bt186.1.length : Int) 0 a0_0 a0_1 a0_2 l0_3)) else (none))) else (if (bt186.1.length : Int) = 0 then ((remoraref06_Check.f kj2 a0_0 a0_1 a0_2 l0_3).bind fun t190 => (if bt186.2 = t190 then ((remoralaw09_awake.f kj2).bind fun t191 => (some t191)) else (none))) else (none)))) = some r := by rw [if_neg (show ¬ (false = true) by decide)] at H; exact H
    clear H
    have H := H1
    clear H1
    replace H := Option.bind_eq_some_iff.mp H
    obtain ⟨⟨t186, t189⟩, A140, H⟩ := H
    replace H : (if t189 = 0 then ((remoraref06_Check.f kj2 a0_0 a0_1 a0_2 l0_3).bind fun t192 => (if t192 = 0 then ((delta_Cost.f kj2 t186).bind fun bt193 => (remoralaw09_MatchCosts.l0 kj2 l1 t186 bt193.1 bt193.2 t186 (t186.length : Int) 0 a0_0 a0_1 a0_2 l0_3)) else (none))) else (if (t186.length : Int) = 0 then ((remoraref06_Check.f kj2 a0_0 a0_1 a0_2 l0_3).bind fun t190 => (if t189 = t190 then ((remoralaw09_awake.f kj2).bind fun t191 => (some t191)) else (none))) else (none))) = some r := H
    have A14 := zA A140
    clear A140
    by_cases c15 : t189 = 0
    ·rw [if_pos c15] at H
     have c15b0 : (t189 == 0) = true := beq_iff_eq.mpr c15
     have c15b1 : (t189 != 0) = false := bne_eq_false_iff_eq.mpr c15
     clear c15
     replace H := Option.bind_eq_some_iff.mp H
     obtain ⟨t192, A160, H⟩ := H
     replace H : (if t192 = 0 then ((delta_Cost.f kj2 t186).bind fun bt193 => (remoralaw09_MatchCosts.l0 kj2 l1 t186 bt193.1 bt193.2 t186 (t186.length : Int) 0 a0_0 a0_1 a0_2 l0_3)) else (none)) = some r := H
     have A16 := zA A160
     clear A160
     by_cases c17 : t192 = 0
     ·rw [if_pos c17] at H
      have c17b0 : (t192 == 0) = true := beq_iff_eq.mpr c17
      have c17b1 : (t192 != 0) = false := bne_eq_false_iff_eq.mpr c17
      clear c17
      replace H := Option.bind_eq_some_iff.mp H
      obtain ⟨⟨t193, t194⟩, A180, H⟩ := H
      replace H : (remoralaw09_MatchCosts.l0 kj2 l1 t186 t193 t194 t186 (t186.length : Int) 0 a0_0 a0_1 a0_2 l0_3) = some r := H
      have A18 := zA A180
      clear A180
      have H' := zA H
      clear H
      have hcz19_0 : wc.cell? ⟨gb183, 0, none⟩ = some (.int .i64 a0_0) := (zc1 BK183.out 0).trans rfl
      have hcz19_1 : wc.cell? ⟨gb183, 1, none⟩ = some (.int .i64 a0_1) := (zc1 BK183.out 1).trans rfl
      have hcz19_2 : wc.cell? ⟨gb183, 2, none⟩ = some (.int .i64 a0_2) := (zc1 BK183.out 2).trans rfl
      have hcz19_3 : wc.cell? ⟨gb183, 3, none⟩ = some (.slice A0_3 l0_3.length c0_3) := (zc1 BK183.out 3).trans rfl
      have hfz19_0 := zc5 BK183.out 0
      have hfz19_1 := zc5 BK183.out 1
      have hfz19_2 := zc5 BK183.out 2
      have hfz19_3 := zc5 BK183.out 3
      go_wp2_with (first | ((with_reducible refine gate_callee (f := 15) rfl ?_); refine goesL_ (some 23) rfl rfl Try.func15 (by kernel_rfl) rfl #[.agg #[.int .i64 a0_0, .int .i64 a0_1, .int .i64 a0_2, .slice A0_3 l0_3.length c0_3], .slice A1 l1.length c1] rfl (by (try simp only [zm1, zm2, zm3]); first | done | rfl | (simp only [List.length_drop, List.length_take]; rfl)) ?_; (with_reducible refine (match_Of.calls kj2 a0_0 a0_1 a0_2 _ _ l0_3 _ _ l1 t186 t189 _ ?side1 ?side2 ?side3 ?side4 A14.out).mono ?_); (case side1 => repeat (first | exact (Kd.C_below HR0_3.out HB.out) | (with_reducible refine Kd.C_alloc ?_ _) | (with_reducible refine Kd.C_drewN ?_ _) | (with_reducible refine Kd.C_drew ?_))); (case side2 => exact HC0_3.out); (case side3 => repeat (first | exact (Kd.C_below HR1.out HB.out) | (with_reducible refine Kd.C_alloc ?_ _) | (with_reducible refine Kd.C_drewN ?_ _) | (with_reducible refine Kd.C_drew ?_))); (case side4 => exact HC1.out); rintro e w20 ⟨v187, rfl, ho0, hb⟩; refine ⟨_, rfl, ?_⟩; have n0_ := zA (Kd.N_lower (Kd.N_mono (ok' := fun k_ => k_ ≠ gb183) ho0 (fun k_ hk_ => (Kd.freshB (g := gb183) (o := .cells #[.int .i64 a0_0, .int .i64 a0_1, .int .i64 a0_2, .slice A0_3 l0_3.length c0_3] 24 (0, 0)) (by (with_reducible repeat (first | refine zc3 ?_ _ | refine zc4 ?_ | refine zc2 ?_ _)); exact BK183.out) k_ hk_))) (zb6 (by repeat (first | (with_reducible first | exact HB.out | apply zb3 | apply zb1 | apply zb2 | refine zb4 ?_ GE183.out) | exact HB.out)))); have n1_ := zA (zc6 (g := gb183) (o := .cells #[.int .i64 a0_0, .int .i64 a0_1, .int .i64 a0_2, .slice A0_3 l0_3.length c0_3] 24 (0, 0)) (by (with_reducible repeat (first | refine zc3 ?_ _ | refine zc4 ?_ | refine zc2 ?_ _)); exact BK183.out) hb); have n2_ := zA (zb5 (by repeat (first | (with_reducible first | exact HB.out | apply zb3 | apply zb1 | apply zb2 | refine zb4 ?_ GE183.out) | exact HB.out)) hb); clear BK183; clear HB; have HO188 := n0_; have BK183 := n1_; have HB := n2_; clear n0_ n1_ n2_; (try clear hb); (try clear hb2); (try clear hk); (try clear hi); (try clear ho0); have hcz21_0 : w20.cell? ⟨gb183, 0, none⟩ = some (.int .i64 a0_0) := (zc1 BK183.out 0).trans rfl; have hcz21_1 : w20.cell? ⟨gb183, 1, none⟩ = some (.int .i64 a0_1) := (zc1 BK183.out 1).trans rfl; have hcz21_2 : w20.cell? ⟨gb183, 2, none⟩ = some (.int .i64 a0_2) := (zc1 BK183.out 2).trans rfl; have hcz21_3 : w20.cell? ⟨gb183, 3, none⟩ = some (.slice A0_3 l0_3.length c0_3) := (zc1 BK183.out 3).trans rfl; have hfz21_0 := zc5 BK183.out 0; have hfz21_1 := zc5 BK183.out 1; have hfz21_2 := zc5 BK183.out 2; have hfz21_3 := zc5 BK183.out 3) | ((with_reducible refine gate_callee (f := 10) rfl ?_); refine goesL_ (some 41) rfl rfl Try.func10 (by kernel_rfl) rfl #[.agg #[.int .i64 a0_0, .int .i64 a0_1, .int .i64 a0_2, .slice A0_3 l0_3.length c0_3]] rfl (by (try simp only [zm1, zm2, zm3]); first | done | rfl | (simp only [List.length_drop, List.length_take]; rfl)) ?_; (with_reducible refine (remoraref06_Check.calls kj2 a0_0 a0_1 a0_2 _ _ l0_3 t192 _ ?side1 ?side2 A16.out).mono ?_); (case side1 => repeat (first | exact (Kd.C_below HR0_3.out HB.out) | (with_reducible refine Kd.C_alloc ?_ _) | (with_reducible refine Kd.C_drewN ?_ _) | (with_reducible refine Kd.C_drew ?_))); (case side2 => exact HC0_3.out); rintro e w22 ⟨rfl, hb⟩; refine ⟨_, rfl, ?_⟩; have n0_ := zA (Kd.N_below (by (with_reducible repeat (first | apply Kd.N_alloc | apply Kd.N_drewN | apply Kd.N_drew)); exact HO188.out) hb); have n1_ := zA (zc6 (g := gb183) (o := .cells #[.int .i64 a0_0, .int .i64 a0_1, .int .i64 a0_2, .slice A0_3 l0_3.length c0_3] 24 (0, 0)) (by (with_reducible repeat (first | refine zc3 ?_ _ | refine zc4 ?_ | refine zc2 ?_ _)); exact BK183.out) hb); have n2_ := zA (zb5 (by repeat (first | (with_reducible first | exact HB.out | apply zb3 | apply zb1 | apply zb2 | refine zb4 ?_ GE183.out) | exact HB.out)) hb); clear HO188; clear BK183; clear HB; have HO188 := n0_; have BK183 := n1_; have HB := n2_; clear n0_ n1_ n2_; (try clear hb); (try clear hb2); (try clear hk); (try clear hi); obtain ⟨Ao23, co23, eo23⟩ := Kd.N_slice HO188.out; subst eo23) | ((with_reducible refine gate_callee (f := 20) rfl ?_); refine goesL_ (some 45) rfl rfl Try.func20 (by kernel_rfl) rfl #[.slice Ao23 t186.length co23] rfl (by (try simp only [zm1, zm2, zm3]); first | done | rfl | (simp only [List.length_drop, List.length_take]; rfl)) ?_; (with_reducible refine (delta_Cost.calls kj2 _ _ t186 t193 t194 _ ?side1 ?side2 A18.out).mono ?_); (case side1 => repeat (first | exact (Kd.N_reads' HO188.out).2.2 | (with_reducible refine Kd.C_alloc ?_ _) | (with_reducible refine Kd.C_drewN ?_ _) | (with_reducible refine Kd.C_drew ?_))); (case side2 => exact (Kd.N_reads' HO188.out).2.1); rintro e w24 ⟨rfl, hb⟩; refine ⟨_, rfl, ?_⟩; have n0_ := zA (Kd.N_below (by (with_reducible repeat (first | apply Kd.N_alloc | apply Kd.N_drewN | apply Kd.N_drew)); exact HO188.out) hb); have n1_ := zA (zc6 (g := gb183) (o := .cells #[.int .i64 a0_0, .int .i64 a0_1, .int .i64 a0_2, .slice A0_3 l0_3.length c0_3] 24 (0, 0)) (by (with_reducible repeat (first | refine zc3 ?_ _ | refine zc4 ?_ | refine zc2 ?_ _)); exact BK183.out) hb); have n2_ := zA (zb5 (by repeat (first | (with_reducible first | exact HB.out | apply zb3 | apply zb1 | apply zb2 | refine zb4 ?_ GE183.out) | exact HB.out)) hb); clear HO188; clear BK183; clear HB; have HO188 := n0_; have BK183 := n1_; have HB := n2_; clear n0_ n1_ n2_; (try clear hb); (try clear hb2); (try clear hk); (try clear hi)))
      go_loopg [50] kj2 (fun kq v50 w' => ∃ (x50_2 : Int), v50 = .int .i64 x50_2 ∧ Aside0 (remoralaw09_MatchCosts.l0 kq l1 t186 t193 t194 t186 (t186.length : Int) x50_2 a0_0 a0_1 a0_2 l0_3 = some r) ∧ Aside0 (kq ≤ kj2) ∧ Aside0 (Kd.N k47 47 w' w.heap.size (fun k_ => k_ ≠ gb183) (.slice Ao23 t186.length co23) t186) ∧ Aside0 (Kd.N k47 47 w' w.heap.size (fun k_ => k_ ≠ gb183) (.slice Ao23 t186.length co23) t186) ∧ Aside0 (w'.heap[gb183]? = some (.cells #[.int .i64 a0_0, .int .i64 a0_1, .int .i64 a0_2, (.slice A0_3 l0_3.length c0_3)] 24 (0, 0))) ∧ Aside0 (Below w.heap.size w w'))
      case atStart => exact ⟨(0), (by first | rfl | (simp; done) | (simp [*]; done)), H', ⟨Nat.le_refl _⟩, ⟨by (with_reducible repeat (first | apply Kd.N_alloc | apply Kd.N_drewN | apply Kd.N_drew)); exact HO188.out⟩, ⟨by (with_reducible repeat (first | apply Kd.N_alloc | apply Kd.N_drewN | apply Kd.N_drew)); exact HO188.out⟩, ⟨by (with_reducible repeat (first | refine zc3 ?_ _ | refine zc4 ?_ | refine zc2 ?_ _)); exact BK183.out⟩, ⟨by repeat (first | (with_reducible first | exact HB.out | apply zb3 | apply zb1 | apply zb2 | refine zb4 ?_ GE183.out) | exact HB.out)⟩⟩
      case round =>
       clear H'
       try clear c1
       try clear c2
       try clear p2
       try clear c6
       try clear c7
       try clear c8
       try clear c10
       try clear c11
       try clear c15
       try clear c15b0
       try clear c15b1
       try clear c17
       try clear c17b0
       try clear c17b1
       try clear c20
       try clear hcz19_0
       try clear hcz19_1
       try clear hcz19_2
       try clear hcz19_3
       try clear hcz21_0
       try clear hcz21_1
       try clear hcz21_2
       try clear hcz21_3
       try clear hcz7_0
       try clear hcz7_1
       try clear hcz7_2
       try clear hcz7_3
       try clear hcz9_0
       try clear hcz9_1
       try clear hcz9_2
       try clear hcz9_3
       try clear hfz19_0
       try clear hfz19_1
       try clear hfz19_2
       try clear hfz19_3
       try clear hfz21_0
       try clear hfz21_1
       try clear hfz21_2
       try clear hfz21_3
       try clear hfz7_0
       try clear hfz7_1
       try clear hfz7_2
       try clear hfz7_3
       try clear hfz9_0
       try clear hfz9_1
       try clear hfz9_2
       try clear hfz9_3
       try clear p2
       obtain ⟨x50_2, rfl, HA, HK2, HO_5, HO_48, BK183, HB⟩ := hrel
       cases gk with
       | zero => exact absurd HA.out (by simp [remoralaw09_MatchCosts.l0])
       | succ k2 =>
        have H := HA.out
        clear HA
        simp only [remoralaw09_MatchCosts.l0] at H
        by_cases c25 : x50_2 < (t186.length : Int)
        ·rw [if_pos c25] at H
         have c25b0 : decide (x50_2 < (t186.length : Int)) = true := zd1 c25
         clear c25
         by_cases c26 : 0 ≤ x50_2
         ·rw [if_pos c26] at H
          have c26b0 : decide (0 ≤ x50_2) = true := zd1 c26
          clear c26
          by_cases c27 : x50_2 < (t186.length : Int)
          ·rw [if_pos c27] at H
           have c27b0 : decide (x50_2 < (t186.length : Int)) = true := zd1 c27
           clear c27
           by_cases c28 : (((rd_T47 t186 x50_2).f2).length : Int) = 0
           ·rw [if_pos c28] at H
            have c28b0 : ((((rd_T47 t186 x50_2).f2).length : Int) == 0) = true := beq_iff_eq.mpr c28
            have c28b1 : ((((rd_T47 t186 x50_2).f2).length : Int) != 0) = false := bne_eq_false_iff_eq.mpr c28
            clear c28
            by_cases c29 : ((rd_T47 t186 x50_2).f1) < 1
            ·rw [if_pos c29] at H
             exact absurd H (by simp)
            ·rw [if_neg c29] at H
             have c29b0 : decide (((rd_T47 t186 x50_2).f1) < 1) = false := zd2 c29
             clear c29
             by_cases c30 : ((rd_T47 t186 x50_2).f0) < 0
             ·rw [if_pos c30] at H
              exact absurd H (by simp)
             ·rw [if_neg c30] at H
              have c30b0 : decide (((rd_T47 t186 x50_2).f0) < 0) = false := zd2 c30
              clear c30
              by_cases c31 : a0_1 = 0
              ·rw [if_pos c31] at H
               exact absurd H (by simp)
              ·rw [if_neg c31] at H
               have c31b0 : (a0_1 == 0) = false := beq_eq_false_iff_ne.mpr c31
               have c31b1 : (a0_1 != 0) = true := bne_iff_ne.mpr c31
               by_cases c32 : (Int.tmod ((rd_T47 t186 x50_2).f0) a0_1) = 0
               ·rw [if_pos c32] at H
                have c32b0 : ((Int.tmod ((rd_T47 t186 x50_2).f0) a0_1) == 0) = true := beq_iff_eq.mpr c32
                have c32b1 : ((Int.tmod ((rd_T47 t186 x50_2).f0) a0_1) != 0) = false := bne_eq_false_iff_eq.mpr c32
                clear c32
                by_cases c33 : (wrap64 (((rd_T47 t186 x50_2).f0) + ((rd_T47 t186 x50_2).f1))) > a0_0
                ·rw [if_pos c33] at H
                 exact absurd H (by simp)
                ·rw [if_neg c33] at H
                 have c33b0 : decide (a0_0 < (wrap64 (((rd_T47 t186 x50_2).f0) + ((rd_T47 t186 x50_2).f1)))) = false := zd2 c33
                 clear c33
                 have H' := zA H
                 clear H
                 have p195 : 0 ≤ (x50_2 : Int) := zd3 (by first | (with_reducible assumption) | assumption)
                 have q195 : x50_2 < (t186.length : Int) := zd3 (by first | (with_reducible assumption) | assumption)
                 obtain ⟨ad195, A195_2, c195_2, e195, hx195_0, hx195_1, hx195_2, hl195_2, hi195_2⟩ := at_T47 (Kd.N_reads' HO_48.out).2.2 x50_2 p195 q195
                 cases e195
                 obtain ⟨ce195, hce195, hMe195, hcc195⟩ := Kd.N_get HO_48.out z47 x50_2 p195 (by first | exact q195 | exact zd3 (by first | (with_reducible assumption) | assumption) | (have e_ := (Kd.N_reads' HO_48.out).1; omega))
                 obtain ⟨ua195_2, uc195_2, rfl, ul195_2, ge195_2⟩ := k47_openF hMe195
                 have hv195_2 := hcc195 2 _ rfl
                 rw [add_field _ _ 2 (by omega)] at hv195_2
                 replace hv195_2 := Option.some.inj (hv195_2.symm.trans hx195_2)
                 injection hv195_2 with hva_ hvn_ hvc_
                 rw [hva_] at ge195_2
                 rw [hvc_] at ul195_2
                 have HL195_2 := zA (show Kd.V (Kd.int .u8) 5 _ w.heap.size _ _ ((rd_T47 t186 x50_2).f2) from Kd.V_mk ul195_2 ge195_2)
                 clear hva_ hvn_ hvc_ ge195_2 ul195_2
                 clear hcc195 hce195
                 have HR195_2 := zA hi195_2
                 have HC195_2 := zA hl195_2
                 clear hi195_2 hl195_2
                 replace p195 := eq_true p195
                 replace q195 := eq_true q195
                 go_wp2_with (first | ((with_reducible refine gate_dst (N := 10) rfl ?_); (try (refine gate_guard (by rfl) ?_; dsimp only)); refine box_event ?hg (N := 10) ?hd (cs := #[.int .i64 0, .int .i64 0, .slice none 0 0]) (t := 47) ?hr ?_; (case hd => rfl); (case hg => rfl); (case hr => first | (go_simp; done) | (go_simp; rfl)); intro gb196 hg w34 hbox hb; have n0_ := zA (Kd.N_below (Kd.N_elderB (by (with_reducible repeat (first | apply Kd.N_alloc | apply Kd.N_drewN | apply Kd.N_drew)); exact HO_5.out) gb196 (Nat.le_of_eq hg.symm)) hb); have n1_ := zA (Kd.N_below (Kd.N_elderB (by (with_reducible repeat (first | apply Kd.N_alloc | apply Kd.N_drewN | apply Kd.N_drew)); exact HO_48.out) gb196 (Nat.le_of_eq hg.symm)) hb); have n2_ := zA (Kd.V_below (Kd.V_elderB (by (with_reducible repeat (first | apply Kd.V_alloc | apply Kd.V_drewN | apply Kd.V_drew)); exact HL195_2.out) gb196 (Nat.le_of_eq hg.symm)) hb); have n3_ := zA (zc6 (g := gb183) (o := .cells #[.int .i64 a0_0, .int .i64 a0_1, .int .i64 a0_2, .slice A0_3 l0_3.length c0_3] 24 (0, 0)) (by (with_reducible repeat (first | refine zc3 ?_ _ | refine zc4 ?_ | refine zc2 ?_ _)); exact BK183.out) hb); have n4_ := zA (Kd.C_below (by repeat (first | (with_reducible exact HR195_2.out) | (with_reducible refine Kd.C_alloc ?_ _) | (with_reducible refine Kd.C_drewN ?_ _) | (with_reducible refine Kd.C_drew ?_) | exact HR195_2.out)) hb); have n5_ := zA (zb5 (by repeat (first | (with_reducible first | exact HB.out | apply zb3 | apply zb1 | apply zb2 | refine zb4 ?_ GE183.out) | exact HB.out)) hb); have n6_ := zA (hbox); have n7_ := zA ((by rw [hg]; exact (zb6 (by repeat (first | (with_reducible first | exact HB.out | apply zb3 | apply zb1 | apply zb2 | refine zb4 ?_ GE183.out) | exact HB.out))) : w.heap.size ≤ gb196)); have n8_ := zA ((by rw [hg]; exact (zb6 (by repeat (first | (with_reducible first | exact HB.out | apply zb3 | apply zb1 | apply zb2 | refine zb4 ?_ GE183.out) | exact HB.out))) : w.heap.size ≤ gb196)); have n9_ := zA ((by rw [hg]; exact Nat.ne_of_lt (blk_lt (g := gb183) (o := .cells #[.int .i64 a0_0, .int .i64 a0_1, .int .i64 a0_2, .slice A0_3 l0_3.length c0_3] 24 (0, 0)) (by (with_reducible repeat (first | refine zc3 ?_ _ | refine zc4 ?_ | refine zc2 ?_ _)); exact BK183.out)) : gb183 ≠ gb196)); have n10_ := zA ((by rw [hg]; exact Nat.ne_of_gt (blk_lt (g := gb183) (o := .cells #[.int .i64 a0_0, .int .i64 a0_1, .int .i64 a0_2, .slice A0_3 l0_3.length c0_3] 24 (0, 0)) (by (with_reducible repeat (first | refine zc3 ?_ _ | refine zc4 ?_ | refine zc2 ?_ _)); exact BK183.out)) : gb196 ≠ gb183)); clear HO_5; clear HO_48; clear HL195_2; clear BK183; clear HR195_2; clear HB; have HO_5 := n0_; have HO_48 := n1_; have HL195_2 := n2_; have BK183 := n3_; have HR195_2 := n4_; have HB := n5_; have BK196 := n6_; have GW196 := n7_; have GE196 := n8_; have NB183_196 := n9_; have NB196_183 := n10_; clear n0_ n1_ n2_ n3_ n4_ n5_ n6_ n7_ n8_ n9_ n10_; clear hb hbox hg; have hnb35 := NB196_183.out; have hnc35 := NB183_196.out; have hcz36_0 : w34.cell? ⟨gb196, 0, none⟩ = some (.int .i64 0) := (zc1 BK196.out 0).trans rfl; have hcz36_1 : w34.cell? ⟨gb196, 1, none⟩ = some (.int .i64 0) := (zc1 BK196.out 1).trans rfl; have hcz36_2 : w34.cell? ⟨gb196, 2, none⟩ = some (.slice none 0 0) := (zc1 BK196.out 2).trans rfl; have hfz36_0 := zc5 BK196.out 0; have hfz36_1 := zc5 BK196.out 1; have hfz36_2 := zc5 BK196.out 2; have hcz37_0 : w34.cell? ⟨gb183, 0, none⟩ = some (.int .i64 a0_0) := (zc1 BK183.out 0).trans rfl; have hcz37_1 : w34.cell? ⟨gb183, 1, none⟩ = some (.int .i64 a0_1) := (zc1 BK183.out 1).trans rfl; have hcz37_2 : w34.cell? ⟨gb183, 2, none⟩ = some (.int .i64 a0_2) := (zc1 BK183.out 2).trans rfl; have hcz37_3 : w34.cell? ⟨gb183, 3, none⟩ = some (.slice A0_3 l0_3.length c0_3) := (zc1 BK183.out 3).trans rfl; have hfz37_0 := zc5 BK183.out 0; have hfz37_1 := zc5 BK183.out 1; have hfz37_2 := zc5 BK183.out 2; have hfz37_3 := zc5 BK183.out 3))
                 go_roundg k2
                 case measure => have := HJ2.out; have := HK2.out; omega
                 case rel => exact ⟨(wrap64 (x50_2 + 1)), (by first | rfl | (simp; done) | (simp [*]; done)), H', ⟨by have := HJ2.out; have := HK2.out; omega⟩, ⟨by (with_reducible repeat (first | apply Kd.N_alloc | apply Kd.N_drewN | apply Kd.N_drew)); exact Kd.N_mono (Kd.N_far (p := ⟨gb196, 2, none⟩) (Kd.N_far (p := ⟨gb196, 1, none⟩) (Kd.N_far (p := ⟨gb196, 0, none⟩) (Kd.N_mono HO_5.out (fun k_ hk => (⟨hk, hk.2⟩ : _ ∧ k_ ≠ gb196))) (fun _ hk => hk.2) (.int .i64 ((rd_T47 t186 x50_2).f0))) (fun _ hk => hk.2) (.int .i64 ((rd_T47 t186 x50_2).f1))) (fun _ hk => hk.2) (.slice A195_2 ((rd_T47 t186 x50_2).f2).length c195_2)) (fun _ hk => hk.1.1)⟩, ⟨by (with_reducible repeat (first | apply Kd.N_alloc | apply Kd.N_drewN | apply Kd.N_drew)); exact Kd.N_mono (Kd.N_far (p := ⟨gb196, 2, none⟩) (Kd.N_far (p := ⟨gb196, 1, none⟩) (Kd.N_far (p := ⟨gb196, 0, none⟩) (Kd.N_mono HO_48.out (fun k_ hk => (⟨hk, hk.2⟩ : _ ∧ k_ ≠ gb196))) (fun _ hk => hk.2) (.int .i64 ((rd_T47 t186 x50_2).f0))) (fun _ hk => hk.2) (.int .i64 ((rd_T47 t186 x50_2).f1))) (fun _ hk => hk.2) (.slice A195_2 ((rd_T47 t186 x50_2).f2).length c195_2)) (fun _ hk => hk.1.1)⟩, ⟨by (with_reducible repeat (first | refine zc3 ?_ _ | refine zc4 ?_ | refine zc2 ?_ _)); refine zc7 ?_ NB183_196.out _; (with_reducible repeat (first | refine zc3 ?_ _ | refine zc4 ?_ | refine zc2 ?_ _)); refine zc7 ?_ NB183_196.out _; (with_reducible repeat (first | refine zc3 ?_ _ | refine zc4 ?_ | refine zc2 ?_ _)); refine zc7 ?_ NB183_196.out _; (with_reducible repeat (first | refine zc3 ?_ _ | refine zc4 ?_ | refine zc2 ?_ _)); exact BK183.out⟩, ⟨by repeat (first | (with_reducible first | exact HB.out | apply zb3 | apply zb1 | apply zb2 | refine zb4 ?_ GE183.out | refine zb4 ?_ GE196.out) | exact HB.out)⟩⟩
               ·rw [if_neg c32] at H
                exact absurd H (by simp)
           ·rw [if_neg c28] at H
            have c28b0 : ((((rd_T47 t186 x50_2).f2).length : Int) == 0) = false := beq_eq_false_iff_ne.mpr c28
            have c28b1 : ((((rd_T47 t186 x50_2).f2).length : Int) != 0) = true := bne_iff_ne.mpr c28
            have c28b2 : ¬ (((rd_T47 t186 x50_2).f2) = []) := fun h_ => c28 (by rw [h_]; rfl)
            have H' := zA H
            clear H
            have p195 : 0 ≤ (x50_2 : Int) := zd3 (by first | (with_reducible assumption) | assumption)
            have q195 : x50_2 < (t186.length : Int) := zd3 (by first | (with_reducible assumption) | assumption)
            obtain ⟨ad195, A195_2, c195_2, e195, hx195_0, hx195_1, hx195_2, hl195_2, hi195_2⟩ := at_T47 (Kd.N_reads' HO_48.out).2.2 x50_2 p195 q195
            cases e195
            obtain ⟨ce195, hce195, hMe195, hcc195⟩ := Kd.N_get HO_48.out z47 x50_2 p195 (by first | exact q195 | exact zd3 (by first | (with_reducible assumption) | assumption) | (have e_ := (Kd.N_reads' HO_48.out).1; omega))
            obtain ⟨ua195_2, uc195_2, rfl, ul195_2, ge195_2⟩ := k47_openF hMe195
            have hv195_2 := hcc195 2 _ rfl
            rw [add_field _ _ 2 (by omega)] at hv195_2
            replace hv195_2 := Option.some.inj (hv195_2.symm.trans hx195_2)
            injection hv195_2 with hva_ hvn_ hvc_
            rw [hva_] at ge195_2
            rw [hvc_] at ul195_2
            have HL195_2 := zA (show Kd.V (Kd.int .u8) 5 _ w.heap.size _ _ ((rd_T47 t186 x50_2).f2) from Kd.V_mk ul195_2 ge195_2)
            clear hva_ hvn_ hvc_ ge195_2 ul195_2
            clear hcc195 hce195
            have HR195_2 := zA hi195_2
            have HC195_2 := zA hl195_2
            clear hi195_2 hl195_2
            replace p195 := eq_true p195
            replace q195 := eq_true q195
            go_wp2_with (first | ((with_reducible refine gate_dst (N := 10) rfl ?_); (try (refine gate_guard (by rfl) ?_; dsimp only)); refine box_event ?hg (N := 10) ?hd (cs := #[.int .i64 0, .int .i64 0, .slice none 0 0]) (t := 47) ?hr ?_; (case hd => rfl); (case hg => rfl); (case hr => first | (go_simp; done) | (go_simp; rfl)); intro gb196 hg w38 hbox hb; have n0_ := zA (Kd.N_below (Kd.N_elderB (by (with_reducible repeat (first | apply Kd.N_alloc | apply Kd.N_drewN | apply Kd.N_drew)); exact HO_5.out) gb196 (Nat.le_of_eq hg.symm)) hb); have n1_ := zA (Kd.N_below (Kd.N_elderB (by (with_reducible repeat (first | apply Kd.N_alloc | apply Kd.N_drewN | apply Kd.N_drew)); exact HO_48.out) gb196 (Nat.le_of_eq hg.symm)) hb); have n2_ := zA (Kd.V_below (Kd.V_elderB (by (with_reducible repeat (first | apply Kd.V_alloc | apply Kd.V_drewN | apply Kd.V_drew)); exact HL195_2.out) gb196 (Nat.le_of_eq hg.symm)) hb); have n3_ := zA (zc6 (g := gb183) (o := .cells #[.int .i64 a0_0, .int .i64 a0_1, .int .i64 a0_2, .slice A0_3 l0_3.length c0_3] 24 (0, 0)) (by (with_reducible repeat (first | refine zc3 ?_ _ | refine zc4 ?_ | refine zc2 ?_ _)); exact BK183.out) hb); have n4_ := zA (Kd.C_below (by repeat (first | (with_reducible exact HR195_2.out) | (with_reducible refine Kd.C_alloc ?_ _) | (with_reducible refine Kd.C_drewN ?_ _) | (with_reducible refine Kd.C_drew ?_) | exact HR195_2.out)) hb); have n5_ := zA (zb5 (by repeat (first | (with_reducible first | exact HB.out | apply zb3 | apply zb1 | apply zb2 | refine zb4 ?_ GE183.out) | exact HB.out)) hb); have n6_ := zA (hbox); have n7_ := zA ((by rw [hg]; exact (zb6 (by repeat (first | (with_reducible first | exact HB.out | apply zb3 | apply zb1 | apply zb2 | refine zb4 ?_ GE183.out) | exact HB.out))) : w.heap.size ≤ gb196)); have n8_ := zA ((by rw [hg]; exact (zb6 (by repeat (first | (with_reducible first | exact HB.out | apply zb3 | apply zb1 | apply zb2 | refine zb4 ?_ GE183.out) | exact HB.out))) : w.heap.size ≤ gb196)); have n9_ := zA ((by rw [hg]; exact Nat.ne_of_lt (blk_lt (g := gb183) (o := .cells #[.int .i64 a0_0, .int .i64 a0_1, .int .i64 a0_2, .slice A0_3 l0_3.length c0_3] 24 (0, 0)) (by (with_reducible repeat (first | refine zc3 ?_ _ | refine zc4 ?_ | refine zc2 ?_ _)); exact BK183.out)) : gb183 ≠ gb196)); have n10_ := zA ((by rw [hg]; exact Nat.ne_of_gt (blk_lt (g := gb183) (o := .cells #[.int .i64 a0_0, .int .i64 a0_1, .int .i64 a0_2, .slice A0_3 l0_3.length c0_3] 24 (0, 0)) (by (with_reducible repeat (first | refine zc3 ?_ _ | refine zc4 ?_ | refine zc2 ?_ _)); exact BK183.out)) : gb196 ≠ gb183)); clear HO_5; clear HO_48; clear HL195_2; clear BK183; clear HR195_2; clear HB; have HO_5 := n0_; have HO_48 := n1_; have HL195_2 := n2_; have BK183 := n3_; have HR195_2 := n4_; have HB := n5_; have BK196 := n6_; have GW196 := n7_; have GE196 := n8_; have NB183_196 := n9_; have NB196_183 := n10_; clear n0_ n1_ n2_ n3_ n4_ n5_ n6_ n7_ n8_ n9_ n10_; clear hb hbox hg; have hnb39 := NB196_183.out; have hnc39 := NB183_196.out; have hcz40_0 : w38.cell? ⟨gb196, 0, none⟩ = some (.int .i64 0) := (zc1 BK196.out 0).trans rfl; have hcz40_1 : w38.cell? ⟨gb196, 1, none⟩ = some (.int .i64 0) := (zc1 BK196.out 1).trans rfl; have hcz40_2 : w38.cell? ⟨gb196, 2, none⟩ = some (.slice none 0 0) := (zc1 BK196.out 2).trans rfl; have hfz40_0 := zc5 BK196.out 0; have hfz40_1 := zc5 BK196.out 1; have hfz40_2 := zc5 BK196.out 2))
            go_roundg k2
            case measure => have := HJ2.out; have := HK2.out; omega
            case rel => exact ⟨(wrap64 (x50_2 + 1)), (by first | rfl | (simp; done) | (simp [*]; done)), H', ⟨by have := HJ2.out; have := HK2.out; omega⟩, ⟨by (with_reducible repeat (first | apply Kd.N_alloc | apply Kd.N_drewN | apply Kd.N_drew)); exact Kd.N_mono (Kd.N_far (p := ⟨gb196, 2, none⟩) (Kd.N_far (p := ⟨gb196, 1, none⟩) (Kd.N_far (p := ⟨gb196, 0, none⟩) (Kd.N_mono HO_5.out (fun k_ hk => (⟨hk, hk.2⟩ : _ ∧ k_ ≠ gb196))) (fun _ hk => hk.2) (.int .i64 ((rd_T47 t186 x50_2).f0))) (fun _ hk => hk.2) (.int .i64 ((rd_T47 t186 x50_2).f1))) (fun _ hk => hk.2) (.slice A195_2 ((rd_T47 t186 x50_2).f2).length c195_2)) (fun _ hk => hk.1.1)⟩, ⟨by (with_reducible repeat (first | apply Kd.N_alloc | apply Kd.N_drewN | apply Kd.N_drew)); exact Kd.N_mono (Kd.N_far (p := ⟨gb196, 2, none⟩) (Kd.N_far (p := ⟨gb196, 1, none⟩) (Kd.N_far (p := ⟨gb196, 0, none⟩) (Kd.N_mono HO_48.out (fun k_ hk => (⟨hk, hk.2⟩ : _ ∧ k_ ≠ gb196))) (fun _ hk => hk.2) (.int .i64 ((rd_T47 t186 x50_2).f0))) (fun _ hk => hk.2) (.int .i64 ((rd_T47 t186 x50_2).f1))) (fun _ hk => hk.2) (.slice A195_2 ((rd_T47 t186 x50_2).f2).length c195_2)) (fun _ hk => hk.1.1)⟩, ⟨by (with_reducible repeat (first | refine zc3 ?_ _ | refine zc4 ?_ | refine zc2 ?_ _)); refine zc7 ?_ NB183_196.out _; (with_reducible repeat (first | refine zc3 ?_ _ | refine zc4 ?_ | refine zc2 ?_ _)); refine zc7 ?_ NB183_196.out _; (with_reducible repeat (first | refine zc3 ?_ _ | refine zc4 ?_ | refine zc2 ?_ _)); refine zc7 ?_ NB183_196.out _; (with_reducible repeat (first | refine zc3 ?_ _ | refine zc4 ?_ | refine zc2 ?_ _)); exact BK183.out⟩, ⟨by repeat (first | (with_reducible first | exact HB.out | apply zb3 | apply zb1 | apply zb2 | refine zb4 ?_ GE183.out | refine zb4 ?_ GE196.out) | exact HB.out)⟩⟩
          ·rw [if_neg c27] at H
           exact absurd H (by simp)
         ·rw [if_neg c26] at H
          exact absurd H (by simp)
        ·rw [if_neg c25] at H
         have c25b0 : decide (x50_2 < (t186.length : Int)) = false := zd2 c25
         clear c25
         by_cases c41 : (wrap64 (t193 + t194)) = (l1.length : Int)
         ·rw [if_pos c41] at H
          have c41b0 : ((wrap64 (t193 + t194)) == (l1.length : Int)) = true := beq_iff_eq.mpr c41
          have c41b1 : ((wrap64 (t193 + t194)) != (l1.length : Int)) = false := bne_eq_false_iff_eq.mpr c41
          clear c41
          replace H := Option.bind_eq_some_iff.mp H
          obtain ⟨t197, A420, H⟩ := H
          replace H : ((remoraref08_Same.f k2 t197 t186).bind fun t200 => (if t200 = true then ((remoralaw09_awake.f k2).bind fun t201 => (some t201)) else (none))) = some r := H
          have A42 := zA A420
          clear A420
          replace H := Option.bind_eq_some_iff.mp H
          obtain ⟨t200, A430, H⟩ := H
          replace H : (if t200 = true then ((remoralaw09_awake.f k2).bind fun t201 => (some t201)) else (none)) = some r := H
          have A43 := zA A430
          clear A430
          by_cases c44 : t200 = true
          ·subst c44
           have H1 : ((remoralaw09_awake.f k2).bind fun t201 => (some t201)) = some r := by rw [if_pos rfl] at H; exact H
           clear H
           have H := H1
           clear H1
           replace H := Option.bind_eq_some_iff.mp H
           obtain ⟨t201, A450, H⟩ := H
           replace H : (some t201) = some r := H
           have A45 := zA A450
           clear A450
           obtain rfl := Option.some.inj H
           go_wp2_with (first | (go_at_call 17; (with_reducible refine (remoraref08_Norm.calls _ _ t186 t197 _ ?side1 ?side2 A42.out).mono ?_); (case side1 => repeat (first | exact (Kd.N_reads' HO_5.out).2.2 | (with_reducible refine Kd.C_alloc ?_ _) | (with_reducible refine Kd.C_drewN ?_ _) | (with_reducible refine Kd.C_drew ?_))); (case side2 => exact (Kd.N_reads' HO_5.out).2.1); rintro e w46 ⟨v198, rfl, ho0, hb⟩; have n0_ := zA (Kd.N_elder' (by (with_reducible repeat (first | apply Kd.N_alloc | apply Kd.N_drewN | apply Kd.N_drew)); exact HO_5.out) (by first | exact Kd.N_base ho0 | exact Kd.S_base ho0 | exact Kd.R_base ho0) hb); have n1_ := zA (Kd.N_elder' (by (with_reducible repeat (first | apply Kd.N_alloc | apply Kd.N_drewN | apply Kd.N_drew)); exact HO_48.out) (by first | exact Kd.N_base ho0 | exact Kd.S_base ho0 | exact Kd.R_base ho0) hb); have n2_ := zA (Kd.N_lower (Kd.N_mono (ok' := fun k_ => some k_ ≠ (.slice Ao23 t186.length co23 : Value).ownBlock ∧ some k_ ≠ (.slice Ao23 t186.length co23 : Value).ownBlock ∧ k_ ≠ gb183) ho0 (fun k_ hk_ => ⟨(Kd.fresh' (Kd.N_lt (by (with_reducible repeat (first | apply Kd.N_alloc | apply Kd.N_drewN | apply Kd.N_drew)); exact HO_5.out)) k_ hk_), (Kd.fresh' (Kd.N_lt (by (with_reducible repeat (first | apply Kd.N_alloc | apply Kd.N_drewN | apply Kd.N_drew)); exact HO_48.out)) k_ hk_), (Kd.freshB (g := gb183) (o := .cells #[.int .i64 a0_0, .int .i64 a0_1, .int .i64 a0_2, .slice A0_3 l0_3.length c0_3] 24 (0, 0)) (by (with_reducible repeat (first | refine zc3 ?_ _ | refine zc4 ?_ | refine zc2 ?_ _)); exact BK183.out) k_ hk_)⟩)) (zb6 (by repeat (first | (with_reducible first | exact HB.out | apply zb3 | apply zb1 | apply zb2 | refine zb4 ?_ GE183.out) | exact HB.out)))); have n3_ := zA (zc6 (g := gb183) (o := .cells #[.int .i64 a0_0, .int .i64 a0_1, .int .i64 a0_2, .slice A0_3 l0_3.length c0_3] 24 (0, 0)) (by (with_reducible repeat (first | refine zc3 ?_ _ | refine zc4 ?_ | refine zc2 ?_ _)); exact BK183.out) hb); have n4_ := zA (zb5 (by repeat (first | (with_reducible first | exact HB.out | apply zb3 | apply zb1 | apply zb2 | refine zb4 ?_ GE183.out) | exact HB.out)) hb); clear HO_5; clear HO_48; clear BK183; clear HB; have HO_5 := n0_; have HO_48 := n1_; have HO199 := n2_; have BK183 := n3_; have HB := n4_; clear n0_ n1_ n2_ n3_ n4_; (try clear hb); (try clear hb2); (try clear hk); (try clear hi); (try clear ho0); obtain ⟨Ao47, co47, eo47⟩ := Kd.N_slice HO199.out; subst eo47) | (go_at_call 16; (with_reducible refine (remoraref08_Same.calls k2 _ _ t197 _ _ t186 true _ ?side1 ?side2 ?side3 ?side4 A43.out).mono ?_); (case side1 => repeat (first | exact (Kd.N_reads' HO199.out).2.2 | (with_reducible refine Kd.C_alloc ?_ _) | (with_reducible refine Kd.C_drewN ?_ _) | (with_reducible refine Kd.C_drew ?_))); (case side2 => exact (Kd.N_reads' HO199.out).2.1); (case side3 => repeat (first | exact (Kd.N_reads' HO_5.out).2.2 | (with_reducible refine Kd.C_alloc ?_ _) | (with_reducible refine Kd.C_drewN ?_ _) | (with_reducible refine Kd.C_drew ?_))); (case side4 => exact (Kd.N_reads' HO_5.out).2.1); rintro e w' ⟨rfl, ⟨nd, rfl⟩⟩) | (go_at_call 8; (with_reducible refine (remoralaw09_awake.calls k2  t201 _ A45.out).mono ?_); rintro e w48 ⟨rfl, hb⟩; have n0_ := zA (Kd.N_below (by (with_reducible repeat (first | apply Kd.N_alloc | apply Kd.N_drewN | apply Kd.N_drew)); exact HO_5.out) hb); have n1_ := zA (Kd.N_below (by (with_reducible repeat (first | apply Kd.N_alloc | apply Kd.N_drewN | apply Kd.N_drew)); exact HO_48.out) hb); have n2_ := zA (Kd.N_below (by (with_reducible repeat (first | apply Kd.N_alloc | apply Kd.N_drewN | apply Kd.N_drew)); exact HO199.out) hb); have n3_ := zA (zc6 (g := gb183) (o := .cells #[.int .i64 a0_0, .int .i64 a0_1, .int .i64 a0_2, .slice A0_3 l0_3.length c0_3] 24 (0, 0)) (by (with_reducible repeat (first | refine zc3 ?_ _ | refine zc4 ?_ | refine zc2 ?_ _)); exact BK183.out) hb); have n4_ := zA (zb5 (by repeat (first | (with_reducible first | exact HB.out | apply zb3 | apply zb1 | apply zb2 | refine zb4 ?_ GE183.out) | exact HB.out)) hb); clear HO_5; clear HO_48; clear HO199; clear BK183; clear HB; have HO_5 := n0_; have HO_48 := n1_; have HO199 := n2_; have BK183 := n3_; have HB := n4_; clear n0_ n1_ n2_ n3_ n4_; (try clear hb); (try clear hb2); (try clear hk); (try clear hi)))
           go_ret
           exact ⟨by first | rfl | (simp [*] <;> rfl), by repeat (first | (with_reducible first | exact HB.out | apply zb3 | apply zb1 | apply zb2 | refine zb4 ?_ GE183.out) | exact HB.out)⟩
          ·replace c44 := Bool.eq_false_iff.mpr c44
           subst c44
           have H1 : (none) = some r := by rw [if_neg (show ¬ (false = true) by decide)] at H; exact H
           clear H
           have H := H1
           clear H1
           exact absurd H (by simp)
         ·rw [if_neg c41] at H
          exact absurd H (by simp)
     ·rw [if_neg c17] at H
      exact absurd H (by simp)
    ·rw [if_neg c15] at H
     have c15b0 : (t189 == 0) = false := beq_eq_false_iff_ne.mpr c15
     have c15b1 : (t189 != 0) = true := bne_iff_ne.mpr c15
     by_cases c49 : (t186.length : Int) = 0
     ·rw [if_pos c49] at H
      have c49b0 : ((t186.length : Int) == 0) = true := beq_iff_eq.mpr c49
      have c49b1 : ((t186.length : Int) != 0) = false := bne_eq_false_iff_eq.mpr c49
      clear c49
      replace H := Option.bind_eq_some_iff.mp H
      obtain ⟨t190, A500, H⟩ := H
      replace H : (if t189 = t190 then ((remoralaw09_awake.f kj2).bind fun t191 => (some t191)) else (none)) = some r := H
      have A50 := zA A500
      clear A500
      by_cases c51 : t189 = t190
      ·rw [if_pos c51] at H
       have c51b0 : (t189 == t190) = true := beq_iff_eq.mpr c51
       have c51b1 : (t189 != t190) = false := bne_eq_false_iff_eq.mpr c51
       clear c51
       replace H := Option.bind_eq_some_iff.mp H
       obtain ⟨t191, A520, H⟩ := H
       replace H : (some t191) = some r := H
       have A52 := zA A520
       clear A520
       obtain rfl := Option.some.inj H
       have hcz53_0 : wc.cell? ⟨gb183, 0, none⟩ = some (.int .i64 a0_0) := (zc1 BK183.out 0).trans rfl
       have hcz53_1 : wc.cell? ⟨gb183, 1, none⟩ = some (.int .i64 a0_1) := (zc1 BK183.out 1).trans rfl
       have hcz53_2 : wc.cell? ⟨gb183, 2, none⟩ = some (.int .i64 a0_2) := (zc1 BK183.out 2).trans rfl
       have hcz53_3 : wc.cell? ⟨gb183, 3, none⟩ = some (.slice A0_3 l0_3.length c0_3) := (zc1 BK183.out 3).trans rfl
       have hfz53_0 := zc5 BK183.out 0
       have hfz53_1 := zc5 BK183.out 1
       have hfz53_2 := zc5 BK183.out 2
       have hfz53_3 := zc5 BK183.out 3
       go_wp2_with (first | ((with_reducible refine gate_callee (f := 15) rfl ?_); refine goesL_ (some 23) rfl rfl Try.func15 (by kernel_rfl) rfl #[.agg #[.int .i64 a0_0, .int .i64 a0_1, .int .i64 a0_2, .slice A0_3 l0_3.length c0_3], .slice A1 l1.length c1] rfl (by (try simp only [zm1, zm2, zm3]); first | done | rfl | (simp only [List.length_drop, List.length_take]; rfl)) ?_; (with_reducible refine (match_Of.calls kj2 a0_0 a0_1 a0_2 _ _ l0_3 _ _ l1 t186 t189 _ ?side1 ?side2 ?side3 ?side4 A14.out).mono ?_); (case side1 => repeat (first | exact (Kd.C_below HR0_3.out HB.out) | (with_reducible refine Kd.C_alloc ?_ _) | (with_reducible refine Kd.C_drewN ?_ _) | (with_reducible refine Kd.C_drew ?_))); (case side2 => exact HC0_3.out); (case side3 => repeat (first | exact (Kd.C_below HR1.out HB.out) | (with_reducible refine Kd.C_alloc ?_ _) | (with_reducible refine Kd.C_drewN ?_ _) | (with_reducible refine Kd.C_drew ?_))); (case side4 => exact HC1.out); rintro e w54 ⟨v187, rfl, ho0, hb⟩; refine ⟨_, rfl, ?_⟩; have n0_ := zA (Kd.N_lower (Kd.N_mono (ok' := fun k_ => k_ ≠ gb183) ho0 (fun k_ hk_ => (Kd.freshB (g := gb183) (o := .cells #[.int .i64 a0_0, .int .i64 a0_1, .int .i64 a0_2, .slice A0_3 l0_3.length c0_3] 24 (0, 0)) (by (with_reducible repeat (first | refine zc3 ?_ _ | refine zc4 ?_ | refine zc2 ?_ _)); exact BK183.out) k_ hk_))) (zb6 (by repeat (first | (with_reducible first | exact HB.out | apply zb3 | apply zb1 | apply zb2 | refine zb4 ?_ GE183.out) | exact HB.out)))); have n1_ := zA (zc6 (g := gb183) (o := .cells #[.int .i64 a0_0, .int .i64 a0_1, .int .i64 a0_2, .slice A0_3 l0_3.length c0_3] 24 (0, 0)) (by (with_reducible repeat (first | refine zc3 ?_ _ | refine zc4 ?_ | refine zc2 ?_ _)); exact BK183.out) hb); have n2_ := zA (zb5 (by repeat (first | (with_reducible first | exact HB.out | apply zb3 | apply zb1 | apply zb2 | refine zb4 ?_ GE183.out) | exact HB.out)) hb); clear BK183; clear HB; have HO188 := n0_; have BK183 := n1_; have HB := n2_; clear n0_ n1_ n2_; (try clear hb); (try clear hb2); (try clear hk); (try clear hi); (try clear ho0); obtain ⟨Ao55, co55, eo55⟩ := Kd.N_slice HO188.out; subst eo55; have hcz56_0 : w54.cell? ⟨gb183, 0, none⟩ = some (.int .i64 a0_0) := (zc1 BK183.out 0).trans rfl; have hcz56_1 : w54.cell? ⟨gb183, 1, none⟩ = some (.int .i64 a0_1) := (zc1 BK183.out 1).trans rfl; have hcz56_2 : w54.cell? ⟨gb183, 2, none⟩ = some (.int .i64 a0_2) := (zc1 BK183.out 2).trans rfl; have hcz56_3 : w54.cell? ⟨gb183, 3, none⟩ = some (.slice A0_3 l0_3.length c0_3) := (zc1 BK183.out 3).trans rfl; have hfz56_0 := zc5 BK183.out 0; have hfz56_1 := zc5 BK183.out 1; have hfz56_2 := zc5 BK183.out 2; have hfz56_3 := zc5 BK183.out 3) | (go_at_call 10; (with_reducible refine (remoraref06_Check.calls kj2 a0_0 a0_1 a0_2 _ _ l0_3 t190 _ ?side1 ?side2 A50.out).mono ?_); (case side1 => repeat (first | exact (Kd.C_below HR0_3.out HB.out) | (with_reducible refine Kd.C_alloc ?_ _) | (with_reducible refine Kd.C_drewN ?_ _) | (with_reducible refine Kd.C_drew ?_))); (case side2 => exact HC0_3.out); rintro e w57 ⟨rfl, hb⟩; have n0_ := zA (Kd.N_below (by (with_reducible repeat (first | apply Kd.N_alloc | apply Kd.N_drewN | apply Kd.N_drew)); exact HO188.out) hb); have n1_ := zA (zc6 (g := gb183) (o := .cells #[.int .i64 a0_0, .int .i64 a0_1, .int .i64 a0_2, .slice A0_3 l0_3.length c0_3] 24 (0, 0)) (by (with_reducible repeat (first | refine zc3 ?_ _ | refine zc4 ?_ | refine zc2 ?_ _)); exact BK183.out) hb); have n2_ := zA (zb5 (by repeat (first | (with_reducible first | exact HB.out | apply zb3 | apply zb1 | apply zb2 | refine zb4 ?_ GE183.out) | exact HB.out)) hb); clear HO188; clear BK183; clear HB; have HO188 := n0_; have BK183 := n1_; have HB := n2_; clear n0_ n1_ n2_; (try clear hb); (try clear hb2); (try clear hk); (try clear hi)) | (go_at_call 8; (with_reducible refine (remoralaw09_awake.calls kj2  t191 _ A52.out).mono ?_); rintro e w58 ⟨rfl, hb⟩; have n0_ := zA (Kd.N_below (by (with_reducible repeat (first | apply Kd.N_alloc | apply Kd.N_drewN | apply Kd.N_drew)); exact HO188.out) hb); have n1_ := zA (zc6 (g := gb183) (o := .cells #[.int .i64 a0_0, .int .i64 a0_1, .int .i64 a0_2, .slice A0_3 l0_3.length c0_3] 24 (0, 0)) (by (with_reducible repeat (first | refine zc3 ?_ _ | refine zc4 ?_ | refine zc2 ?_ _)); exact BK183.out) hb); have n2_ := zA (zb5 (by repeat (first | (with_reducible first | exact HB.out | apply zb3 | apply zb1 | apply zb2 | refine zb4 ?_ GE183.out) | exact HB.out)) hb); clear HO188; clear BK183; clear HB; have HO188 := n0_; have BK183 := n1_; have HB := n2_; clear n0_ n1_ n2_; (try clear hb); (try clear hb2); (try clear hk); (try clear hi)))
       go_ret
       exact ⟨by first | rfl | (simp [*] <;> rfl), by repeat (first | (with_reducible first | exact HB.out | apply zb3 | apply zb1 | apply zb2 | refine zb4 ?_ GE183.out) | exact HB.out)⟩
      ·rw [if_neg c51] at H
       exact absurd H (by simp)
     ·rw [if_neg c49] at H
      exact absurd H (by simp)


def remoralaw09_MatchCosts.Pure : Prop := ∀ (a0_0 : Int) (a0_1 : Int) (a0_2 : Int) (l0_3 : List (S55)) (l1 : List Int), (Lit.int .i64 a0_0).wf = true → (Lit.int .i64 a0_1).wf = true → (Lit.int .i64 a0_2).wf = true → (l0_3.length ≤ maxLen ∧ ∀ q0_ ∈ l0_3, ((Lit.int .u32 q0_.f0).wf = true ∧ q0_.f1.size ≤ maxLen)) → (l1.length ≤ maxLen ∧ ∀ q0_ ∈ l1, (Lit.int .u8 q0_).wf = true) → l1.length * 1 ≤ 140737488351232 → ∃ k, remoralaw09_MatchCosts.f k a0_0 a0_1 a0_2 l0_3 l1 = some true

end Go.Proofs.Ytkihlcmjjoiccaa.PMatchCosts
