-- Written by a program of this session (the kit's printer with hand-written contracts among its functions).
-- squeezed
import Derived.Test.YtkihlcmjjoiccaaPMatchCostsx0
import Derived.Test.YtkihlcmjjoiccaaPMatchCostsx1
import Derived.Test.YtkihlcmjjoiccaaPMatchCostsx5
import Derived.Test.YtkihlcmjjoiccaaRq
namespace Go.Proofs.Ytkihlcmjjoiccaa.PMatchCosts
open Go.RowKit Go.Proofs.YtkihlcmjjoiccaaW.PrintWords Go.Proofs.YtkihlcmjjoiccaaW.PrintLast Go.Proofs.YtkihlcmjjoiccaaW.PrintMore
attribute [local go_sem] max2_int min2_int max_two min_two max_three min_three max_four min_four   -- for this text's walks alone
set_option linter.unusedVariables false
set_option linter.unusedSimpArgs false

mutual
def index_Index_Pick.j0 : Nat → Int → ByteArray → Int → Int → Bool → List (S55) → Int → Int → List (List Int) → Option (Int × Bool)
 | 0, _, _, _, _, _, _, _, _, _ => none
 | k + 1, x1, x2, x3, x4, x34, x137000, x137001, x137002, x137003 => if x34 = true then (some (x4, true)) else ((index_Index_head.f x137000 x137001 x137002 x137003 x1).bind fun t138 => (if 0 ≤ t138 then (if t138 < (x137003.length : Int) then (index_Index_Pick.l0 k x1 x2 x3 (rd_L6 x137003 t138) ((rd_L6 x137003 t138).length : Int) 0 x137000 x137001 x137002 x137003) else (none)) else (none)))
def index_Index_Pick.l0 : Nat → Int → ByteArray → Int → List Int → Int → Int → List (S55) → Int → Int → List (List Int) → Option (Int × Bool)
 | 0, _, _, _, _, _, _, _, _, _, _ => none
 | k + 1, x1, x2, x3, x44, x45, x46, x137000, x137001, x137002, x137003 => if x46 < x45 then (if 0 ≤ x46 then (if x46 < (x44.length : Int) then ((index_Index_has.f x137000 x137001 x137002 x137003 (rd x44 x46) x1 x2 x3).bind fun t141 => (if t141 = true then (some (rd x44 x46, true)) else (index_Index_Pick.l0 k x1 x2 x3 x44 x45 (wrap64 (x46 + 1)) x137000 x137001 x137002 x137003))) else (none)) else (none)) else (some (0, false))
end
def index_Index_Pick.f (k : Nat) (l0_0 : List (S55)) (a0_1 : Int) (a0_2 : Int) (l0_3 : List (List Int)) (a1 : Int) (a2 : ByteArray) (a3 : Int) (a4 : Int) : Option (Int × Bool) := if a4 ≥ 0 then (if a4 < (l0_0.length : Int) then ((index_Index_has.f l0_0 a0_1 a0_2 l0_3 a4 a1 a2 a3).bind fun t137 => (index_Index_Pick.j0 k a1 a2 a3 a4 t137 l0_0 a0_1 a0_2 l0_3)) else (index_Index_Pick.j0 k a1 a2 a3 a4 false l0_0 a0_1 a0_2 l0_3)) else (index_Index_Pick.j0 k a1 a2 a3 a4 false l0_0 a0_1 a0_2 l0_3)
theorem index_Index_Pick.mono_l : ∀ k, (∀ y0 y1 y2 y3 y4 y5 y6 y7 y8, LeO (index_Index_Pick.j0 k y0 y1 y2 y3 y4 y5 y6 y7 y8) (index_Index_Pick.j0 (k + 1) y0 y1 y2 y3 y4 y5 y6 y7 y8)) ∧ (∀ y0 y1 y2 y3 y4 y5 y6 y7 y8 y9, LeO (index_Index_Pick.l0 k y0 y1 y2 y3 y4 y5 y6 y7 y8 y9) (index_Index_Pick.l0 (k + 1) y0 y1 y2 y3 y4 y5 y6 y7 y8 y9))
 | 0 => ⟨fun _ _ _ _ _ _ _ _ _ r h => by simp [index_Index_Pick.j0] at h, fun _ _ _ _ _ _ _ _ _ _ r h => by simp [index_Index_Pick.l0] at h⟩
 | k + 1 => by
  obtain ⟨ih0, ih1⟩ := index_Index_Pick.mono_l k
  refine ⟨?_, ?_⟩
  ·intro y0 y1 y2 y3 y4 y5 y6 y7 y8
   unfold index_Index_Pick.j0
   repeat' first
   | (with_reducible exact ih0 _ _ _ _ _ _ _ _ _)
   | (with_reducible exact ih1 _ _ _ _ _ _ _ _ _ _)
   | (with_reducible exact LeO.refl _)
   | (with_reducible exact LeO.none _)
   | (with_reducible refine LeO.ite ?_ ?_)
   | (with_reducible refine LeO.bind ?_ (fun _ => ?_))
   | exact ih0 _ _ _ _ _ _ _ _ _
   | exact ih1 _ _ _ _ _ _ _ _ _ _
   | exact LeO.none _
   | refine LeO.ite ?_ ?_
   | refine LeO.bind ?_ (fun _ => ?_)
  ·intro y0 y1 y2 y3 y4 y5 y6 y7 y8 y9
   unfold index_Index_Pick.l0
   repeat' first
   | (with_reducible exact ih0 _ _ _ _ _ _ _ _ _)
   | (with_reducible exact ih1 _ _ _ _ _ _ _ _ _ _)
   | (with_reducible exact LeO.refl _)
   | (with_reducible exact LeO.none _)
   | (with_reducible refine LeO.ite ?_ ?_)
   | (with_reducible refine LeO.bind ?_ (fun _ => ?_))
   | exact ih0 _ _ _ _ _ _ _ _ _
   | exact ih1 _ _ _ _ _ _ _ _ _ _
   | exact LeO.none _
   | refine LeO.ite ?_ ?_
   | refine LeO.bind ?_ (fun _ => ?_)
theorem index_Index_Pick.mono : ∀ a0 a1 a2 a3 a4 a5 a6 a7 k, LeO (index_Index_Pick.f k a0 a1 a2 a3 a4 a5 a6 a7) (index_Index_Pick.f (k + 1) a0 a1 a2 a3 a4 a5 a6 a7) := by
 intro a0 a1 a2 a3 a4 a5 a6 a7 k
 obtain ⟨ih0, ih1⟩ := index_Index_Pick.mono_l k
 unfold index_Index_Pick.f
 repeat' first
     | (with_reducible exact ih0 _ _ _ _ _ _ _ _ _)
     | (with_reducible exact ih1 _ _ _ _ _ _ _ _ _ _)
     | (with_reducible exact LeO.refl _)
     | (with_reducible exact LeO.none _)
     | (with_reducible refine LeO.ite ?_ ?_)
     | (with_reducible refine LeO.bind ?_ (fun _ => ?_))
     | exact ih0 _ _ _ _ _ _ _ _ _
     | exact ih1 _ _ _ _ _ _ _ _ _ _
     | exact LeO.none _
     | refine LeO.ite ?_ ?_
     | refine LeO.bind ?_ (fun _ => ?_)
def index_Index_Pick.T5 : Bool × List (List Nat × List Nat) := (true, [([], []), ([0], [0]), ([1], [1]), ([2], [2]), ([], []), ([], []), ([4, 5], [4, 5]), ([3, 6], [3, 6]), ([7], [7]), ([8], [8]), ([], [])])
def index_Index_Pick.B5 : List Nat := [0, 1, 3, 7, 0, 0, 48, 127, 255, 511, 0]
theorem index_Index_Pick.tab5 : rtab .any (opsOf Try.f47 5) = index_Index_Pick.T5 := by kernel_rfl
theorem index_Index_Pick.bits5 : waitsOk index_Index_Pick.T5.2 index_Index_Pick.B5 = true := by kernel_rfl
set_option maxHeartbeats 8000000 in
set_option maxRecDepth 100000 in
theorem index_Index_Pick.calls (g : Nat) (k : Nat) (A0_0 : Option Addr) (c0_0 : Nat) (l0_0 : List (S55)) (a0_1 : Int) (a0_2 : Int) (A0_3 : Option Addr) (c0_3 : Nat) (l0_3 : List (List Int)) (a1 : Int) (a2 : ByteArray) (a3 : Int) (a4 : Int) (r1 : Int) (r2 : Bool) (w : World) (hr0_0 : Kd.C k55 w A0_0 l0_0.length l0_0) (hc0_0 : l0_0.length ≤ c0_0) (hr0_3 : Kd.C (Kd.slice 3 (Kd.int .i64)) w A0_3 l0_3.length l0_3) (hc0_3 : l0_3.length ≤ c0_3) (hx : w.heap[g]? = some (.cells #[.slice A0_0 l0_0.length c0_0, .int .i64 a0_1, .int .i64 a0_2, .slice A0_3 l0_3.length c0_3] 81 (0, 0))) (h : index_Index_Pick.f k l0_0 a0_1 a0_2 l0_3 a1 a2 a3 a4 = some (r1, r2)) :
    Calls Try.prog 47 #[.pointer (some ⟨g, 0, none⟩), .int .u32 a1, .string a2, .int .i64 a3, .int .i64 a4] w fun e w' => e = .returned (.tuple #[.int .i64 r1, .bool r2]) ∧ Below w.heap.size w w' := by
 have hu81 := Try.underlying81
 have HR0_0 := zA hr0_0
 have HC0_0 := zA hc0_0
 clear hr0_0 hc0_0
 have HR0_3 := zA hr0_3
 have HC0_3 := zA hc0_3
 clear hr0_3 hc0_3
 have HB := zA (Below.refl w.heap.size w)
 have H : (if a4 ≥ 0 then (if a4 < (l0_0.length : Int) then ((index_Index_has.f l0_0 a0_1 a0_2 l0_3 a4 a1 a2 a3).bind fun t137 => (index_Index_Pick.j0 k a1 a2 a3 a4 t137 l0_0 a0_1 a0_2 l0_3)) else (index_Index_Pick.j0 k a1 a2 a3 a4 false l0_0 a0_1 a0_2 l0_3)) else (index_Index_Pick.j0 k a1 a2 a3 a4 false l0_0 a0_1 a0_2 l0_3)) = some (r1, r2) := h
 clear h
 have HC6 := zA H
 clear H
 go_enter Try.func47, Try.ntmps47
 have BK136 := zA hx
 go_upto_region 3 with (first | fail)
 (try simp only [Act.put, zs1, zs2, zs3])
 go_cut [34] (fun v34 wc => ∃ (kq : Nat) (x34_5 : Bool), v34 = .bool x34_5 ∧ Aside0 (index_Index_Pick.j0 kq a1 a2 a3 a4 x34_5 l0_0 a0_1 a0_2 l0_3 = some (r1, r2)) ∧ Aside0 (kq ≤ k) ∧ Aside0 (wc.heap[g]? = some (.cells #[(.slice A0_0 l0_0.length c0_0), .int .i64 a0_1, .int .i64 a0_2, (.slice A0_3 l0_3.length c0_3)] 81 (0, 0))) ∧ Aside0 (Below w.heap.size w wc))
 case first =>
  have H := HC6.out
  clear HC6
  by_cases c8 : a4 ≥ 0
  ·rw [if_pos c8] at H
   have c8b0 : decide (0 ≤ a4) = true := zd1 c8
   clear c8
   (first | rw [c8b0] | (simp only [i64_w, i32_w]; rw [c8b0]) | skip)
   by_cases c9 : a4 < (l0_0.length : Int)
   ·rw [if_pos c9] at H
    have c9b0 : decide (a4 < (l0_0.length : Int)) = true := zd1 c9
    clear c9
    replace H := Option.bind_eq_some_iff.mp H
    obtain ⟨t137, A100, H⟩ := H
    replace H : (index_Index_Pick.j0 k a1 a2 a3 a4 t137 l0_0 a0_1 a0_2 l0_3) = some (r1, r2) := H
    have A10 := zA A100
    clear A100
    have H' := zA H
    clear H
    have hcz11_0 : w.cell? ⟨g, 0, none⟩ = some (.slice A0_0 l0_0.length c0_0) := (zc1 BK136.out 0).trans rfl
    have hcz11_1 : w.cell? ⟨g, 1, none⟩ = some (.int .i64 a0_1) := (zc1 BK136.out 1).trans rfl
    have hcz11_2 : w.cell? ⟨g, 2, none⟩ = some (.int .i64 a0_2) := (zc1 BK136.out 2).trans rfl
    have hcz11_3 : w.cell? ⟨g, 3, none⟩ = some (.slice A0_3 l0_3.length c0_3) := (zc1 BK136.out 3).trans rfl
    have hfz11_0 := zc5 BK136.out 0
    have hfz11_1 := zc5 BK136.out 1
    have hfz11_2 := zc5 BK136.out 2
    have hfz11_3 := zc5 BK136.out 3
    go_wp2_with (first | (go_at_call 65; (with_reducible refine (index_Index_has.calls g A0_0 c0_0 l0_0 a0_1 a0_2 A0_3 c0_3 l0_3 a4 a1 a2 a3 t137 _ ?side1 ?side2 ?side3 ?side4 ?sideX A10.out).mono ?_); (case sideX => exact (by (with_reducible repeat (first | refine zc3 ?_ _ | refine zc4 ?_ | refine zc2 ?_ _)); exact BK136.out)); (case side1 => repeat (first | exact (Kd.C_below HR0_0.out HB.out) | (with_reducible refine Kd.C_alloc ?_ _) | (with_reducible refine Kd.C_drewN ?_ _) | (with_reducible refine Kd.C_drew ?_))); (case side2 => exact HC0_0.out); (case side3 => repeat (first | exact (Kd.C_below HR0_3.out HB.out) | (with_reducible refine Kd.C_alloc ?_ _) | (with_reducible refine Kd.C_drewN ?_ _) | (with_reducible refine Kd.C_drew ?_))); (case side4 => exact HC0_3.out); rintro e w12 ⟨rfl, hb⟩; have n0_ := zA (zc6 (g := g) (o := .cells #[.slice A0_0 l0_0.length c0_0, .int .i64 a0_1, .int .i64 a0_2, .slice A0_3 l0_3.length c0_3] 81 (0, 0)) (by (with_reducible repeat (first | refine zc3 ?_ _ | refine zc4 ?_ | refine zc2 ?_ _)); exact BK136.out) hb); have n1_ := zA (zb5 (by repeat (first | (with_reducible first | exact HB.out | apply zb3 | apply zb1 | apply zb2 | refine zb4 ?_ GE136.out) | exact HB.out)) hb); clear BK136; clear HB; have BK136 := n0_; have HB := n1_; clear n0_ n1_; (try clear hb); (try clear hb2); (try clear hk); (try clear hi)))
    go_meet
    case rel => exact ⟨_, (t137), (by first | rfl | (simp; done) | (simp [*]; done)), H', ⟨by first | omega | exact Nat.le_refl _⟩, ⟨by (with_reducible repeat (first | refine zc3 ?_ _ | refine zc4 ?_ | refine zc2 ?_ _)); exact BK136.out⟩, ⟨by repeat (first | (with_reducible first | exact HB.out | apply zb3 | apply zb1 | apply zb2 | refine zb4 ?_ GE136.out) | exact HB.out)⟩⟩
   ·rw [if_neg c9] at H
    have c9b0 : decide (a4 < (l0_0.length : Int)) = false := zd2 c9
    clear c9
    have H' := zA H
    clear H
    have hcz13_0 : w.cell? ⟨g, 0, none⟩ = some (.slice A0_0 l0_0.length c0_0) := (zc1 BK136.out 0).trans rfl
    have hcz13_1 : w.cell? ⟨g, 1, none⟩ = some (.int .i64 a0_1) := (zc1 BK136.out 1).trans rfl
    have hcz13_2 : w.cell? ⟨g, 2, none⟩ = some (.int .i64 a0_2) := (zc1 BK136.out 2).trans rfl
    have hcz13_3 : w.cell? ⟨g, 3, none⟩ = some (.slice A0_3 l0_3.length c0_3) := (zc1 BK136.out 3).trans rfl
    have hfz13_0 := zc5 BK136.out 0
    have hfz13_1 := zc5 BK136.out 1
    have hfz13_2 := zc5 BK136.out 2
    have hfz13_3 := zc5 BK136.out 3
    go_wp2
    go_meet
    case rel => exact ⟨_, (false), (by first | rfl | (simp; done) | (simp [*]; done)), H', ⟨by first | omega | exact Nat.le_refl _⟩, ⟨by (with_reducible repeat (first | refine zc3 ?_ _ | refine zc4 ?_ | refine zc2 ?_ _)); exact BK136.out⟩, ⟨by repeat (first | (with_reducible first | exact HB.out | apply zb3 | apply zb1 | apply zb2 | refine zb4 ?_ GE136.out) | exact HB.out)⟩⟩
  ·rw [if_neg c8] at H
   have c8b0 : decide (0 ≤ a4) = false := zd2 c8
   clear c8
   (first | rw [c8b0] | (simp only [i64_w, i32_w]; rw [c8b0]) | skip)
   have H' := zA H
   clear H
   go_wp2
   go_meet
   case rel => exact ⟨_, (false), (by first | rfl | (simp; done) | (simp [*]; done)), H', ⟨by first | omega | exact Nat.le_refl _⟩, ⟨by (with_reducible repeat (first | refine zc3 ?_ _ | refine zc4 ?_ | refine zc2 ?_ _)); exact BK136.out⟩, ⟨by repeat (first | (with_reducible first | exact HB.out | apply zb3 | apply zb1 | apply zb2 | refine zb4 ?_ GE136.out) | exact HB.out)⟩⟩
 case rest =>
  clear HC6
  try clear p2
  try clear c4
  try clear c8
  try clear c8b0
  try clear c9
  try clear c9b0
  try clear hcz11_0
  try clear hcz11_1
  try clear hcz11_2
  try clear hcz11_3
  try clear hcz13_0
  try clear hcz13_1
  try clear hcz13_2
  try clear hcz13_3
  try clear hfz11_0
  try clear hfz11_1
  try clear hfz11_2
  try clear hfz11_3
  try clear hfz13_0
  try clear hfz13_1
  try clear hfz13_2
  try clear hfz13_3
  obtain ⟨kq, x34_5, rfl, HA, HJ5, BK136, HB⟩ := hcut
  cases kq with
  | zero => exact absurd HA.out (by simp [index_Index_Pick.j0])
  | succ kj5 =>
   have H := HA.out
   clear HA
   simp only [index_Index_Pick.j0] at H
   by_cases c14 : x34_5 = true
   ·subst c14
    have H1 : (some (a4, true)) = some (r1, r2) := by rw [if_pos rfl] at H; exact H
    clear H
    have H := H1
    clear H1
    simp only [Option.some.injEq, Prod.mk.injEq] at H
    obtain ⟨rfl, rfl⟩ := H
    go_wp2
    go_ret2
    exact ⟨by first | rfl | (simp [*] <;> rfl), by repeat (first | (with_reducible first | exact HB.out | apply zb3 | apply zb1 | apply zb2 | refine zb4 ?_ GE136.out) | exact HB.out)⟩
   ·replace c14 := Bool.eq_false_iff.mpr c14
    subst c14
    have H1 : ((index_Index_head.f l0_0 a0_1 a0_2 l0_3 a1).bind fun t138 => (if 0 ≤ t138 then (if t138 < (l0_3.length : Int) then (index_Index_Pick.l0 kj5 a1 a2 a3 (rd_L6 l0_3 t138) ((rd_L6 l0_3 t138).length : Int) 0 l0_0 a0_1 a0_2 l0_3) else (none)) else (none))) = some (r1, r2) := by rw [if_neg (show ¬ (false = true) by decide)] at H; exact H
    clear H
    have H := H1
    clear H1
    replace H := Option.bind_eq_some_iff.mp H
    obtain ⟨t138, A150, H⟩ := H
    replace H : (if 0 ≤ t138 then (if t138 < (l0_3.length : Int) then (index_Index_Pick.l0 kj5 a1 a2 a3 (rd_L6 l0_3 t138) ((rd_L6 l0_3 t138).length : Int) 0 l0_0 a0_1 a0_2 l0_3) else (none)) else (none)) = some (r1, r2) := H
    have A15 := zA A150
    clear A150
    by_cases c16 : 0 ≤ t138
    ·rw [if_pos c16] at H
     have c16b0 : decide (0 ≤ t138) = true := zd1 c16
     clear c16
     by_cases c17 : t138 < (l0_3.length : Int)
     ·rw [if_pos c17] at H
      have c17b0 : decide (t138 < (l0_3.length : Int)) = true := zd1 c17
      clear c17
      have H' := zA H
      clear H
      try go_wp2
      have n0_ := zA (zc4 BK136.out)
      have n1_ := zA (zb2 HB.out)
      clear BK136
      clear HB
      have BK136 := n0_
      have HB := n1_
      clear n0_ n1_
      have p139 : 0 ≤ (t138 : Int) := zd3 (by first | (with_reducible assumption) | assumption)
      have q139 : t138 < (l0_3.length : Int) := zd3 (by first | (with_reducible assumption) | assumption)
      obtain ⟨ad139, A139_0, c139_0, e139, hx139_0, hl139_0, hi139_0⟩ := at_L6 HR0_3.out t138 p139 q139
      have hw139_0 := hx139_0
      cases e139
      replace hx139_0 := (HB.out.cell (World.block_lt_of_cell? w _ hx139_0)).trans hx139_0
      have HR139_0 := zA hi139_0
      have HC139_0 := zA hl139_0
      clear hi139_0 hl139_0
      replace p139 := eq_true p139
      replace q139 := eq_true q139
      refine start_ (n := 11) (S := fun w' => w'.cell? ⟨g, 0, none⟩ = some (.slice A0_0 l0_0.length c0_0) ∧ w'.cell? ⟨g, 1, none⟩ = some (.int .i64 a0_1) ∧ w'.cell? ⟨g, 2, none⟩ = some (.int .i64 a0_2) ∧ w'.cell? ⟨g, 3, none⟩ = some (.slice (some ad139) l0_3.length c0_3) ∧ w'.cell? (ad139.add (t138).toNat) = some (.slice A139_0 (rd_L6 l0_3 t138).length c139_0)) (ds := []) (qq 11 0) (by kernel_rfl) rfl (by kernel_rfl) ⟨(zc1 BK136.out 0).trans rfl, (zc1 BK136.out 1).trans rfl, (zc1 BK136.out 2).trans rfl, (zc1 BK136.out 3).trans rfl, ((HB.out.cell (World.block_lt_of_cell? w _ hw139_0)).trans hw139_0)⟩ (fun hHeld => ?_); refine with_tabW index_Index_Pick.tab5 index_Index_Pick.bits5 (fun HT_ HW_ => ?_)
      generalize wc.drew = w18 at BK136 HB HR139_0 hx139_0 hHeld ⊢
      refine ord_ [(0, 0, 1), (0, 1, 3), (0, 2, 7), (0, 5, 39), (0, 10, 1063), (1, 3, 1071), (1, 4, 1087)] ?_
      repeat (first | (refine kk_ 0 ?_; refine oP_ (v := ?_) (a' := ?_) HT_ rfl rfl (by kernel_rfl) (fun _ _ _ h => h) (Or.inl ⟨by rfl, ?_⟩) ?_ ?_; rotate_left; (intro w'; go_simp; with_reducible rfl); rotate_left; (simp only [Act.put, zs1, zs2, zs3, i64_w, i32_w]; rfl)) | (refine kk_ 1 ?_; refine oT_ (v := ?_) (a' := ?_) HT_ HW_ rfl rfl (by kernel_rfl) (fun _ _ _ h => h) (Or.inl ⟨by rfl, ?_⟩) hHeld ?_ ?_; rotate_left; (rintro w' ⟨s0, s1, s2, s3, s4⟩; go_simp; with_reducible rfl); rotate_left; (simp only [Act.put, zs1, zs2, zs3, i64_w, i32_w]; rfl)))
      refine oend_ ?_
      refine one_ (i := 6) (N := some 42) (qq 11 1151) rfl rfl (one_of HT_.out (by kernel_rfl)) (by decide) (fun K hK => ?_)
      refine goes_ Try.func42 (by kernel_rfl) rfl #[.pointer (some ⟨g, 0, none⟩), .int .u32 a1] (by rfl) rfl rfl (by (try simp only [zm1, zm2, zm3]); first | done | rfl | (simp only [List.length_drop, List.length_take]; rfl)) ?_
      with_reducible refine (index_Index_head.calls g A0_0 c0_0 l0_0 a0_1 a0_2 (some ad139) c0_3 l0_3 a1 t138 _ ?side1 ?side2 ?side3 ?side4 ?sideX A15.out).mono ?_
      (case sideX => exact (by (with_reducible repeat (first | refine zc3 ?_ _ | refine zc4 ?_ | refine zc2 ?_ _)); exact BK136.out))
      (case side1 => repeat (first | exact (Kd.C_below HR0_0.out HB.out) | (with_reducible refine Kd.C_alloc ?_ _) | (with_reducible refine Kd.C_drewN ?_ _) | (with_reducible refine Kd.C_drew ?_)))
      (case side2 => exact HC0_0.out)
      (case side3 => repeat (first | exact (Kd.C_below HR0_3.out HB.out) | (with_reducible refine Kd.C_alloc ?_ _) | (with_reducible refine Kd.C_drewN ?_ _) | (with_reducible refine Kd.C_drew ?_)))
      (case side4 => exact HC0_3.out)
      rintro e w19 ⟨rfl, hb⟩
      refine ⟨_, rfl, ?_⟩
      have n0_ := zA (zc6 (g := g) (o := .cells #[.slice A0_0 l0_0.length c0_0, .int .i64 a0_1, .int .i64 a0_2, .slice (some ad139) l0_3.length c0_3] 81 (0, 0)) (by (with_reducible repeat (first | refine zc3 ?_ _ | refine zc4 ?_ | refine zc2 ?_ _)); exact BK136.out) hb)
      have n1_ := zA (zb5 (by repeat (first | (with_reducible first | exact HB.out | apply zb3 | apply zb1 | apply zb2 | refine zb4 ?_ GE136.out) | exact HB.out)) hb)
      clear BK136
      clear HB
      have BK136 := n0_
      have HB := n1_
      clear n0_ n1_
      (try clear hb)
      (try clear hb2)
      (try clear hk)
      (try clear hi)
      refine hK.out _ _ ⟨(zc1 BK136.out 0).trans rfl, (zc1 BK136.out 1).trans rfl, (zc1 BK136.out 2).trans rfl, (zc1 BK136.out 3).trans rfl, ((HB.out.cell (World.block_lt_of_cell? w _ hw139_0)).trans hw139_0)⟩ (fun hHeld => ?_)
      clear hK K
      refine norm_ (a' := ?_) ?_ ?_
      rotate_left
      ·show Act.put _ (some 42) _ = _
       simp only [Act.put, zs1, zs2, zs3, i64_w, i32_w]
       rfl
      refine ord_ [(0, 7, 1279), (1, 8, 1535), (0, 9, 2047)] ?_
      repeat (first | (refine kk_ 0 ?_; refine oP_ (v := ?_) (a' := ?_) HT_ rfl rfl (by kernel_rfl) (fun _ _ _ h => h) (Or.inl ⟨by rfl, ?_⟩) ?_ ?_; rotate_left; (intro w'; go_simp; with_reducible rfl); rotate_left; (simp only [Act.put, zs1, zs2, zs3, i64_w, i32_w]; rfl)) | (refine kk_ 1 ?_; refine oT_ (v := ?_) (a' := ?_) HT_ HW_ rfl rfl (by kernel_rfl) (fun _ _ _ h => h) (Or.inl ⟨by rfl, ?_⟩) hHeld ?_ ?_; rotate_left; (rintro w' ⟨s0, s1, s2, s3, s4⟩; go_simp; with_reducible rfl); rotate_left; (simp only [Act.put, zs1, zs2, zs3, i64_w, i32_w]; rfl)))
      refine oend_ ?_
      refine done_ (done_of HT_.out (by kernel_rfl)) ?_
      try go_wp2
      go_loopg [46] kj5 (fun kq v46 w' => ∃ (x46_2 : Int), v46 = .int .i64 x46_2 ∧ Aside0 (index_Index_Pick.l0 kq a1 a2 a3 (rd_L6 l0_3 t138) ((rd_L6 l0_3 t138).length : Int) x46_2 l0_0 a0_1 a0_2 l0_3 = some (r1, r2)) ∧ Aside0 (kq ≤ kj5) ∧ Aside0 (w'.heap[g]? = some (.cells #[(.slice A0_0 l0_0.length c0_0), .int .i64 a0_1, .int .i64 a0_2, (.slice (some ad139) l0_3.length c0_3)] 81 (0, 0))) ∧ Aside0 (Below w.heap.size w w'))
      case atStart => exact ⟨(0), (by first | rfl | (simp; done) | (simp [*]; done)), H', ⟨Nat.le_refl _⟩, ⟨by (with_reducible repeat (first | refine zc3 ?_ _ | refine zc4 ?_ | refine zc2 ?_ _)); exact BK136.out⟩, ⟨by repeat (first | (with_reducible first | exact HB.out | apply zb3 | apply zb1 | apply zb2 | refine zb4 ?_ GE136.out) | exact HB.out)⟩⟩
      case round =>
       clear H'
       try clear c1
       try clear p1
       try clear q1
       try clear hx1
       try clear p2
       try clear c4
       try clear c8
       try clear c8b0
       try clear c9
       try clear c9b0
       try clear c13
       try clear p13
       try clear q13
       try clear hx13
       try clear c14
       try clear c16
       try clear c16b0
       try clear c17
       try clear c17b0
       try clear hcz11_0
       try clear hcz11_1
       try clear hcz11_2
       try clear hcz11_3
       try clear hcz13_0
       try clear hcz13_1
       try clear hcz13_2
       try clear hcz13_3
       try clear hfz11_0
       try clear hfz11_1
       try clear hfz11_2
       try clear hfz11_3
       try clear hfz13_0
       try clear hfz13_1
       try clear hfz13_2
       try clear hfz13_3
       try clear hx139_0
       try clear p139
       try clear p2
       try clear q139
       obtain ⟨x46_2, rfl, HA, HK2, BK136, HB⟩ := hrel
       cases gk with
       | zero => exact absurd HA.out (by simp [index_Index_Pick.l0])
       | succ k2 =>
        have H := HA.out
        clear HA
        simp only [index_Index_Pick.l0] at H
        by_cases c20 : x46_2 < ((rd_L6 l0_3 t138).length : Int)
        ·rw [if_pos c20] at H
         have c20b0 : decide (x46_2 < ((rd_L6 l0_3 t138).length : Int)) = true := zd1 c20
         clear c20
         by_cases c21 : 0 ≤ x46_2
         ·rw [if_pos c21] at H
          have c21b0 : decide (0 ≤ x46_2) = true := zd1 c21
          clear c21
          by_cases c22 : x46_2 < ((rd_L6 l0_3 t138).length : Int)
          ·rw [if_pos c22] at H
           have c22b0 : decide (x46_2 < ((rd_L6 l0_3 t138).length : Int)) = true := zd1 c22
           clear c22
           replace H := Option.bind_eq_some_iff.mp H
           obtain ⟨t141, A230, H⟩ := H
           replace H : (if t141 = true then (some (rd (rd_L6 l0_3 t138) x46_2, true)) else (index_Index_Pick.l0 k2 a1 a2 a3 (rd_L6 l0_3 t138) ((rd_L6 l0_3 t138).length : Int) (wrap64 (x46_2 + 1)) l0_0 a0_1 a0_2 l0_3)) = some (r1, r2) := H
           have A23 := zA A230
           clear A230
           by_cases c24 : t141 = true
           ·subst c24
            have H1 : (some (rd (rd_L6 l0_3 t138) x46_2, true)) = some (r1, r2) := by rw [if_pos rfl] at H; exact H
            clear H
            have H := H1
            clear H1
            simp only [Option.some.injEq, Prod.mk.injEq] at H
            obtain ⟨rfl, rfl⟩ := H
            have p140 : 0 ≤ (x46_2 : Int) := zd3 (by first | (with_reducible assumption) | assumption)
            have q140 : x46_2 < ((rd_L6 l0_3 t138).length : Int) := zd3 (by first | (with_reducible assumption) | assumption)
            obtain ⟨ad140, e140, hx140_0⟩ := Kd.at_int HR139_0.out x46_2 p140 q140
            cases e140
            replace hx140_0 := (HB.out.cell (World.block_lt_of_cell? w _ hx140_0)).trans hx140_0
            replace p140 := eq_true p140
            replace q140 := eq_true q140
            have hcz25_0 : wr.cell? ⟨g, 0, none⟩ = some (.slice A0_0 l0_0.length c0_0) := (zc1 BK136.out 0).trans rfl
            have hcz25_1 : wr.cell? ⟨g, 1, none⟩ = some (.int .i64 a0_1) := (zc1 BK136.out 1).trans rfl
            have hcz25_2 : wr.cell? ⟨g, 2, none⟩ = some (.int .i64 a0_2) := (zc1 BK136.out 2).trans rfl
            have hcz25_3 : wr.cell? ⟨g, 3, none⟩ = some (.slice (some ad139) l0_3.length c0_3) := (zc1 BK136.out 3).trans rfl
            have hfz25_0 := zc5 BK136.out 0
            have hfz25_1 := zc5 BK136.out 1
            have hfz25_2 := zc5 BK136.out 2
            have hfz25_3 := zc5 BK136.out 3
            go_wp2_with (first | ((with_reducible refine gate_callee (f := 65) rfl ?_); refine goesL_ (some 55) rfl rfl Try.func65 (by kernel_rfl) rfl #[.pointer (some ⟨g, 0, none⟩), .int .i64 (rd (rd_L6 l0_3 t138) x46_2), .int .u32 a1, .string a2, .int .i64 a3] rfl (by (try simp only [zm1, zm2, zm3]); first | done | rfl | (simp only [List.length_drop, List.length_take]; rfl)) ?_; (with_reducible refine (index_Index_has.calls g A0_0 c0_0 l0_0 a0_1 a0_2 (some ad139) c0_3 l0_3 (rd (rd_L6 l0_3 t138) x46_2) a1 a2 a3 true _ ?side1 ?side2 ?side3 ?side4 ?sideX A23.out).mono ?_); (case sideX => exact (by (with_reducible repeat (first | refine zc3 ?_ _ | refine zc4 ?_ | refine zc2 ?_ _)); exact BK136.out)); (case side1 => repeat (first | exact (Kd.C_below HR0_0.out HB.out) | (with_reducible refine Kd.C_alloc ?_ _) | (with_reducible refine Kd.C_drewN ?_ _) | (with_reducible refine Kd.C_drew ?_))); (case side2 => exact HC0_0.out); (case side3 => repeat (first | exact (Kd.C_below HR0_3.out HB.out) | (with_reducible refine Kd.C_alloc ?_ _) | (with_reducible refine Kd.C_drewN ?_ _) | (with_reducible refine Kd.C_drew ?_))); (case side4 => exact HC0_3.out); rintro e w26 ⟨rfl, hb⟩; refine ⟨_, rfl, ?_⟩; have n0_ := zA (zc6 (g := g) (o := .cells #[.slice A0_0 l0_0.length c0_0, .int .i64 a0_1, .int .i64 a0_2, .slice (some ad139) l0_3.length c0_3] 81 (0, 0)) (by (with_reducible repeat (first | refine zc3 ?_ _ | refine zc4 ?_ | refine zc2 ?_ _)); exact BK136.out) hb); have n1_ := zA (zb5 (by repeat (first | (with_reducible first | exact HB.out | apply zb3 | apply zb1 | apply zb2 | refine zb4 ?_ GE136.out) | exact HB.out)) hb); clear BK136; clear HB; have BK136 := n0_; have HB := n1_; clear n0_ n1_; (try clear hb); (try clear hb2); (try clear hk); (try clear hi)))
            go_ret2
            exact ⟨by first | rfl | (simp [*] <;> rfl), by repeat (first | (with_reducible first | exact HB.out | apply zb3 | apply zb1 | apply zb2 | refine zb4 ?_ GE136.out) | exact HB.out)⟩
           ·replace c24 := Bool.eq_false_iff.mpr c24
            subst c24
            have H1 : (index_Index_Pick.l0 k2 a1 a2 a3 (rd_L6 l0_3 t138) ((rd_L6 l0_3 t138).length : Int) (wrap64 (x46_2 + 1)) l0_0 a0_1 a0_2 l0_3) = some (r1, r2) := by rw [if_neg (show ¬ (false = true) by decide)] at H; exact H
            clear H
            have H := H1
            clear H1
            have H' := zA H
            clear H
            have p140 : 0 ≤ (x46_2 : Int) := zd3 (by first | (with_reducible assumption) | assumption)
            have q140 : x46_2 < ((rd_L6 l0_3 t138).length : Int) := zd3 (by first | (with_reducible assumption) | assumption)
            obtain ⟨ad140, e140, hx140_0⟩ := Kd.at_int HR139_0.out x46_2 p140 q140
            cases e140
            replace hx140_0 := (HB.out.cell (World.block_lt_of_cell? w _ hx140_0)).trans hx140_0
            replace p140 := eq_true p140
            replace q140 := eq_true q140
            have hcz27_0 : wr.cell? ⟨g, 0, none⟩ = some (.slice A0_0 l0_0.length c0_0) := (zc1 BK136.out 0).trans rfl
            have hcz27_1 : wr.cell? ⟨g, 1, none⟩ = some (.int .i64 a0_1) := (zc1 BK136.out 1).trans rfl
            have hcz27_2 : wr.cell? ⟨g, 2, none⟩ = some (.int .i64 a0_2) := (zc1 BK136.out 2).trans rfl
            have hcz27_3 : wr.cell? ⟨g, 3, none⟩ = some (.slice (some ad139) l0_3.length c0_3) := (zc1 BK136.out 3).trans rfl
            have hfz27_0 := zc5 BK136.out 0
            have hfz27_1 := zc5 BK136.out 1
            have hfz27_2 := zc5 BK136.out 2
            have hfz27_3 := zc5 BK136.out 3
            go_wp2_with (first | ((with_reducible refine gate_callee (f := 65) rfl ?_); refine goesL_ (some 55) rfl rfl Try.func65 (by kernel_rfl) rfl #[.pointer (some ⟨g, 0, none⟩), .int .i64 (rd (rd_L6 l0_3 t138) x46_2), .int .u32 a1, .string a2, .int .i64 a3] rfl (by (try simp only [zm1, zm2, zm3]); first | done | rfl | (simp only [List.length_drop, List.length_take]; rfl)) ?_; (with_reducible refine (index_Index_has.calls g A0_0 c0_0 l0_0 a0_1 a0_2 (some ad139) c0_3 l0_3 (rd (rd_L6 l0_3 t138) x46_2) a1 a2 a3 false _ ?side1 ?side2 ?side3 ?side4 ?sideX A23.out).mono ?_); (case sideX => exact (by (with_reducible repeat (first | refine zc3 ?_ _ | refine zc4 ?_ | refine zc2 ?_ _)); exact BK136.out)); (case side1 => repeat (first | exact (Kd.C_below HR0_0.out HB.out) | (with_reducible refine Kd.C_alloc ?_ _) | (with_reducible refine Kd.C_drewN ?_ _) | (with_reducible refine Kd.C_drew ?_))); (case side2 => exact HC0_0.out); (case side3 => repeat (first | exact (Kd.C_below HR0_3.out HB.out) | (with_reducible refine Kd.C_alloc ?_ _) | (with_reducible refine Kd.C_drewN ?_ _) | (with_reducible refine Kd.C_drew ?_))); (case side4 => exact HC0_3.out); rintro e w28 ⟨rfl, hb⟩; refine ⟨_, rfl, ?_⟩; have n0_ := zA (zc6 (g := g) (o := .cells #[.slice A0_0 l0_0.length c0_0, .int .i64 a0_1, .int .i64 a0_2, .slice (some ad139) l0_3.length c0_3] 81 (0, 0)) (by (with_reducible repeat (first | refine zc3 ?_ _ | refine zc4 ?_ | refine zc2 ?_ _)); exact BK136.out) hb); have n1_ := zA (zb5 (by repeat (first | (with_reducible first | exact HB.out | apply zb3 | apply zb1 | apply zb2 | refine zb4 ?_ GE136.out) | exact HB.out)) hb); clear BK136; clear HB; have BK136 := n0_; have HB := n1_; clear n0_ n1_; (try clear hb); (try clear hb2); (try clear hk); (try clear hi)))
            go_roundg k2
            case measure => have := HJ5.out; have := HK2.out; omega
            case rel => exact ⟨(wrap64 (x46_2 + 1)), (by first | rfl | (simp; done) | (simp [*]; done)), H', ⟨by have := HJ5.out; have := HK2.out; omega⟩, ⟨by (with_reducible repeat (first | refine zc3 ?_ _ | refine zc4 ?_ | refine zc2 ?_ _)); exact BK136.out⟩, ⟨by repeat (first | (with_reducible first | exact HB.out | apply zb3 | apply zb1 | apply zb2 | refine zb4 ?_ GE136.out) | exact HB.out)⟩⟩
          ·rw [if_neg c22] at H
           exact absurd H (by simp)
         ·rw [if_neg c21] at H
          exact absurd H (by simp)
        ·rw [if_neg c20] at H
         have c20b0 : decide (x46_2 < ((rd_L6 l0_3 t138).length : Int)) = false := zd2 c20
         clear c20
         simp only [Option.some.injEq, Prod.mk.injEq] at H
         obtain ⟨rfl, rfl⟩ := H
         go_wp2
         go_ret2
         exact ⟨by first | rfl | (simp [*] <;> rfl), by repeat (first | (with_reducible first | exact HB.out | apply zb3 | apply zb1 | apply zb2 | refine zb4 ?_ GE136.out) | exact HB.out)⟩
     ·rw [if_neg c17] at H
      exact absurd H (by simp)
    ·rw [if_neg c16] at H
     exact absurd H (by simp)

-- NOT PRINTED: function 49 (match_Scan_tell)

-- NOT PRINTED: function 26 (match_Scan_take)

-- NOT PRINTED: function 28 (match_Scan_ops)

-- NOT PRINTED: function 11 (match_Scan_Feed)

-- NOT PRINTED: function 30 (match_Scan_last)

-- NOT PRINTED: function 14 (match_Scan_Done)

-- NOT PRINTED: function 32 (delta_joiner)

def toT (x : S47) : Jn.T3 := (x.f0, x.f1, x.f2)
def ofT (t : Jn.T3) : S47 := ⟨t.1, t.2.1, t.2.2⟩
theorem map_to_of (l : List Jn.T3) : (l.map ofT).map toT = l := by
 rw [List.map_map]
 exact List.map_id l
def delta_Norm.f (l0 : List (S47)) : Option (List (S47)) := if l0.length ≤ 1000000 ∧ Jn.wt (l0.map toT) ≤ 1000000000 ∧ ∀ o ∈ l0.map toT, Jn.okO o then some (((l0.map toT).foldl Jn.addL []).map ofT) else none
theorem delta_Norm.calls (A0 : Option Addr) (c0 : Nat) (l0 : List (S47)) (r : List (S47)) (w : World) (hr0 : Kd.C k47 w A0 l0.length l0) (hc0 : l0.length ≤ c0) (h : delta_Norm.f l0 = some r) :
    Calls Try.prog 18 #[.slice A0 l0.length c0] w fun e w' => ∃ v0_ : Value, e = .returned v0_ ∧ Kd.N k47 47 w' w.heap.size (fun k_ => (w.heap.size ≤ k_)) v0_ r ∧ Below w.heap.size w w' := by
 unfold delta_Norm.f at h
 by_cases h0 : l0.length ≤ 1000000 ∧ Jn.wt (l0.map toT) ≤ 1000000000 ∧ ∀ o ∈ l0.map toT, Jn.okO o
 ·rw [if_pos h0] at h
  obtain rfl := Option.some.inj h
  have hC : Jn.kP.C w A0 (l0.map toT).length (l0.map toT) := by
   rw [List.length_map]
   exact Jn.iso_C hr0
  have hl : (l0.map toT).length = l0.length := List.length_map toT
  have := Jn.Norm_calls A0 c0 (l0.map toT) w hC (by omega) (by omega) h0.2.1 (Jn.can_all h0.2.2)
  rw [hl] at this
  refine this.mono fun e w' ⟨v, h1, h2, h3⟩ => ⟨v, h1, Jn.iso_N (f := toT) ?_, h3⟩
  rw [map_to_of]
  exact Jn.N_of_S h2
 ·rw [if_neg h0] at h
  cases h

def roll_halves.f (a0 : Int) : Option (Int × Int) := some (Go.bits .and .u32 a0 65535, a0 / 65536)
set_option maxHeartbeats 8000000 in
set_option maxRecDepth 100000 in
theorem roll_halves.calls (a0 : Int) (r1 : Int) (r2 : Int) (w : World) (h : roll_halves.f a0 = some (r1, r2)) :
    Calls Try.prog 62 #[.int .u32 a0] w fun e w' => e = .returned (.tuple #[.int .u32 r1, .int .u32 r2]) ∧ Drawn0 w w' := by
 have H : (some (Go.bits .and .u32 a0 65535, a0 / 65536)) = some (r1, r2) := h
 clear h
 simp only [Option.some.injEq, Prod.mk.injEq] at H
 obtain ⟨rfl, rfl⟩ := H
 go_enter Try.func62, Try.ntmps62
 go_wp2
 go_ret2
 exact ⟨by first | rfl | (simp; done) | (simp [*]; done), by repeat (first | exact Drawn0.refl _ | apply Drawn0.step)⟩

def roll_join.f (a0 : Int) (a1 : Int) : Option (Int) := some (Go.bits .or .u32 (Go.bits .and .u32 a0 65535) ((a1 * 65536) % 4294967296))
set_option maxHeartbeats 8000000 in
set_option maxRecDepth 100000 in
theorem roll_join.calls (a0 : Int) (a1 : Int) (r : Int) (w : World) (h : roll_join.f a0 a1 = some r) :
    Calls Try.prog 63 #[.int .u32 a0, .int .u32 a1] w fun e w' => e = .returned (.int .u32 r) ∧ Drawn0 w w' := by
 have H : (some (Go.bits .or .u32 (Go.bits .and .u32 a0 65535) ((a1 * 65536) % 4294967296))) = some r := h
 clear h
 obtain rfl := Option.some.inj H
 go_enter Try.func63, Try.ntmps63
 go_wp2
 go_ret
 exact ⟨by first | rfl | (simp; done) | (simp [*]; done), by repeat (first | exact Drawn0.refl _ | apply Drawn0.step)⟩

def roll_In.f (a0 : Int) (a1 : Int) (a2 : Int) : Option (Int) := (roll_halves.f a0).bind fun bt142 => ((roll_join.f ((bt142.1 + ((((a2) % 4294967296) + 31) % 4294967296)) % 4294967296) ((bt142.2 + ((bt142.1 + ((((a2) % 4294967296) + 31) % 4294967296)) % 4294967296)) % 4294967296)).bind fun t144 => (some t144))
set_option maxHeartbeats 8000000 in
set_option maxRecDepth 100000 in
theorem roll_In.calls (a0 : Int) (a1 : Int) (a2 : Int) (r : Int) (w : World) (h : roll_In.f a0 a1 a2 = some r) :
    Calls Try.prog 44 #[.int .u32 a0, .int .i64 a1, .int .u8 a2] w fun e w' => e = .returned (.int .u32 r) ∧ Drawn0 w w' := by
 have H : ((roll_halves.f a0).bind fun bt142 => ((roll_join.f ((bt142.1 + ((((a2) % 4294967296) + 31) % 4294967296)) % 4294967296) ((bt142.2 + ((bt142.1 + ((((a2) % 4294967296) + 31) % 4294967296)) % 4294967296)) % 4294967296)).bind fun t144 => (some t144))) = some r := h
 clear h
 replace H := Option.bind_eq_some_iff.mp H
 obtain ⟨⟨t142, t143⟩, A40, H⟩ := H
 replace H : ((roll_join.f ((t142 + ((((a2) % 4294967296) + 31) % 4294967296)) % 4294967296) ((t143 + ((t142 + ((((a2) % 4294967296) + 31) % 4294967296)) % 4294967296)) % 4294967296)).bind fun t144 => (some t144)) = some r := H
 have A4 := zA A40
 clear A40
 replace H := Option.bind_eq_some_iff.mp H
 obtain ⟨t144, A50, H⟩ := H
 replace H : (some t144) = some r := H
 have A5 := zA A50
 clear A50
 obtain rfl := Option.some.inj H
 go_enter Try.func44, Try.ntmps44
 go_wp2_with (first | ((with_reducible refine gate_callee (f := 62) rfl ?_); refine goesL_ (some 11) rfl rfl Try.func62 (by kernel_rfl) rfl #[.int .u32 a0] rfl (by (try simp only [zm1, zm2, zm3]); first | done | rfl | (simp only [List.length_drop, List.length_take]; rfl) | (simp only [Int.emod_add_emod, Int.add_emod_emod]; rfl)) ?_; (with_reducible refine (roll_halves.calls a0 t142 t143 _ A4.out).mono ?_); rintro e w' ⟨rfl, ⟨nd, rfl⟩⟩; refine ⟨_, rfl, ?_⟩) | ((with_reducible refine gate_callee (f := 63) rfl ?_); refine goesL_ (some 23) rfl rfl Try.func63 (by kernel_rfl) rfl #[.int .u32 ((t142 + ((((a2) % 4294967296) + 31) % 4294967296)) % 4294967296), .int .u32 ((t143 + ((t142 + ((((a2) % 4294967296) + 31) % 4294967296)) % 4294967296)) % 4294967296)] rfl (by (try simp only [zm1, zm2, zm3]); first | done | rfl | (simp only [List.length_drop, List.length_take]; rfl) | (simp only [Int.emod_add_emod, Int.add_emod_emod]; rfl)) ?_; (with_reducible refine (roll_join.calls ((t142 + ((((a2) % 4294967296) + 31) % 4294967296)) % 4294967296) ((t143 + ((t142 + ((((a2) % 4294967296) + 31) % 4294967296)) % 4294967296)) % 4294967296) t144 _ A5.out).mono ?_); rintro e w' ⟨rfl, ⟨nd, rfl⟩⟩; refine ⟨_, rfl, ?_⟩))
 go_ret
 exact ⟨by first | rfl | (simp; done) | (simp [*]; done), by repeat (first | exact Drawn0.refl _ | apply Drawn0.step)⟩

def roll_small.f (a0 : Int) : Option (Int) := some ((Go.bits .and .i64 a0 65535) % 4294967296)
set_option maxHeartbeats 8000000 in
set_option maxRecDepth 100000 in
theorem roll_small.calls (a0 : Int) (r : Int) (w : World) (h : roll_small.f a0 = some r) :
    Calls Try.prog 66 #[.int .i64 a0] w fun e w' => e = .returned (.int .u32 r) ∧ Drawn0 w w' := by
 have H : (some ((Go.bits .and .i64 a0 65535) % 4294967296)) = some r := h
 clear h
 obtain rfl := Option.some.inj H
 go_enter Try.func66, Try.ntmps66
 go_wp2
 go_ret
 exact ⟨by first | rfl | (simp; done) | (simp [*]; done), by repeat (first | exact Drawn0.refl _ | apply Drawn0.step)⟩

def roll_Out.f (a0 : Int) (a1 : Int) (a2 : Int) : Option (Int) := (roll_halves.f a0).bind fun h => (roll_small.f a1).bind fun t => roll_join.f ((h.1 - ((a2 % 4294967296 + 31) % 4294967296)) % 4294967296) ((h.2 - ((t * ((a2 % 4294967296 + 31) % 4294967296)) % 4294967296)) % 4294967296)
set_option maxHeartbeats 8000000 in
set_option maxRecDepth 100000 in
theorem roll_Out.calls (a0 : Int) (a1 : Int) (a2 : Int) (r : Int) (w : World) (h : roll_Out.f a0 a1 a2 = some r) :
    Calls Try.prog 51 #[.int .u32 a0, .int .i64 a1, .int .u8 a2] w fun e w' => e = .returned (.int .u32 r) ∧ Below w.heap.size w w' := by
 obtain ⟨⟨x, y⟩, hx, h⟩ := Option.bind_eq_some_iff.mp h
 obtain ⟨t, ht, h⟩ := Option.bind_eq_some_iff.mp h
 have H1 : Aside0 (roll_halves.f a0 = some (x, y)) := ⟨hx⟩
 have H2 : Aside0 (roll_small.f a1 = some t) := ⟨ht⟩
 have H3 : Aside0 (roll_join.f ((x - ((a2 % 4294967296 + 31) % 4294967296)) % 4294967296) ((y - ((t * ((a2 % 4294967296 + 31) % 4294967296)) % 4294967296)) % 4294967296) = some r) := ⟨h⟩
 clear h hx ht
 go_enter Try.func51, Try.ntmps51
 go_wp2_with fail
 refine (roll_halves.calls a0 x y _ H1.out).mono ?_
 rintro e w1 ⟨rfl, hb1⟩
 have HB := zA hb1.below
 clear hb1
 go_wp2_with fail
 refine (roll_small.calls a1 t _ H2.out).mono ?_
 rintro e w2 ⟨rfl, hb2⟩
 replace HB := zA (zb5 HB.out hb2.below)
 clear hb2
 go_wp2_with fail
 refine calls_of_args ?_ ((roll_join.calls _ _ r _ H3.out).mono ?_)
 ·have e1 : ∀ p q : Int, p = q → (Value.int .u32 p) = .int .u32 q := fun p q h => by rw [h]
  have e2 : ∀ a b c d : Value, a = c → b = d → (#[a, b] : Array Value) = #[c, d] := fun a b c d h1 h2 => by rw [h1, h2]
  refine e2 _ _ _ _ (e1 _ _ ?_) (e1 _ _ ?_)
  ·first | rfl | omega
  ·first | rfl | (simp only [Int.emod_emod_of_dvd, Int.sub_emod, Int.mul_emod, Int.add_emod, Int.emod_emod, Int.emod_add_emod, Int.add_emod_emod]; done) | (simp [Int.sub_emod, Int.mul_emod]; done)
 ·rintro e w3 ⟨rfl, hb3⟩
  replace HB := zA (zb5 HB.out hb3.below)
  clear hb3
  go_wp2_with fail
  go_ret
  exact ⟨rfl, HB.out⟩

end Go.Proofs.Ytkihlcmjjoiccaa.PMatchCosts
