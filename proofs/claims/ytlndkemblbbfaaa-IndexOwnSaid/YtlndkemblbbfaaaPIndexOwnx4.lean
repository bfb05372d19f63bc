-- Written by a program of this session (the kit's printer with hand-written contracts among its functions).
-- squeezed
import Derived.Test.YtlndkemblbbfaaaPIndexOwnx0
import Derived.Test.YtlndkemblbbfaaaPIndexOwnx1
import Derived.Test.YtlndkemblbbfaaaPIndexOwnx3
namespace Go.Proofs.Ytlndkemblbbfaaa.PIndexOwn
open Go.RowKit Go.Proofs.YtlndkemblbbfaaaW.PrintWords Go.Proofs.YtlndkemblbbfaaaW.PrintLast Go.Proofs.YtlndkemblbbfaaaW.PrintMore
attribute [local go_sem] max2_int min2_int max_two min_two max_three min_three max_four min_four   -- for this text's walks alone
set_option linter.unusedVariables false
set_option linter.unusedSimpArgs false

/-! ### index_Index_Pick: function 13 -/
mutual
def index_Index_Pick.j0 : Nat → Int → ByteArray → Int → Int → Bool → List (S44) → Int → Int → List (List Int) → Option (Int × Bool)
 | 0, _, _, _, _, _, _, _, _, _ => none
 | k + 1, x1, x2, x3, x4, x34, x115000, x115001, x115002, x115003 => if x34 = true then (some (x4, true)) else ((index_Index_head.f x115000 x115001 x115002 x115003 x1).bind fun t116 => (if 0 ≤ t116 then (if t116 < (x115003.length : Int) then (index_Index_Pick.l0 k x1 x2 x3 (rd_L6 x115003 t116) ((rd_L6 x115003 t116).length : Int) 0 x115000 x115001 x115002 x115003) else (none)) else (none)))
def index_Index_Pick.l0 : Nat → Int → ByteArray → Int → List Int → Int → Int → List (S44) → Int → Int → List (List Int) → Option (Int × Bool)
 | 0, _, _, _, _, _, _, _, _, _, _ => none
 | k + 1, x1, x2, x3, x44, x45, x46, x115000, x115001, x115002, x115003 => if x46 < x45 then (if 0 ≤ x46 then (if x46 < (x44.length : Int) then ((index_Index_has.f x115000 x115001 x115002 x115003 (rd x44 x46) x1 x2 x3).bind fun t119 => (if t119 = true then (some (rd x44 x46, true)) else (index_Index_Pick.l0 k x1 x2 x3 x44 x45 (wrap64 (x46 + 1)) x115000 x115001 x115002 x115003))) else (none)) else (none)) else (some (0, false))
end
def index_Index_Pick.f (k : Nat) (l0_0 : List (S44)) (a0_1 : Int) (a0_2 : Int) (l0_3 : List (List Int)) (a1 : Int) (a2 : ByteArray) (a3 : Int) (a4 : Int) : Option (Int × Bool) := if a4 ≥ 0 then (if a4 < (l0_0.length : Int) then ((index_Index_has.f l0_0 a0_1 a0_2 l0_3 a4 a1 a2 a3).bind fun t115 => (index_Index_Pick.j0 k a1 a2 a3 a4 t115 l0_0 a0_1 a0_2 l0_3)) else (index_Index_Pick.j0 k a1 a2 a3 a4 false l0_0 a0_1 a0_2 l0_3)) else (index_Index_Pick.j0 k a1 a2 a3 a4 false l0_0 a0_1 a0_2 l0_3)
theorem index_Index_Pick.mono_l : ∀ k, (∀ y0 y1 y2 y3 y4 y5 y6 y7 y8, LeO (index_Index_Pick.j0 k y0 y1 y2 y3 y4 y5 y6 y7 y8) (index_Index_Pick.j0 (k + 1) y0 y1 y2 y3 y4 y5 y6 y7 y8)) ∧ (∀ y0 y1 y2 y3 y4 y5 y6 y7 y8 y9, LeO (index_Index_Pick.l0 k y0 y1 y2 y3 y4 y5 y6 y7 y8 y9) (index_Index_Pick.l0 (k + 1) y0 y1 y2 y3 y4 y5 y6 y7 y8 y9))
 | 0 => ⟨fun _ _ _ _ _ _ _ _ _ r h => by simp [index_Index_Pick.j0] at h, fun _ _ _ _ _ _ _ _ _ _ r h => by simp [index_Index_Pick.l0] at h⟩
 | k + 1 => by
  obtain ⟨ih0, ih1⟩ := index_Index_Pick.mono_l k
  refine ⟨?_, ?_⟩
  ·intro y0 y1 y2 y3 y4 y5 y6 y7 y8
   unfold index_Index_Pick.j0
   repeat' first
   | (with_reducible exact ih0 _ _ _ _ _ _ _ _ _)
   | (with_reducible exact ih1 _ _ _ _ _ _ _ _ _ _)
   | (with_reducible exact LeO.refl _)
   | (with_reducible exact LeO.none _)
   | (with_reducible refine LeO.ite ?_ ?_)
   | (with_reducible refine LeO.bind ?_ (fun _ => ?_))
   | exact ih0 _ _ _ _ _ _ _ _ _
   | exact ih1 _ _ _ _ _ _ _ _ _ _
   | exact LeO.none _
   | refine LeO.ite ?_ ?_
   | refine LeO.bind ?_ (fun _ => ?_)
  ·intro y0 y1 y2 y3 y4 y5 y6 y7 y8 y9
   unfold index_Index_Pick.l0
   repeat' first
   | (with_reducible exact ih0 _ _ _ _ _ _ _ _ _)
   | (with_reducible exact ih1 _ _ _ _ _ _ _ _ _ _)
   | (with_reducible exact LeO.refl _)
   | (with_reducible exact LeO.none _)
   | (with_reducible refine LeO.ite ?_ ?_)
   | (with_reducible refine LeO.bind ?_ (fun _ => ?_))
   | exact ih0 _ _ _ _ _ _ _ _ _
   | exact ih1 _ _ _ _ _ _ _ _ _ _
   | exact LeO.none _
   | refine LeO.ite ?_ ?_
   | refine LeO.bind ?_ (fun _ => ?_)
theorem index_Index_Pick.mono : ∀ a0 a1 a2 a3 a4 a5 a6 a7 k, LeO (index_Index_Pick.f k a0 a1 a2 a3 a4 a5 a6 a7) (index_Index_Pick.f (k + 1) a0 a1 a2 a3 a4 a5 a6 a7) := by
 intro a0 a1 a2 a3 a4 a5 a6 a7 k
 obtain ⟨ih0, ih1⟩ := index_Index_Pick.mono_l k
 unfold index_Index_Pick.f
 repeat' first
     | (with_reducible exact ih0 _ _ _ _ _ _ _ _ _)
     | (with_reducible exact ih1 _ _ _ _ _ _ _ _ _ _)
     | (with_reducible exact LeO.refl _)
     | (with_reducible exact LeO.none _)
     | (with_reducible refine LeO.ite ?_ ?_)
     | (with_reducible refine LeO.bind ?_ (fun _ => ?_))
     | exact ih0 _ _ _ _ _ _ _ _ _
     | exact ih1 _ _ _ _ _ _ _ _ _ _
     | exact LeO.none _
     | refine LeO.ite ?_ ?_
     | refine LeO.bind ?_ (fun _ => ?_)
def index_Index_Pick.T5 : Bool × List (List Nat × List Nat) := (true, [([], []), ([0], [0]), ([1], [1]), ([2], [2]), ([], []), ([], []), ([4, 5], [4, 5]), ([3, 6], [3, 6]), ([7], [7]), ([8], [8]), ([], [])])
def index_Index_Pick.B5 : List Nat := [0, 1, 3, 7, 0, 0, 48, 127, 255, 511, 0]
theorem index_Index_Pick.tab5 : rtab .any (opsOf Try.f13 5) = index_Index_Pick.T5 := by kernel_rfl
theorem index_Index_Pick.bits5 : waitsOk index_Index_Pick.T5.2 index_Index_Pick.B5 = true := by kernel_rfl
set_option maxHeartbeats 8000000 in
set_option maxRecDepth 100000 in
theorem index_Index_Pick.calls (g : Nat) (k : Nat) (A0_0 : Option Addr) (c0_0 : Nat) (l0_0 : List (S44)) (a0_1 : Int) (a0_2 : Int) (A0_3 : Option Addr) (c0_3 : Nat) (l0_3 : List (List Int)) (a1 : Int) (a2 : ByteArray) (a3 : Int) (a4 : Int) (r1 : Int) (r2 : Bool) (w : World) (hr0_0 : Kd.C k44 w A0_0 l0_0.length l0_0) (hc0_0 : l0_0.length ≤ c0_0) (hr0_3 : Kd.C (Kd.slice 3 (Kd.int .i64)) w A0_3 l0_3.length l0_3) (hc0_3 : l0_3.length ≤ c0_3) (hx : w.heap[g]? = some (.cells #[.slice A0_0 l0_0.length c0_0, .int .i64 a0_1, .int .i64 a0_2, .slice A0_3 l0_3.length c0_3] 61 (0, 0))) (h : index_Index_Pick.f k l0_0 a0_1 a0_2 l0_3 a1 a2 a3 a4 = some (r1, r2)) :
    Calls Try.prog 13 #[.pointer (some ⟨g, 0, none⟩), .int .u32 a1, .string a2, .int .i64 a3, .int .i64 a4] w fun e w' => e = .returned (.tuple #[.int .i64 r1, .bool r2]) ∧ Below w.heap.size w w' := by
 have hu61 := Try.underlying61
 have HR0_0 := zA hr0_0
 have HC0_0 := zA hc0_0
 clear hr0_0 hc0_0
 have HR0_3 := zA hr0_3
 have HC0_3 := zA hc0_3
 clear hr0_3 hc0_3
 have HB := zA (Below.refl w.heap.size w)
 have H : (if a4 ≥ 0 then (if a4 < (l0_0.length : Int) then ((index_Index_has.f l0_0 a0_1 a0_2 l0_3 a4 a1 a2 a3).bind fun t115 => (index_Index_Pick.j0 k a1 a2 a3 a4 t115 l0_0 a0_1 a0_2 l0_3)) else (index_Index_Pick.j0 k a1 a2 a3 a4 false l0_0 a0_1 a0_2 l0_3)) else (index_Index_Pick.j0 k a1 a2 a3 a4 false l0_0 a0_1 a0_2 l0_3)) = some (r1, r2) := h
 clear h
 have HC6 := zA H
 clear H
 go_enter Try.func13, Try.ntmps13
 have BK114 := zA hx
 go_upto_region 3 with (first | fail)
 (try simp only [Act.put, zs1, zs2, zs3])
 go_cut [34] (fun v34 wc => ∃ (kq : Nat) (x34_5 : Bool), v34 = .bool x34_5 ∧ Aside0 (index_Index_Pick.j0 kq a1 a2 a3 a4 x34_5 l0_0 a0_1 a0_2 l0_3 = some (r1, r2)) ∧ Aside0 (kq ≤ k) ∧ Aside0 (wc.heap[g]? = some (.cells #[(.slice A0_0 l0_0.length c0_0), .int .i64 a0_1, .int .i64 a0_2, (.slice A0_3 l0_3.length c0_3)] 61 (0, 0))) ∧ Aside0 (Below w.heap.size w wc))
 case first =>
  have H := HC6.out
  clear HC6
  by_cases c8 : a4 ≥ 0
  ·rw [if_pos c8] at H
   have c8b0 : decide (0 ≤ a4) = true := zd1 c8
   clear c8
   (first | rw [c8b0] | (simp only [i64_w, i32_w]; rw [c8b0]) | skip)
   by_cases c9 : a4 < (l0_0.length : Int)
   ·rw [if_pos c9] at H
    have c9b0 : decide (a4 < (l0_0.length : Int)) = true := zd1 c9
    clear c9
    replace H := Option.bind_eq_some_iff.mp H
    obtain ⟨t115, A100, H⟩ := H
    replace H : (index_Index_Pick.j0 k a1 a2 a3 a4 t115 l0_0 a0_1 a0_2 l0_3) = some (r1, r2) := H
    have A10 := zA A100
    clear A100
    have H' := zA H
    clear H
    have hcz11_0 : w.cell? ⟨g, 0, none⟩ = some (.slice A0_0 l0_0.length c0_0) := (zc1 BK114.out 0).trans rfl
    have hcz11_1 : w.cell? ⟨g, 1, none⟩ = some (.int .i64 a0_1) := (zc1 BK114.out 1).trans rfl
    have hcz11_2 : w.cell? ⟨g, 2, none⟩ = some (.int .i64 a0_2) := (zc1 BK114.out 2).trans rfl
    have hcz11_3 : w.cell? ⟨g, 3, none⟩ = some (.slice A0_3 l0_3.length c0_3) := (zc1 BK114.out 3).trans rfl
    have hfz11_0 := zc5 BK114.out 0
    have hfz11_1 := zc5 BK114.out 1
    have hfz11_2 := zc5 BK114.out 2
    have hfz11_3 := zc5 BK114.out 3
    go_wp2_with (first | (go_at_call 28; (with_reducible refine (index_Index_has.calls g A0_0 c0_0 l0_0 a0_1 a0_2 A0_3 c0_3 l0_3 a4 a1 a2 a3 t115 _ ?side1 ?side2 ?side3 ?side4 ?sideX A10.out).mono ?_); (case sideX => exact (by (with_reducible repeat (first | refine zc3 ?_ _ | refine zc4 ?_ | refine zc2 ?_ _)); exact BK114.out)); (case side1 => repeat (first | exact (Kd.C_below HR0_0.out HB.out) | (with_reducible refine Kd.C_alloc ?_ _) | (with_reducible refine Kd.C_drewN ?_ _) | (with_reducible refine Kd.C_drew ?_))); (case side2 => exact HC0_0.out); (case side3 => repeat (first | exact (Kd.C_below HR0_3.out HB.out) | (with_reducible refine Kd.C_alloc ?_ _) | (with_reducible refine Kd.C_drewN ?_ _) | (with_reducible refine Kd.C_drew ?_))); (case side4 => exact HC0_3.out); rintro e w12 ⟨rfl, hb⟩; have n0_ := zA (zc6 (g := g) (o := .cells #[.slice A0_0 l0_0.length c0_0, .int .i64 a0_1, .int .i64 a0_2, .slice A0_3 l0_3.length c0_3] 61 (0, 0)) (by (with_reducible repeat (first | refine zc3 ?_ _ | refine zc4 ?_ | refine zc2 ?_ _)); exact BK114.out) hb); have n1_ := zA (zb5 (by repeat (first | (with_reducible first | exact HB.out | apply zb3 | apply zb1 | apply zb2 | refine zb4 ?_ GE114.out) | exact HB.out)) hb); clear BK114; clear HB; have BK114 := n0_; have HB := n1_; clear n0_ n1_; (try clear hb); (try clear hb2); (try clear hk); (try clear hi)))
    go_meet
    case rel => exact ⟨_, (t115), (by first | rfl | (simp; done) | (simp [*]; done)), H', ⟨by first | omega | exact Nat.le_refl _⟩, ⟨by (with_reducible repeat (first | refine zc3 ?_ _ | refine zc4 ?_ | refine zc2 ?_ _)); exact BK114.out⟩, ⟨by repeat (first | (with_reducible first | exact HB.out | apply zb3 | apply zb1 | apply zb2 | refine zb4 ?_ GE114.out) | exact HB.out)⟩⟩
   ·rw [if_neg c9] at H
    have c9b0 : decide (a4 < (l0_0.length : Int)) = false := zd2 c9
    clear c9
    have H' := zA H
    clear H
    have hcz13_0 : w.cell? ⟨g, 0, none⟩ = some (.slice A0_0 l0_0.length c0_0) := (zc1 BK114.out 0).trans rfl
    have hcz13_1 : w.cell? ⟨g, 1, none⟩ = some (.int .i64 a0_1) := (zc1 BK114.out 1).trans rfl
    have hcz13_2 : w.cell? ⟨g, 2, none⟩ = some (.int .i64 a0_2) := (zc1 BK114.out 2).trans rfl
    have hcz13_3 : w.cell? ⟨g, 3, none⟩ = some (.slice A0_3 l0_3.length c0_3) := (zc1 BK114.out 3).trans rfl
    have hfz13_0 := zc5 BK114.out 0
    have hfz13_1 := zc5 BK114.out 1
    have hfz13_2 := zc5 BK114.out 2
    have hfz13_3 := zc5 BK114.out 3
    go_wp2
    go_meet
    case rel => exact ⟨_, (false), (by first | rfl | (simp; done) | (simp [*]; done)), H', ⟨by first | omega | exact Nat.le_refl _⟩, ⟨by (with_reducible repeat (first | refine zc3 ?_ _ | refine zc4 ?_ | refine zc2 ?_ _)); exact BK114.out⟩, ⟨by repeat (first | (with_reducible first | exact HB.out | apply zb3 | apply zb1 | apply zb2 | refine zb4 ?_ GE114.out) | exact HB.out)⟩⟩
  ·rw [if_neg c8] at H
   have c8b0 : decide (0 ≤ a4) = false := zd2 c8
   clear c8
   (first | rw [c8b0] | (simp only [i64_w, i32_w]; rw [c8b0]) | skip)
   have H' := zA H
   clear H
   go_wp2
   go_meet
   case rel => exact ⟨_, (false), (by first | rfl | (simp; done) | (simp [*]; done)), H', ⟨by first | omega | exact Nat.le_refl _⟩, ⟨by (with_reducible repeat (first | refine zc3 ?_ _ | refine zc4 ?_ | refine zc2 ?_ _)); exact BK114.out⟩, ⟨by repeat (first | (with_reducible first | exact HB.out | apply zb3 | apply zb1 | apply zb2 | refine zb4 ?_ GE114.out) | exact HB.out)⟩⟩
 case rest =>
  clear HC6
  try clear c1
  try clear p2
  try clear c8
  try clear c8b0
  try clear c9
  try clear c9b0
  try clear c13
  try clear hcz11_0
  try clear hcz11_1
  try clear hcz11_2
  try clear hcz11_3
  try clear hcz13_0
  try clear hcz13_1
  try clear hcz13_2
  try clear hcz13_3
  try clear hfz11_0
  try clear hfz11_1
  try clear hfz11_2
  try clear hfz11_3
  try clear hfz13_0
  try clear hfz13_1
  try clear hfz13_2
  try clear hfz13_3
  obtain ⟨kq, x34_5, rfl, HA, HJ5, BK114, HB⟩ := hcut
  cases kq with
  | zero => exact absurd HA.out (by simp [index_Index_Pick.j0])
  | succ kj5 =>
   have H := HA.out
   clear HA
   simp only [index_Index_Pick.j0] at H
   by_cases c14 : x34_5 = true
   ·subst c14
    have H1 : (some (a4, true)) = some (r1, r2) := by rw [if_pos rfl] at H; exact H
    clear H
    have H := H1
    clear H1
    simp only [Option.some.injEq, Prod.mk.injEq] at H
    obtain ⟨rfl, rfl⟩ := H
    go_wp2
    go_ret2
    exact ⟨by first | rfl | (simp [*] <;> rfl), by repeat (first | (with_reducible first | exact HB.out | apply zb3 | apply zb1 | apply zb2 | refine zb4 ?_ GE114.out) | exact HB.out)⟩
   ·replace c14 := Bool.eq_false_iff.mpr c14
    subst c14
    have H1 : ((index_Index_head.f l0_0 a0_1 a0_2 l0_3 a1).bind fun t116 => (if 0 ≤ t116 then (if t116 < (l0_3.length : Int) then (index_Index_Pick.l0 kj5 a1 a2 a3 (rd_L6 l0_3 t116) ((rd_L6 l0_3 t116).length : Int) 0 l0_0 a0_1 a0_2 l0_3) else (none)) else (none))) = some (r1, r2) := by rw [if_neg (show ¬ (false = true) by decide)] at H; exact H
    clear H
    have H := H1
    clear H1
    replace H := Option.bind_eq_some_iff.mp H
    obtain ⟨t116, A150, H⟩ := H
    replace H : (if 0 ≤ t116 then (if t116 < (l0_3.length : Int) then (index_Index_Pick.l0 kj5 a1 a2 a3 (rd_L6 l0_3 t116) ((rd_L6 l0_3 t116).length : Int) 0 l0_0 a0_1 a0_2 l0_3) else (none)) else (none)) = some (r1, r2) := H
    have A15 := zA A150
    clear A150
    by_cases c16 : 0 ≤ t116
    ·rw [if_pos c16] at H
     have c16b0 : decide (0 ≤ t116) = true := zd1 c16
     clear c16
     by_cases c17 : t116 < (l0_3.length : Int)
     ·rw [if_pos c17] at H
      have c17b0 : decide (t116 < (l0_3.length : Int)) = true := zd1 c17
      clear c17
      have H' := zA H
      clear H
      try go_wp2
      have n0_ := zA (zc4 BK114.out)
      have n1_ := zA (zb2 HB.out)
      clear BK114
      clear HB
      have BK114 := n0_
      have HB := n1_
      clear n0_ n1_
      have p117 : 0 ≤ (t116 : Int) := zd3 (by first | (with_reducible assumption) | assumption)
      have q117 : t116 < (l0_3.length : Int) := zd3 (by first | (with_reducible assumption) | assumption)
      obtain ⟨ad117, A117_0, c117_0, e117, hx117_0, hl117_0, hi117_0⟩ := at_L6 HR0_3.out t116 p117 q117
      have hw117_0 := hx117_0
      cases e117
      replace hx117_0 := (HB.out.cell (World.block_lt_of_cell? w _ hx117_0)).trans hx117_0
      have HR117_0 := zA hi117_0
      have HC117_0 := zA hl117_0
      clear hi117_0 hl117_0
      replace p117 := eq_true p117
      replace q117 := eq_true q117
      refine start_ (n := 11) (S := fun w' => w'.cell? ⟨g, 0, none⟩ = some (.slice A0_0 l0_0.length c0_0) ∧ w'.cell? ⟨g, 1, none⟩ = some (.int .i64 a0_1) ∧ w'.cell? ⟨g, 2, none⟩ = some (.int .i64 a0_2) ∧ w'.cell? ⟨g, 3, none⟩ = some (.slice (some ad117) l0_3.length c0_3) ∧ w'.cell? (ad117.add (t116).toNat) = some (.slice A117_0 (rd_L6 l0_3 t116).length c117_0)) (ds := []) #[false, false, false, false, false, false, false, false, false, false, false] (by kernel_rfl) rfl rfl ⟨(zc1 BK114.out 0).trans rfl, (zc1 BK114.out 1).trans rfl, (zc1 BK114.out 2).trans rfl, (zc1 BK114.out 3).trans rfl, ((HB.out.cell (World.block_lt_of_cell? w _ hw117_0)).trans hw117_0)⟩ (fun hHeld => ?_); refine with_tabW index_Index_Pick.tab5 index_Index_Pick.bits5 (fun HT_ HW_ => ?_)
      generalize wc.drew = w18 at BK114 HB HR117_0 hx117_0 hHeld ⊢
      refine pure_ (i := 0) (N := some 36) (v := ?_) (a' := ?_) #[true, false, false, false, false, false, false, false, false, false, false] rfl rfl (any_of HT_.out (by kernel_rfl)) (fun _ _ _ h => h) (Or.inl ⟨by rfl, ?_⟩) ?_ ?_
      rotate_left
      ·intro w'
       go_simp
       with_reducible rfl
      rotate_left
      ·simp only [Act.put, zs1, zs2, zs3, i64_w, i32_w]
       rfl
      refine pure_ (i := 1) (N := some 37) (v := ?_) (a' := ?_) #[true, true, false, false, false, false, false, false, false, false, false] rfl rfl (any_of HT_.out (by kernel_rfl)) (fun _ _ _ h => h) (Or.inl ⟨by rfl, ?_⟩) ?_ ?_
      rotate_left
      ·intro w'
       go_simp
       with_reducible rfl
      rotate_left
      ·simp only [Act.put, zs1, zs2, zs3, i64_w, i32_w]
       rfl
      refine pure_ (i := 2) (N := some 38) (v := ?_) (a' := ?_) #[true, true, true, false, false, false, false, false, false, false, false] rfl rfl (any_of HT_.out (by kernel_rfl)) (fun _ _ _ h => h) (Or.inl ⟨by rfl, ?_⟩) ?_ ?_
      rotate_left
      ·intro w'
       go_simp
       with_reducible rfl
      rotate_left
      ·simp only [Act.put, zs1, zs2, zs3, i64_w, i32_w]
       rfl
      refine pure_ (i := 5) (N := some 41) (v := ?_) (a' := ?_) #[true, true, true, false, false, true, false, false, false, false, false] rfl rfl (any_of HT_.out (by kernel_rfl)) (fun _ _ _ h => h) (Or.inl ⟨by rfl, ?_⟩) ?_ ?_
      rotate_left
      ·intro w'
       go_simp
       with_reducible rfl
      rotate_left
      ·simp only [Act.put, zs1, zs2, zs3, i64_w, i32_w]
       rfl
      refine pure_ (i := 10) (N := some 46) (v := ?_) (a' := ?_) #[true, true, true, false, false, true, false, false, false, false, true] rfl rfl (any_of HT_.out (by kernel_rfl)) (fun _ _ _ h => h) (Or.inl ⟨by rfl, ?_⟩) ?_ ?_
      rotate_left
      ·intro w'
       go_simp
       with_reducible rfl
      rotate_left
      ·simp only [Act.put, zs1, zs2, zs3, i64_w, i32_w]
       rfl
      refine take_ (i := 3) (N := some 39) (v := ?_) (a' := ?_) #[true, true, true, true, false, true, false, false, false, false, true] rfl rfl (take_ofW HT_.out HW_.out (by kernel_rfl)) (fun _ _ _ h => h) (Or.inl ⟨by rfl, ?_⟩) hHeld ?_ ?_
      rotate_left
      ·rintro w' ⟨s0, s1, s2, s3, s4⟩
       go_simp
       with_reducible rfl
      rotate_left
      ·simp only [Act.put, zs1, zs2, zs3, i64_w, i32_w]
       rfl
      refine take_ (i := 4) (N := some 40) (v := ?_) (a' := ?_) #[true, true, true, true, true, true, false, false, false, false, true] rfl rfl (take_ofW HT_.out HW_.out (by kernel_rfl)) (fun _ _ _ h => h) (Or.inl ⟨by rfl, ?_⟩) hHeld ?_ ?_
      rotate_left
      ·rintro w' ⟨s0, s1, s2, s3, s4⟩
       go_simp
       with_reducible rfl
      rotate_left
      ·simp only [Act.put, zs1, zs2, zs3, i64_w, i32_w]
       rfl
      refine one_ (i := 6) (N := some 42) #[true, true, true, true, true, true, true, false, false, false, true] rfl rfl (one_of HT_.out (by kernel_rfl)) (by decide) (fun K hK => ?_)
      refine goes_ Try.func27 (by kernel_rfl) rfl #[.pointer (some ⟨g, 0, none⟩), .int .u32 a1] (by rfl) rfl rfl (by (try simp only [zm1, zm2, zm3]); first | done | rfl | (simp only [List.length_drop, List.length_take]; rfl)) ?_
      with_reducible refine (index_Index_head.calls g A0_0 c0_0 l0_0 a0_1 a0_2 (some ad117) c0_3 l0_3 a1 t116 _ ?side1 ?side2 ?side3 ?side4 ?sideX A15.out).mono ?_
      (case sideX => exact (by (with_reducible repeat (first | refine zc3 ?_ _ | refine zc4 ?_ | refine zc2 ?_ _)); exact BK114.out))
      (case side1 => repeat (first | exact (Kd.C_below HR0_0.out HB.out) | (with_reducible refine Kd.C_alloc ?_ _) | (with_reducible refine Kd.C_drewN ?_ _) | (with_reducible refine Kd.C_drew ?_)))
      (case side2 => exact HC0_0.out)
      (case side3 => repeat (first | exact (Kd.C_below HR0_3.out HB.out) | (with_reducible refine Kd.C_alloc ?_ _) | (with_reducible refine Kd.C_drewN ?_ _) | (with_reducible refine Kd.C_drew ?_)))
      (case side4 => exact HC0_3.out)
      rintro e w19 ⟨rfl, hb⟩
      refine ⟨_, rfl, ?_⟩
      have n0_ := zA (zc6 (g := g) (o := .cells #[.slice A0_0 l0_0.length c0_0, .int .i64 a0_1, .int .i64 a0_2, .slice (some ad117) l0_3.length c0_3] 61 (0, 0)) (by (with_reducible repeat (first | refine zc3 ?_ _ | refine zc4 ?_ | refine zc2 ?_ _)); exact BK114.out) hb)
      have n1_ := zA (zb5 (by repeat (first | (with_reducible first | exact HB.out | apply zb3 | apply zb1 | apply zb2 | refine zb4 ?_ GE114.out) | exact HB.out)) hb)
      clear BK114
      clear HB
      have BK114 := n0_
      have HB := n1_
      clear n0_ n1_
      (try clear hb)
      (try clear hb2)
      (try clear hk)
      (try clear hi)
      refine hK.out _ _ ⟨(zc1 BK114.out 0).trans rfl, (zc1 BK114.out 1).trans rfl, (zc1 BK114.out 2).trans rfl, (zc1 BK114.out 3).trans rfl, ((HB.out.cell (World.block_lt_of_cell? w _ hw117_0)).trans hw117_0)⟩ (fun hHeld => ?_)
      clear hK K
      refine norm_ (a' := ?_) ?_ ?_
      rotate_left
      ·show Act.put _ (some 42) _ = _
       simp only [Act.put, zs1, zs2, zs3, i64_w, i32_w]
       rfl
      refine pure_ (i := 7) (N := some 43) (v := ?_) (a' := ?_) #[true, true, true, true, true, true, true, true, false, false, true] rfl rfl (any_of HT_.out (by kernel_rfl)) (fun _ _ _ h => h) (Or.inl ⟨by rfl, ?_⟩) ?_ ?_
      rotate_left
      ·intro w'
       go_simp
       with_reducible rfl
      rotate_left
      ·simp only [Act.put, zs1, zs2, zs3, i64_w, i32_w]
       rfl
      refine take_ (i := 8) (N := some 44) (v := ?_) (a' := ?_) #[true, true, true, true, true, true, true, true, true, false, true] rfl rfl (take_ofW HT_.out HW_.out (by kernel_rfl)) (fun _ _ _ h => h) (Or.inl ⟨by rfl, ?_⟩) hHeld ?_ ?_
      rotate_left
      ·rintro w' ⟨s0, s1, s2, s3, s4⟩
       go_simp
       with_reducible rfl
      rotate_left
      ·simp only [Act.put, zs1, zs2, zs3, i64_w, i32_w]
       rfl
      refine pure_ (i := 9) (N := some 45) (v := ?_) (a' := ?_) #[true, true, true, true, true, true, true, true, true, true, true] rfl rfl (any_of HT_.out (by kernel_rfl)) (fun _ _ _ h => h) (Or.inl ⟨by rfl, ?_⟩) ?_ ?_
      rotate_left
      ·intro w'
       go_simp
       with_reducible rfl
      rotate_left
      ·simp only [Act.put, zs1, zs2, zs3, i64_w, i32_w]
       rfl
      refine done_ (done_of HT_.out (by kernel_rfl)) ?_
      try go_wp2
      go_loopg [46] kj5 (fun kq v46 w' => ∃ (x46_2 : Int), v46 = .int .i64 x46_2 ∧ Aside0 (index_Index_Pick.l0 kq a1 a2 a3 (rd_L6 l0_3 t116) ((rd_L6 l0_3 t116).length : Int) x46_2 l0_0 a0_1 a0_2 l0_3 = some (r1, r2)) ∧ Aside0 (kq ≤ kj5) ∧ Aside0 (w'.heap[g]? = some (.cells #[(.slice A0_0 l0_0.length c0_0), .int .i64 a0_1, .int .i64 a0_2, (.slice (some ad117) l0_3.length c0_3)] 61 (0, 0))) ∧ Aside0 (Below w.heap.size w w'))
      case atStart => exact ⟨(0), (by first | rfl | (simp; done) | (simp [*]; done)), H', ⟨Nat.le_refl _⟩, ⟨by (with_reducible repeat (first | refine zc3 ?_ _ | refine zc4 ?_ | refine zc2 ?_ _)); exact BK114.out⟩, ⟨by repeat (first | (with_reducible first | exact HB.out | apply zb3 | apply zb1 | apply zb2 | refine zb4 ?_ GE114.out) | exact HB.out)⟩⟩
      case round =>
       clear H'
       try clear c1
       try clear p1
       try clear q1
       try clear hx1
       try clear c2
       try clear p2
       try clear c8
       try clear c8b0
       try clear c9
       try clear c9b0
       try clear c11
       try clear p11
       try clear q11
       try clear hx11
       try clear c13
       try clear c14
       try clear c16
       try clear c16b0
       try clear c17
       try clear c17b0
       try clear hcz11_0
       try clear hcz11_1
       try clear hcz11_2
       try clear hcz11_3
       try clear hcz13_0
       try clear hcz13_1
       try clear hcz13_2
       try clear hcz13_3
       try clear hfz11_0
       try clear hfz11_1
       try clear hfz11_2
       try clear hfz11_3
       try clear hfz13_0
       try clear hfz13_1
       try clear hfz13_2
       try clear hfz13_3
       try clear hx117_0
       try clear p117
       try clear p2
       try clear q117
       obtain ⟨x46_2, rfl, HA, HK2, BK114, HB⟩ := hrel
       cases gk with
       | zero => exact absurd HA.out (by simp [index_Index_Pick.l0])
       | succ k2 =>
        have H := HA.out
        clear HA
        simp only [index_Index_Pick.l0] at H
        by_cases c20 : x46_2 < ((rd_L6 l0_3 t116).length : Int)
        ·rw [if_pos c20] at H
         have c20b0 : decide (x46_2 < ((rd_L6 l0_3 t116).length : Int)) = true := zd1 c20
         clear c20
         by_cases c21 : 0 ≤ x46_2
         ·rw [if_pos c21] at H
          have c21b0 : decide (0 ≤ x46_2) = true := zd1 c21
          clear c21
          by_cases c22 : x46_2 < ((rd_L6 l0_3 t116).length : Int)
          ·rw [if_pos c22] at H
           have c22b0 : decide (x46_2 < ((rd_L6 l0_3 t116).length : Int)) = true := zd1 c22
           clear c22
           replace H := Option.bind_eq_some_iff.mp H
           obtain ⟨t119, A230, H⟩ := H
           replace H : (if t119 = true then (some (rd (rd_L6 l0_3 t116) x46_2, true)) else (index_Index_Pick.l0 k2 a1 a2 a3 (rd_L6 l0_3 t116) ((rd_L6 l0_3 t116).length : Int) (wrap64 (x46_2 + 1)) l0_0 a0_1 a0_2 l0_3)) = some (r1, r2) := H
           have A23 := zA A230
           clear A230
           by_cases c24 : t119 = true
           ·subst c24
            have H1 : (some (rd (rd_L6 l0_3 t116) x46_2, true)) = some (r1, r2) := by rw [if_pos rfl] at H; exact H
            clear H
            have H := H1
            clear H1
            simp only [Option.some.injEq, Prod.mk.injEq] at H
            obtain ⟨rfl, rfl⟩ := H
            have p118 : 0 ≤ (x46_2 : Int) := zd3 (by first | (with_reducible assumption) | assumption)
            have q118 : x46_2 < ((rd_L6 l0_3 t116).length : Int) := zd3 (by first | (with_reducible assumption) | assumption)
            obtain ⟨ad118, e118, hx118_0⟩ := Kd.at_int HR117_0.out x46_2 p118 q118
            cases e118
            replace hx118_0 := (HB.out.cell (World.block_lt_of_cell? w _ hx118_0)).trans hx118_0
            replace p118 := eq_true p118
            replace q118 := eq_true q118
            have hcz25_0 : wr.cell? ⟨g, 0, none⟩ = some (.slice A0_0 l0_0.length c0_0) := (zc1 BK114.out 0).trans rfl
            have hcz25_1 : wr.cell? ⟨g, 1, none⟩ = some (.int .i64 a0_1) := (zc1 BK114.out 1).trans rfl
            have hcz25_2 : wr.cell? ⟨g, 2, none⟩ = some (.int .i64 a0_2) := (zc1 BK114.out 2).trans rfl
            have hcz25_3 : wr.cell? ⟨g, 3, none⟩ = some (.slice (some ad117) l0_3.length c0_3) := (zc1 BK114.out 3).trans rfl
            have hfz25_0 := zc5 BK114.out 0
            have hfz25_1 := zc5 BK114.out 1
            have hfz25_2 := zc5 BK114.out 2
            have hfz25_3 := zc5 BK114.out 3
            go_wp2_with (first | ((with_reducible refine gate_callee (f := 28) rfl ?_); refine goesL_ (some 55) rfl rfl Try.func28 (by kernel_rfl) rfl #[.pointer (some ⟨g, 0, none⟩), .int .i64 (rd (rd_L6 l0_3 t116) x46_2), .int .u32 a1, .string a2, .int .i64 a3] rfl (by (try simp only [zm1, zm2, zm3]); first | done | rfl | (simp only [List.length_drop, List.length_take]; rfl)) ?_; (with_reducible refine (index_Index_has.calls g A0_0 c0_0 l0_0 a0_1 a0_2 (some ad117) c0_3 l0_3 (rd (rd_L6 l0_3 t116) x46_2) a1 a2 a3 true _ ?side1 ?side2 ?side3 ?side4 ?sideX A23.out).mono ?_); (case sideX => exact (by (with_reducible repeat (first | refine zc3 ?_ _ | refine zc4 ?_ | refine zc2 ?_ _)); exact BK114.out)); (case side1 => repeat (first | exact (Kd.C_below HR0_0.out HB.out) | (with_reducible refine Kd.C_alloc ?_ _) | (with_reducible refine Kd.C_drewN ?_ _) | (with_reducible refine Kd.C_drew ?_))); (case side2 => exact HC0_0.out); (case side3 => repeat (first | exact (Kd.C_below HR0_3.out HB.out) | (with_reducible refine Kd.C_alloc ?_ _) | (with_reducible refine Kd.C_drewN ?_ _) | (with_reducible refine Kd.C_drew ?_))); (case side4 => exact HC0_3.out); rintro e w26 ⟨rfl, hb⟩; refine ⟨_, rfl, ?_⟩; have n0_ := zA (zc6 (g := g) (o := .cells #[.slice A0_0 l0_0.length c0_0, .int .i64 a0_1, .int .i64 a0_2, .slice (some ad117) l0_3.length c0_3] 61 (0, 0)) (by (with_reducible repeat (first | refine zc3 ?_ _ | refine zc4 ?_ | refine zc2 ?_ _)); exact BK114.out) hb); have n1_ := zA (zb5 (by repeat (first | (with_reducible first | exact HB.out | apply zb3 | apply zb1 | apply zb2 | refine zb4 ?_ GE114.out) | exact HB.out)) hb); clear BK114; clear HB; have BK114 := n0_; have HB := n1_; clear n0_ n1_; (try clear hb); (try clear hb2); (try clear hk); (try clear hi)))
            go_ret2
            exact ⟨by first | rfl | (simp [*] <;> rfl), by repeat (first | (with_reducible first | exact HB.out | apply zb3 | apply zb1 | apply zb2 | refine zb4 ?_ GE114.out) | exact HB.out)⟩
           ·replace c24 := Bool.eq_false_iff.mpr c24
            subst c24
            have H1 : (index_Index_Pick.l0 k2 a1 a2 a3 (rd_L6 l0_3 t116) ((rd_L6 l0_3 t116).length : Int) (wrap64 (x46_2 + 1)) l0_0 a0_1 a0_2 l0_3) = some (r1, r2) := by rw [if_neg (show ¬ (false = true) by decide)] at H; exact H
            clear H
            have H := H1
            clear H1
            have H' := zA H
            clear H
            have p118 : 0 ≤ (x46_2 : Int) := zd3 (by first | (with_reducible assumption) | assumption)
            have q118 : x46_2 < ((rd_L6 l0_3 t116).length : Int) := zd3 (by first | (with_reducible assumption) | assumption)
            obtain ⟨ad118, e118, hx118_0⟩ := Kd.at_int HR117_0.out x46_2 p118 q118
            cases e118
            replace hx118_0 := (HB.out.cell (World.block_lt_of_cell? w _ hx118_0)).trans hx118_0
            replace p118 := eq_true p118
            replace q118 := eq_true q118
            have hcz27_0 : wr.cell? ⟨g, 0, none⟩ = some (.slice A0_0 l0_0.length c0_0) := (zc1 BK114.out 0).trans rfl
            have hcz27_1 : wr.cell? ⟨g, 1, none⟩ = some (.int .i64 a0_1) := (zc1 BK114.out 1).trans rfl
            have hcz27_2 : wr.cell? ⟨g, 2, none⟩ = some (.int .i64 a0_2) := (zc1 BK114.out 2).trans rfl
            have hcz27_3 : wr.cell? ⟨g, 3, none⟩ = some (.slice (some ad117) l0_3.length c0_3) := (zc1 BK114.out 3).trans rfl
            have hfz27_0 := zc5 BK114.out 0
            have hfz27_1 := zc5 BK114.out 1
            have hfz27_2 := zc5 BK114.out 2
            have hfz27_3 := zc5 BK114.out 3
            go_wp2_with (first | ((with_reducible refine gate_callee (f := 28) rfl ?_); refine goesL_ (some 55) rfl rfl Try.func28 (by kernel_rfl) rfl #[.pointer (some ⟨g, 0, none⟩), .int .i64 (rd (rd_L6 l0_3 t116) x46_2), .int .u32 a1, .string a2, .int .i64 a3] rfl (by (try simp only [zm1, zm2, zm3]); first | done | rfl | (simp only [List.length_drop, List.length_take]; rfl)) ?_; (with_reducible refine (index_Index_has.calls g A0_0 c0_0 l0_0 a0_1 a0_2 (some ad117) c0_3 l0_3 (rd (rd_L6 l0_3 t116) x46_2) a1 a2 a3 false _ ?side1 ?side2 ?side3 ?side4 ?sideX A23.out).mono ?_); (case sideX => exact (by (with_reducible repeat (first | refine zc3 ?_ _ | refine zc4 ?_ | refine zc2 ?_ _)); exact BK114.out)); (case side1 => repeat (first | exact (Kd.C_below HR0_0.out HB.out) | (with_reducible refine Kd.C_alloc ?_ _) | (with_reducible refine Kd.C_drewN ?_ _) | (with_reducible refine Kd.C_drew ?_))); (case side2 => exact HC0_0.out); (case side3 => repeat (first | exact (Kd.C_below HR0_3.out HB.out) | (with_reducible refine Kd.C_alloc ?_ _) | (with_reducible refine Kd.C_drewN ?_ _) | (with_reducible refine Kd.C_drew ?_))); (case side4 => exact HC0_3.out); rintro e w28 ⟨rfl, hb⟩; refine ⟨_, rfl, ?_⟩; have n0_ := zA (zc6 (g := g) (o := .cells #[.slice A0_0 l0_0.length c0_0, .int .i64 a0_1, .int .i64 a0_2, .slice (some ad117) l0_3.length c0_3] 61 (0, 0)) (by (with_reducible repeat (first | refine zc3 ?_ _ | refine zc4 ?_ | refine zc2 ?_ _)); exact BK114.out) hb); have n1_ := zA (zb5 (by repeat (first | (with_reducible first | exact HB.out | apply zb3 | apply zb1 | apply zb2 | refine zb4 ?_ GE114.out) | exact HB.out)) hb); clear BK114; clear HB; have BK114 := n0_; have HB := n1_; clear n0_ n1_; (try clear hb); (try clear hb2); (try clear hk); (try clear hi)))
            go_roundg k2
            case measure => have := HJ5.out; have := HK2.out; omega
            case rel => exact ⟨(wrap64 (x46_2 + 1)), (by first | rfl | (simp; done) | (simp [*]; done)), H', ⟨by have := HJ5.out; have := HK2.out; omega⟩, ⟨by (with_reducible repeat (first | refine zc3 ?_ _ | refine zc4 ?_ | refine zc2 ?_ _)); exact BK114.out⟩, ⟨by repeat (first | (with_reducible first | exact HB.out | apply zb3 | apply zb1 | apply zb2 | refine zb4 ?_ GE114.out) | exact HB.out)⟩⟩
          ·rw [if_neg c22] at H
           exact absurd H (by simp)
         ·rw [if_neg c21] at H
          exact absurd H (by simp)
        ·rw [if_neg c20] at H
         have c20b0 : decide (x46_2 < ((rd_L6 l0_3 t116).length : Int)) = false := zd2 c20
         clear c20
         simp only [Option.some.injEq, Prod.mk.injEq] at H
         obtain ⟨rfl, rfl⟩ := H
         go_wp2
         go_ret2
         exact ⟨by first | rfl | (simp [*] <;> rfl), by repeat (first | (with_reducible first | exact HB.out | apply zb3 | apply zb1 | apply zb2 | refine zb4 ?_ GE114.out) | exact HB.out)⟩
     ·rw [if_neg c17] at H
      exact absurd H (by simp)
    ·rw [if_neg c16] at H
     exact absurd H (by simp)

/-! ### sig_block: function 31 -/
def sig_block.f (a0 : Int) : Option (Bool) := if a0 ≥ 16 then (some (decide (a0 ≤ 4096))) else (some false)
set_option maxHeartbeats 8000000 in
set_option maxRecDepth 100000 in
theorem sig_block.calls (a0 : Int) (r : Bool) (w : World) (h : sig_block.f a0 = some r) :
    Calls Try.prog 31 #[.int .i64 a0] w fun e w' => e = .returned (.bool r) ∧ Drawn0 w w' := by
 have H : (if a0 ≥ 16 then (some (decide (a0 ≤ 4096))) else (some false)) = some r := h
 clear h
 by_cases c2 : a0 ≥ 16
 ·rw [if_pos c2] at H
  have c2b0 : decide (16 ≤ a0) = true := zd1 c2
  clear c2
  obtain rfl := Option.some.inj H
  go_enter Try.func31, Try.ntmps31
  go_wp2
  go_ret
  exact ⟨by first | rfl | (simp; done) | (simp [*]; done), by repeat (first | exact Drawn0.refl _ | apply Drawn0.step)⟩
 ·rw [if_neg c2] at H
  have c2b0 : decide (16 ≤ a0) = false := zd2 c2
  clear c2
  obtain rfl := Option.some.inj H
  go_enter Try.func31, Try.ntmps31
  go_wp2
  go_ret
  exact ⟨by first | rfl | (simp; done) | (simp [*]; done), by repeat (first | exact Drawn0.refl _ | apply Drawn0.step)⟩

/-! ### blocks_Length: function 32 -/
def blocks_Length.l0 : Nat → Int → Int → Option (Int)
 | 0, _, _ => none
 | k + 1, x0, x3 => if x3 < 4096 then (if (wrap64 (x3 * x3)) < x0 then (blocks_Length.l0 k x0 (wrap64 (x3 * 2))) else (some x3)) else (some x3)
def blocks_Length.f (k : Nat) (a0 : Int) : Option (Int) := blocks_Length.l0 k a0 16
theorem blocks_Length.mono_l : ∀ k, (∀ y0 y1, LeO (blocks_Length.l0 k y0 y1) (blocks_Length.l0 (k + 1) y0 y1))
 | 0 => fun _ _ r h => by simp [blocks_Length.l0] at h
 | k + 1 => by
  have ih0 := blocks_Length.mono_l k
  ·intro y0 y1
   unfold blocks_Length.l0
   repeat' first
   | (with_reducible exact ih0 _ _)
   | (with_reducible exact LeO.refl _)
   | (with_reducible exact LeO.none _)
   | (with_reducible refine LeO.ite ?_ ?_)
   | (with_reducible refine LeO.bind ?_ (fun _ => ?_))
   | exact ih0 _ _
   | exact LeO.none _
   | refine LeO.ite ?_ ?_
   | refine LeO.bind ?_ (fun _ => ?_)
theorem blocks_Length.mono : ∀ a0 k, LeO (blocks_Length.f k a0) (blocks_Length.f (k + 1) a0) := by
 intro a0 k
 have ih0 := blocks_Length.mono_l k
 unfold blocks_Length.f
 repeat' first
     | (with_reducible exact ih0 _ _)
     | (with_reducible exact LeO.refl _)
     | (with_reducible exact LeO.none _)
     | (with_reducible refine LeO.ite ?_ ?_)
     | (with_reducible refine LeO.bind ?_ (fun _ => ?_))
     | exact ih0 _ _
     | exact LeO.none _
     | refine LeO.ite ?_ ?_
     | refine LeO.bind ?_ (fun _ => ?_)
set_option maxHeartbeats 8000000 in
set_option maxRecDepth 100000 in
theorem blocks_Length.calls (k : Nat) (a0 : Int) (r : Int) (w : World) (h : blocks_Length.f k a0 = some r) :
    Calls Try.prog 32 #[.int .i64 a0] w fun e w' => e = .returned (.int .i64 r) ∧ Drawn0 w w' := by
 have H : (blocks_Length.l0 k a0 16) = some r := h
 clear h
 have H' := zA H
 clear H
 go_enter Try.func32, Try.ntmps32
 go_wp2
 go_loopg [3] k (fun kq v3 w' => ∃ (x3_1 : Int), v3 = .int .i64 x3_1 ∧ Aside0 (blocks_Length.l0 kq a0 x3_1 = some r) ∧ Aside0 (kq ≤ k) ∧ Drawn0 w w')
 case atStart => exact ⟨(16), (by first | rfl | (simp; done) | (simp [*]; done)), H', ⟨Nat.le_refl _⟩, by repeat (first | exact Drawn0.refl _ | apply Drawn0.step)⟩
 case round =>
  clear H'
  obtain ⟨x3_1, rfl, HA, HK1, ⟨m1, rfl⟩⟩ := hrel
  cases gk with
  | zero => exact absurd HA.out (by simp [blocks_Length.l0])
  | succ k1 =>
   have H := HA.out
   clear HA
   simp only [blocks_Length.l0] at H
   by_cases c2 : x3_1 < 4096
   ·rw [if_pos c2] at H
    have c2b0 : decide (x3_1 < 4096) = true := zd1 c2
    clear c2
    by_cases c3 : (wrap64 (x3_1 * x3_1)) < a0
    ·rw [if_pos c3] at H
     have c3b0 : decide ((wrap64 (x3_1 * x3_1)) < a0) = true := zd1 c3
     clear c3
     have H' := zA H
     clear H
     go_wp2
     go_roundg k1
     case measure => have := HK1.out; omega
     case rel => exact ⟨(wrap64 (x3_1 * 2)), (by first | rfl | (simp; done) | (simp [*]; done)), H', ⟨by have := HK1.out; omega⟩, by repeat (first | exact Drawn0.refl _ | apply Drawn0.step)⟩
    ·rw [if_neg c3] at H
     have c3b0 : decide ((wrap64 (x3_1 * x3_1)) < a0) = false := zd2 c3
     clear c3
     obtain rfl := Option.some.inj H
     go_wp2
     go_ret
     exact ⟨by first | rfl | (simp; done) | (simp [*]; done), by repeat (first | exact Drawn0.refl _ | apply Drawn0.step)⟩
   ·rw [if_neg c2] at H
    have c2b0 : decide (x3_1 < 4096) = false := zd2 c2
    clear c2
    obtain rfl := Option.some.inj H
    go_wp2
    go_ret
    exact ⟨by first | rfl | (simp; done) | (simp [*]; done), by repeat (first | exact Drawn0.refl _ | apply Drawn0.step)⟩

/-! ### blocks_Each: function 33 -/
/-- A region that draws its order, in a round's frame, by the walk of the print. -/
theorem start_round {P : Program} {ops : Array Oper} {Q : Exit → Act → World → Prop} {S : World → Prop} {ds : List Nat} {id n r m : Nat} {a : Act} {w : World} (l : Array Bool) (hm : P.follows .mixedOrders = true) (hn : ops.size = n) (hl : Array.replicate n false = l)
    (hd : RdKit.calm ops = true) (hQ : ¬ LetsOut Q) (hS : S w.drew) (h : S w.drew → wpAnyLast P .any ops Q S ds n l a w.drew) : (Code.region id ops true).wpIn (Fence.wide.inRound r) m P Q a w := by
 subst hn
 subst hl
 exact RdKit.region_round_any hm hd hQ (wpAny_of_last _ _ _ _ (h hS))
/-- The bytes of block i. -/
def cutRow (l0 : List Int) (a1 : Int) (i : Nat) : List Int := (l0.take (mn (l0.length : Int) (wrap64 (wrap64 ((i : Int) + 1) * a1))).toNat).drop (wrap64 ((i : Int) * a1)).toNat
def cutNum (l0 : List Int) (a1 : Int) : Nat := (l0.length + a1.toNat - 1) / a1.toNat
def cutRows (l0 : List Int) (a1 : Int) (n : Nat) : List (List Int) := (List.range n).map (cutRow l0 a1)
theorem cutRows_succ (l0 : List Int) (a1 : Int) (n : Nat) : cutRows l0 a1 (n + 1) = cutRows l0 a1 n ++ [cutRow l0 a1 n] := by
 unfold cutRows
 rw [List.range_succ, List.map_append]
 rfl
theorem cutRows_len (l0 : List Int) (a1 : Int) (n : Nat) : (cutRows l0 a1 n).length = n := by
 unfold cutRows
 rw [List.length_map, List.length_range]
theorem cut_facts {l0 : List Int} {a1 : Int} (h1 : 16 ≤ a1) (h2 : a1 ≤ 4096) (h3 : l0.length ≤ 131072) :
    blocks_Count.f l0.length a1 = some ((cutNum l0 a1 : Nat) : Int) ∧ cutNum l0 a1 ≤ 131072 ∧
    ∀ i : Nat, i < cutNum l0 a1 → ∃ f t : Int, blocks_Range.f l0.length a1 (i : Int) = some (f, t, true) ∧ 0 ≤ f ∧ f ≤ t ∧ t ≤ l0.length ∧ cutRow l0 a1 i = (l0.take t.toNat).drop f.toNat := by
 have hb : blocks_block.f a1 = some true := by unfold blocks_block.f; rw [if_pos h1, zd1 h2]
 have hr : blocks_Right.f (l0.length : Int) a1 = some true := by unfold blocks_Right.f; rw [if_pos (by omega), if_pos (by omega), hb]; rfl
 obtain ⟨b, rfl⟩ : ∃ b : Nat, a1 = (b : Int) := ⟨a1.toNat, by omega⟩
 have hbp : 0 < b := by omega
 have hN : cutNum l0 (b : Int) ≤ 131072 := by
  unfold cutNum
  rw [Int.toNat_natCast]
  refine Nat.le_trans (Nat.div_le_div_right (c := b) (show l0.length + b - 1 ≤ 131072 * b by omega)) ?_
  rw [Nat.mul_div_cancel _ hbp]
  exact Nat.le_refl _
 have hC : blocks_Count.f (l0.length : Int) (b : Int) = some ((cutNum l0 (b : Int) : Nat) : Int) := by
  unfold blocks_Count.f
  rw [hr, Option.bind_some, if_pos rfl, if_neg (by omega)]
  have e1 : wrap64 ((l0.length : Int) + (b : Int)) = ((l0.length + b : Nat) : Int) := by unfold wrap64; omega
  rw [e1, show wrap64 (((l0.length + b : Nat) : Int) - 1) = ((l0.length + b - 1 : Nat) : Int) by unfold wrap64; omega]
  rw [show Int.tdiv ((l0.length + b - 1 : Nat) : Int) (b : Int) = (((l0.length + b - 1) / b : Nat) : Int) from rfl]
  have : (l0.length + b - 1) / b ≤ 131072 := by have := hN; unfold cutNum at this; rwa [Int.toNat_natCast] at this
  rw [show wrap64 (((l0.length + b - 1) / b : Nat) : Int) = (((l0.length + b - 1) / b : Nat) : Int) by generalize (l0.length + b - 1) / b = q at this ⊢; unfold wrap64; omega]
  unfold cutNum
  rw [Int.toNat_natCast]
 refine ⟨hC, hN, fun i hi => ?_⟩
 have hib : i * b < l0.length := by
  unfold cutNum at hi
  rw [Int.toNat_natCast] at hi
  have := (Nat.le_div_iff_mul_le hbp).1 (show i + 1 ≤ (l0.length + b - 1) / b from hi)
  rw [Nat.add_mul, Nat.one_mul] at this
  omega
 have e1 : wrap64 ((i : Int) * (b : Int)) = ((i * b : Nat) : Int) := by
  rw [show (i : Int) * (b : Int) = ((i * b : Nat) : Int) by push_cast; rfl]
  generalize i * b = q at hib ⊢
  unfold wrap64
  omega
 have e2 : wrap64 (wrap64 ((i : Int) + 1) * (b : Int)) = ((i * b + b : Nat) : Int) := by
  rw [show wrap64 ((i : Int) + 1) = ((i + 1 : Nat) : Int) by unfold wrap64; omega, show ((i + 1 : Nat) : Int) * (b : Int) = ((i * b + b : Nat) : Int) by push_cast; rw [Int.add_mul, Int.one_mul]]
  generalize i * b = q at hib ⊢
  unfold wrap64
  omega
 refine ⟨((i * b : Nat) : Int), mn (l0.length : Int) ((i * b + b : Nat) : Int), ?_, by omega, ?_, ?_, ?_⟩
 ·unfold blocks_Range.f
  rw [if_neg (by omega), hC, Option.bind_some, if_neg (by omega), e1, e2]
 ·unfold mn; split <;> omega
 ·unfold mn; split <;> omega
 ·unfold cutRow
  rw [e1, e2]
/-- What each round is given: the block's number and its bytes. -/
def EachRd (row : Nat → List Int) (i : Nat) (args : Array Value) (W : World) : Prop :=
 ∃ A c, args = #[.int .i64 (i : Int), .slice A (row i).length c] ∧ (Kd.int .u8).C W A (row i).length (row i) ∧ (row i).length ≤ c
/-- What the iterator leans on: its text and the length, in variables of their own. -/
def EachIt (g1 g2 : Nat) (A0 : Option Addr) (c0 : Nat) (l0 : List Int) (a1 : Int) (W : World) : Prop :=
 W.heap[g1]? = some (.cells #[.slice A0 l0.length c0] 40 (0, 0)) ∧ W.heap[g2]? = some (.cells #[.int .i64 a1] 3 (0, 0)) ∧ (Kd.int .u8).C W A0 l0.length l0
theorem C_putObj {W : World} {A : Option Addr} {n l : Nat} {xs : List Int} {r : Loop} {o : Obj} (h : (Kd.int .u8).C W A n xs) (hl : W.heap[l]? = some (.loop r)) : (Kd.int .u8).C (W.putObj l o) A n xs := by
 refine ⟨h.1, h.2.1, fun hn => ?_⟩
 obtain ⟨ad, e, hc⟩ := h.2.2 hn
 refine ⟨ad, e, fun j p hp => ?_⟩
 obtain ⟨c, h1, h2, h3⟩ := hc j p hp
 exact ⟨c, h1, h2, fun i u hu => RdKit.cell_putObj (h3 i u hu) hl⟩
theorem EachRd.put {row : Nat → List Int} {i : Nat} {args : Array Value} {W : World} {l : Nat} {r : Loop} {o : Obj} (h : EachRd row i args W) (hl : W.heap[l]? = some (.loop r)) : EachRd row i args (W.putObj l o) := by
 obtain ⟨A, c, e, h1, h2⟩ := h
 exact ⟨A, c, e, C_putObj h1 hl, h2⟩
theorem EachIt.put {g1 g2 : Nat} {A0 : Option Addr} {c0 : Nat} {l0 : List Int} {a1 : Int} {W : World} {l : Nat} {r : Loop} {o : Obj} (h : EachIt g1 g2 A0 c0 l0 a1 W) (hl : W.heap[l]? = some (.loop r)) : EachIt g1 g2 A0 c0 l0 a1 (W.putObj l o) := by
 obtain ⟨h1, h2, h3⟩ := h
 refine ⟨(World.putObj_heap_other (fun e => ?_)).trans h1, (World.putObj_heap_other (fun e => ?_)).trans h2, C_putObj h3 hl⟩
 ·rw [← e, h1] at hl; cases hl
 ·rw [← e, h2] at hl; cases hl
theorem EachIt.below {g1 g2 : Nat} {A0 : Option Addr} {c0 : Nat} {l0 : List Int} {a1 : Int} {W W' : World} (h : EachIt g1 g2 A0 c0 l0 a1 W) (hb : Below W.heap.size W W') : EachIt g1 g2 A0 c0 l0 a1 W' := by
 obtain ⟨h1, h2, h3⟩ := h
 exact ⟨(hb.block _ (Array.getElem?_eq_some_iff.1 h1).1).trans h1, (hb.block _ (Array.getElem?_eq_some_iff.1 h2).1).trans h2, Kd.C_below h3 hb⟩
set_option maxHeartbeats 8000000 in
set_option maxRecDepth 100000 in
theorem each_iter (g1 g2 : Nat) (A0 : Option Addr) (c0 : Nat) (l0 : List Int) (a1 : Int) (N : Nat) (row : Nat → List Int) (hc0 : l0.length ≤ c0) (hl : l0.length ≤ 131072)
    (hN : blocks_Count.f l0.length a1 = some (N : Int)) (hNs : N ≤ 131072)
    (hR : ∀ i : Nat, i < N → ∃ f t : Int, blocks_Range.f l0.length a1 (i : Int) = some (f, t, true) ∧ 0 ≤ f ∧ f ≤ t ∧ t ≤ l0.length ∧ row i = (l0.take t.toNat).drop f.toNat) :
    RdKit.IterC Try.prog 42 #[.pointer (some ⟨g1, 0, none⟩), .pointer (some ⟨g2, 0, none⟩)] (EachRd row) N (EachIt g1 g2 A0 c0 l0 a1) := by
 intro l J Jx W hIt hJ0 hJb hround
 refine callsIn_wide.2 ?_
 have HN := zA hN
 have HNS := zA hNs
 have HL := zA hl
 have HC := zA hc0
 have HRG := zA hR
 have HJb := zA hJb
 have HRD := zA hround
 clear hN hNs hl hc0 hR hJb hround
 have HI := zA hIt
 have HJ := zA hJ0
 have q1 : W.cell? ⟨g1, 0, none⟩ = some (.slice A0 l0.length c0) := (zc1 hIt.1 0).trans rfl
 have q2 : W.cell? ⟨g2, 0, none⟩ = some (.int .i64 a1) := (zc1 hIt.2.1 0).trans rfl
 clear hIt hJ0
 simp only [List.append_toArray, List.cons_append, List.nil_append]
 go_enter Try.func42, Try.ntmps42
 go_wp2_with (first | (go_at_call 24; (with_reducible refine (blocks_Count.calls _ _ _ _ HN.out).mono ?_); rintro e w' ⟨rfl, ⟨nd, rfl⟩⟩))
 have hb0 := zb1 (Below.refl W.heap.size W) nd
 go_loopg [12] (N + 1) (fun kq v12 w' => ∃ i : Nat, v12 = .int .i64 (i : Int) ∧ Aside0 (i + kq = N + 1 ∧ i ≤ N) ∧ Aside0 (J i w') ∧ Aside0 (EachIt g1 g2 A0 c0 l0 a1 w'))
 case atStart => exact ⟨0, rfl, ⟨by omega, by omega⟩, ⟨HJb.out 0 _ _ HJ.out hb0⟩, ⟨HI.out.below hb0⟩⟩
 case round =>
  clear HJ HI q1 q2 hb0
  obtain ⟨i, rfl, hk, HJ, HI⟩ := hrel
  by_cases hlt : i < N
  ·obtain ⟨f, t, hr1, hr0, hr2, hr3, hr4⟩ := HRG.out i hlt
   have hd0 : decide ((i : Int) < (N : Int)) = true := by simp; omega
   have hd1 : decide (i < N) = true := by simp; omega
   have HR1 := zA hr1
   have HR0 := zA hr0
   have HR2 := zA hr2
   have HR3 := zA hr3
   have HR4 := zA hr4
   have HLT := zA hlt
   clear hr1 hr0 hr2 hr3 hr4 hlt
   have q1 : wr.cell? ⟨g1, 0, none⟩ = some (.slice A0 l0.length c0) := (zc1 HI.out.1 0).trans rfl
   have q2 : wr.cell? ⟨g2, 0, none⟩ = some (.int .i64 a1) := (zc1 HI.out.2.1 0).trans rfl
   go_upto_region 4 with (first | (go_at_call 16; (with_reducible refine (blocks_Range.calls _ _ _ _ _ _ _ HR1.out).mono ?_); rintro e w2 ⟨rfl, hb⟩; replace HI := zA (HI.out.below hb); replace HJ := zA (HJb.out _ _ _ HJ.out hb); replace q1 : w2.cell? ⟨g1, 0, none⟩ = some (.slice A0 l0.length c0) := (zc1 HI.out.1 0).trans rfl; replace q2 : w2.cell? ⟨g2, 0, none⟩ = some (.int .i64 a1) := (zc1 HI.out.2.1 0).trans rfl; clear hb))
   refine (wpIn_wide (n := 0)).1 ?_
   refine wpIn_region_lit ?_
   refine RdKit.listIn_take (k := 7) (fun ⟨_, _, h⟩ => by obtain ⟨⟨_, h⟩, _⟩ := h; cases h) (by rfl) ?_
   simp only [List.take_succ_cons, List.take_zero, List.drop_succ_cons, List.drop_zero]
   have HB := zA (Below.refl w2.heap.size w2)
   have h1 : decide ((0 : Int) ≤ f) = true := zd1 HR0.out
   have h0' := eq_true HR0.out
   have h2' := eq_true HR2.out
   have h3' := eq_true HR3.out
   have h2 : decide (f ≤ t) = true := zd1 HR2.out
   have h3 : decide (t ≤ (l0.length : Int)) = true := zd1 HR3.out
   obtain ⟨i0, hi0, _, hsz, _⟩ := info_parts info5
   obtain ⟨A5, hcut, hA5, hC5⟩ := print_mid_of (P := Try.prog) (Value.int .u8) 0 40 5 .i64 .i64 Try.underlying40 hi0 hsz A0 c0 l0 f t (zd3 h1) (zd3 h2) (zd3 h3) HC.out
   have HR5 := zA (Kd.C_of_reads (h1 := fun _ => rfl) (hA5 _ (Kd.reads_of_C HI.out.2.2)))
   clear hA5 hC5 hi0 hsz
   have hlen : ((l0.take t.toNat).drop f.toNat).length = t.toNat - f.toNat := by have h0 := HR0.out; have h2 := HR2.out; have h3 := HR3.out; rw [List.length_drop, List.length_take]; omega
   have HLEN := zA hlen
   clear hlen
   go_wp2_with (first | ((with_reducible refine gate_dst (N := 30) rfl ?_); refine Kd.R_append_row (Value.int .u8) (0 : Int) (h1 := fun _ => rfl) (w0 := w2) w2.heap.size rfl (.const (.slice none 0 0)) (.tmp 29) 40 5 (.int .u8 0) 1 rfl Try.underlying40 info5 rfl (by decide) (.slice none 0 0) ([] : List Int) ((l0.take t.toNat).drop f.toNat) _ _ _ (fun _ => True) rfl rfl (fun _ _ => trivial) (Kd.R_nil _ _ _ _ _) ?aR HB.out (Nat.le_refl _) ?aL ?_; (case aR => rw [← HLEN.out]; exact HR5.out); (case aL => have := HLEN.out; have := HL.out; have := HR3.out; simp only [List.length_nil]; omega); intro v w3 ho hb hg hat; rw [List.nil_append, ← HR4.out] at ho; obtain ⟨A6, c6, hv6, hc6, hr6⟩ := Kd.R_reads ho; subst hv6; have HO := zA hr6; have HO2 := zA hc6; replace HI := zA (HI.out.below hb); replace HJ := zA (HJb.out _ _ _ HJ.out hb); clear ho hg hat hr6 hc6 hb))
   clear q1 q2 h1 h0' h2' h3' h2 h3
   obtain ⟨fn, tmps, assign, body, hy, hRo⟩ := HRD.out i _ w3 HLT.out HJ.out HI.out ⟨A6, c6, rfl, HO.out, HO2.out⟩
   go_simp
   gi_wp2
   refine ⟨rfl, hRo.mono ?_⟩
   clear hy hRo
   rintro e W3 (⟨rfl, hJ3, hI3⟩ | ⟨rfl, hJx3⟩)
   ·have HJ3 := zA hJ3
    have HI3 := zA hI3
    clear hJ3 hI3
    obtain ⟨k1, rfl⟩ : ∃ k1, gk = k1 + 1 := ⟨gk - 1, by have := hk.out; have := HLT.out; omega⟩
    have hw : wrap64 ((i : Int) + 1) = ((i + 1 : Nat) : Int) := by have := HLT.out; have := HNS.out; unfold wrap64; omega
    gi_wp2
    go_wp2
    go_roundg k1
    case measure => omega
    case rel => exact ⟨i + 1, by rw [hw], ⟨by have := hk.out; omega, by have := HLT.out; omega⟩, HJ3, HI3⟩
   ·have HX := zA hJx3
    clear hJx3
    gi_wp2
    go_wp2
    refine bodyPost_ret (results_none rfl _ _ _) rfl ?_
    exact ⟨⟨_, rfl⟩, .inr HX.out⟩
  ·have e := hk.out
   have he : i = N := by omega
   have hd0 : decide ((i : Int) < (N : Int)) = false := by simp; omega
   have hd1 : decide (i < N) = false := by simp; omega
   clear hlt e
   go_wp2
   go_end0
   exact ⟨⟨_, rfl⟩, .inl (by rw [← he]; exact HJ.out)⟩
set_option maxHeartbeats 8000000 in
set_option maxRecDepth 100000 in
theorem each_calls (A0 : Option Addr) (c0 : Nat) (l0 : List Int) (a1 : Int) (w : World) (hr0 : Kd.C (Kd.int .u8) w A0 l0.length l0) :
    Calls Try.prog 33 #[.slice A0 l0.length c0, .int .i64 a1] w fun e w' => ∃ g1 g2 : Nat, e = .returned (.func (.func 42) #[] #[.pointer (some ⟨g1, 0, none⟩), .pointer (some ⟨g2, 0, none⟩)]) ∧ EachIt g1 g2 A0 c0 l0 a1 w' ∧ Below w.heap.size w w' ∧ w.heap.size ≤ g1 ∧ w.heap.size ≤ g2 := by
 have HR := zA hr0
 clear hr0
 go_enter Try.func33, Try.ntmps33
 go_wp2
 go_ret
 have hb : Below w.heap.size w ((w.alloc (Obj.cells #[Value.slice A0 l0.length c0] 40)).alloc (Obj.cells #[Value.int IntKind.i64 a1] 3)) := zb3 (zb3 (Below.refl _ _) _) _
 refine ⟨w.heap.size, w.heap.size + 1, rfl, ⟨?_, ?_, Kd.C_below HR.out hb⟩, hb, Nat.le_refl _, Nat.le_succ _⟩
 ·exact (Below.heap_alloc _ _ _ (by simp)).trans (World.alloc_heap_new w _)
 ·have := World.alloc_heap_new (w.alloc (Obj.cells #[Value.slice A0 l0.length c0] 40)) (Obj.cells #[Value.int IntKind.i64 a1] 3)
  rwa [World.size_alloc] at this

-- NOT PRINTED: function 56 (sha_first)

-- NOT PRINTED: function 51 (sha_New)

/-! ### bits_RotateLeft32: function 63 -/
def bits_RotateLeft32.f (a0 : Int) (a1 : Int) : Option (Int) := if 0 ≤ (Go.bits .and .u64 (IntKind.u64.wrap (a1)) 31) then (if 0 ≤ (IntKind.u64.wrap (32 - (Go.bits .and .u64 (IntKind.u64.wrap (a1)) 31))) then (some (Go.bits .or .u32 (shl .u32 a0 (Go.bits .and .u64 (IntKind.u64.wrap (a1)) 31)) (shr .u32 a0 (IntKind.u64.wrap (32 - (Go.bits .and .u64 (IntKind.u64.wrap (a1)) 31)))))) else (none)) else (none)
set_option maxHeartbeats 8000000 in
set_option maxRecDepth 100000 in
theorem bits_RotateLeft32.calls (a0 : Int) (a1 : Int) (r : Int) (w : World) (h : bits_RotateLeft32.f a0 a1 = some r) :
    Calls Try.prog 63 #[.int .u32 a0, .int .i64 a1] w fun e w' => e = .returned (.int .u32 r) ∧ Drawn0 w w' := by
 have H : (if 0 ≤ (Go.bits .and .u64 (IntKind.u64.wrap (a1)) 31) then (if 0 ≤ (IntKind.u64.wrap (32 - (Go.bits .and .u64 (IntKind.u64.wrap (a1)) 31))) then (some (Go.bits .or .u32 (shl .u32 a0 (Go.bits .and .u64 (IntKind.u64.wrap (a1)) 31)) (shr .u32 a0 (IntKind.u64.wrap (32 - (Go.bits .and .u64 (IntKind.u64.wrap (a1)) 31)))))) else (none)) else (none)) = some r := h
 clear h
 obtain ⟨ji3, hji3⟩ : ∃ j_ : Int, (Go.bits .and .u64 (IntKind.u64.wrap (a1)) 31) = j_ := ⟨_, rfl⟩
 replace H : (if 0 ≤ (ji3) then (if 0 ≤ (IntKind.u64.wrap (32 - (ji3))) then (some (Go.bits .or .u32 (shl .u32 a0 (ji3)) (shr .u32 a0 (IntKind.u64.wrap (32 - (ji3)))))) else (none)) else (none)) = some r := by first | (rw [hji3] at H; exact H) | (simp only [hji3] at H ⊢; exact H)
 by_cases c4 : 0 ≤ (ji3)
 ·rw [if_pos c4] at H
  have c4b0 := eq_true c4
  have c4b1 : decide (0 ≤ (ji3)) = true := zd1 c4
  clear c4
  obtain ⟨ji5, hji5⟩ : ∃ j_ : Int, (shl .u32 a0 (ji3)) = j_ := ⟨_, rfl⟩
  replace H : (if 0 ≤ (IntKind.u64.wrap (32 - (ji3))) then (some (Go.bits .or .u32 (ji5) (shr .u32 a0 (IntKind.u64.wrap (32 - (ji3)))))) else (none)) = some r := by first | (rw [hji5] at H; exact H) | (simp only [hji5] at H ⊢; exact H)
  have hji5_ : (IntKind.u32.wrap (a0 * 2 ^ min (ji3).toNat 32)) = ji5 := hji5
  have hji5z : (ji3) ≤ 32 → (IntKind.u32.wrap (a0 * 2 ^ (ji3).toNat)) = ji5 := shl_small hji5
  obtain ⟨ji6, hji6⟩ : ∃ j_ : Int, (IntKind.u64.wrap (32 - (ji3))) = j_ := ⟨_, rfl⟩
  replace H : (if 0 ≤ (ji6) then (some (Go.bits .or .u32 (ji5) (shr .u32 a0 (ji6)))) else (none)) = some r := by first | (rw [hji6] at H; exact H) | (simp only [hji6] at H ⊢; exact H)
  by_cases c7 : 0 ≤ (ji6)
  ·rw [if_pos c7] at H
   have c7b0 := eq_true c7
   have c7b1 : decide (0 ≤ (ji6)) = true := zd1 c7
   clear c7
   obtain ⟨ji8, hji8⟩ : ∃ j_ : Int, (shr .u32 a0 (ji6)) = j_ := ⟨_, rfl⟩
   replace H : (some (Go.bits .or .u32 (ji5) (ji8))) = some r := by first | (rw [hji8] at H; exact H) | (simp only [hji8] at H ⊢; exact H)
   have hji8_ : (a0 / 2 ^ min (ji6).toNat 32) = ji8 := hji8
   have hji8z : (ji6) ≤ 32 → (a0 / 2 ^ (ji6).toNat) = ji8 := shr_small hji8
   obtain rfl := Option.some.inj H
   go_enter Try.func63, Try.ntmps63
   go_wp2
   go_ret
   exact ⟨by first | rfl | (simp; done) | (simp only [← hji3, ← hji5, ← hji6, ← hji8] <;> (first | rfl | simp)) | (simp [*]; done), by repeat (first | exact Drawn0.refl _ | apply Drawn0.step)⟩
  ·rw [if_neg c7] at H
   exact absurd H (by simp)
 ·rw [if_neg c4] at H
  exact absurd H (by simp)

/-! ### sha_turned: function 62 -/
def sha_turned.f (a0 : Int) (a1 : Int) : Option (Int) := (bits_RotateLeft32.f a0 (wrap64 (-a1))).bind fun t120 => (some t120)
set_option maxHeartbeats 8000000 in
set_option maxRecDepth 100000 in
theorem sha_turned.calls (a0 : Int) (a1 : Int) (r : Int) (w : World) (h : sha_turned.f a0 a1 = some r) :
    Calls Try.prog 62 #[.int .u32 a0, .int .i64 a1] w fun e w' => e = .returned (.int .u32 r) ∧ Drawn0 w w' := by
 have H : ((bits_RotateLeft32.f a0 (wrap64 (-a1))).bind fun t120 => (some t120)) = some r := h
 clear h
 replace H := Option.bind_eq_some_iff.mp H
 obtain ⟨t120, A30, H⟩ := H
 replace H : (some t120) = some r := H
 have A3 := zA A30
 clear A30
 obtain rfl := Option.some.inj H
 go_enter Try.func62, Try.ntmps62
 go_wp2_with (first | ((with_reducible refine gate_callee (f := 63) rfl ?_); refine goesL_ (some 8) rfl rfl Try.func63 (by kernel_rfl) rfl #[.int .u32 a0, .int .i64 (wrap64 (-a1))] rfl (by (try simp only [zm1, zm2, zm3]); first | done | rfl | (simp only [List.length_drop, List.length_take]; rfl)) ?_; (with_reducible refine (bits_RotateLeft32.calls a0 (wrap64 (-a1)) t120 _ A3.out).mono ?_); rintro e w' ⟨rfl, ⟨nd, rfl⟩⟩; refine ⟨_, rfl, ?_⟩))
 go_ret
 exact ⟨by first | rfl | (simp; done) | (simp [*]; done), by repeat (first | exact Drawn0.refl _ | apply Drawn0.step)⟩

-- NOT PRINTED: function 60 (sha_words)

-- NOT PRINTED: function 61 (sha_factors)

-- NOT PRINTED: function 57 (sha_State_take)

-- NOT PRINTED: function 52 (sha_State_Write)

-- NOT PRINTED: function 58 (sha_State_Copy)

end Go.Proofs.Ytlndkemblbbfaaa.PIndexOwn
