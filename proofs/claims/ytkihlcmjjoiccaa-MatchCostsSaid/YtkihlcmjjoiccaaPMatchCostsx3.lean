-- Written by a program of this session (the kit's printer with hand-written contracts among its functions).
-- squeezed
import Derived.Test.YtkihlcmjjoiccaaPMatchCostsx0
import Derived.Test.YtkihlcmjjoiccaaPMatchCostsx1
import Derived.Test.YtkihlcmjjoiccaaRq
namespace Go.Proofs.Ytkihlcmjjoiccaa.PMatchCosts
open Go.RowKit Go.Proofs.YtkihlcmjjoiccaaW.PrintWords Go.Proofs.YtkihlcmjjoiccaaW.PrintLast Go.Proofs.YtkihlcmjjoiccaaW.PrintMore
attribute [local go_sem] max2_int min2_int max_two min_two max_three min_three max_four min_four   -- for this text's walks alone
set_option linter.unusedVariables false
set_option linter.unusedSimpArgs false

-- NOT PRINTED: function 9 (match_New)

def index_Index_Find.l0 : Nat → Int → List Int → List Int → Int → Int → List (S55) → Int → Int → List (List Int) → Option (List Int)
 | 0, _, _, _, _, _, _, _, _, _ => none
 | k + 1, x1, x5, x18, x19, x20, x111000, x111001, x111002, x111003 => if x20 < x19 then (if 0 ≤ x20 then (if x20 < (x18.length : Int) then (if 0 ≤ (rd x18 x20) then (if (rd x18 x20) < (x111000.length : Int) then (if ((rd_T55 x111000 (rd x18 x20)).f0) = x1 then (if x5.length < 17592186044416 then (index_Index_Find.l0 k x1 (x5 ++ [rd x18 x20]) x18 x19 (wrap64 (x20 + 1)) x111000 x111001 x111002 x111003) else (none)) else (index_Index_Find.l0 k x1 x5 x18 x19 (wrap64 (x20 + 1)) x111000 x111001 x111002 x111003)) else (none)) else (none)) else (none)) else (none)) else (some x5)
def index_Index_Find.f (k : Nat) (l0_0 : List (S55)) (a0_1 : Int) (a0_2 : Int) (l0_3 : List (List Int)) (a1 : Int) : Option (List Int) := (index_Index_head.f l0_0 a0_1 a0_2 l0_3 a1).bind fun t111 => (if 0 ≤ t111 then (if t111 < (l0_3.length : Int) then (index_Index_Find.l0 k a1 ([] : List Int) (rd_L6 l0_3 t111) ((rd_L6 l0_3 t111).length : Int) 0 l0_0 a0_1 a0_2 l0_3) else (none)) else (none))
theorem index_Index_Find.mono_l : ∀ k, (∀ y0 y1 y2 y3 y4 y5 y6 y7 y8, LeO (index_Index_Find.l0 k y0 y1 y2 y3 y4 y5 y6 y7 y8) (index_Index_Find.l0 (k + 1) y0 y1 y2 y3 y4 y5 y6 y7 y8))
 | 0 => fun _ _ _ _ _ _ _ _ _ r h => by simp [index_Index_Find.l0] at h
 | k + 1 => by
  have ih0 := index_Index_Find.mono_l k
  ·intro y0 y1 y2 y3 y4 y5 y6 y7 y8
   unfold index_Index_Find.l0
   repeat' first
   | (with_reducible exact ih0 _ _ _ _ _ _ _ _ _)
   | (with_reducible exact LeO.refl _)
   | (with_reducible exact LeO.none _)
   | (with_reducible refine LeO.ite ?_ ?_)
   | (with_reducible refine LeO.bind ?_ (fun _ => ?_))
   | exact ih0 _ _ _ _ _ _ _ _ _
   | exact LeO.none _
   | refine LeO.ite ?_ ?_
   | refine LeO.bind ?_ (fun _ => ?_)
theorem index_Index_Find.mono : ∀ a0 a1 a2 a3 a4 k, LeO (index_Index_Find.f k a0 a1 a2 a3 a4) (index_Index_Find.f (k + 1) a0 a1 a2 a3 a4) := by
 intro a0 a1 a2 a3 a4 k
 have ih0 := index_Index_Find.mono_l k
 unfold index_Index_Find.f
 repeat' first
     | (with_reducible exact ih0 _ _ _ _ _ _ _ _ _)
     | (with_reducible exact LeO.refl _)
     | (with_reducible exact LeO.none _)
     | (with_reducible refine LeO.ite ?_ ?_)
     | (with_reducible refine LeO.bind ?_ (fun _ => ?_))
     | exact ih0 _ _ _ _ _ _ _ _ _
     | exact LeO.none _
     | refine LeO.ite ?_ ?_
     | refine LeO.bind ?_ (fun _ => ?_)
def index_Index_Find.T4 : Bool × List (List Nat × List Nat) := (true, [([], []), ([0], [0]), ([1], [1]), ([2], [2]), ([], []), ([], []), ([4, 5], [4, 5]), ([3, 6], [3, 6]), ([7], [7]), ([8], [8]), ([], [])])
def index_Index_Find.B4 : List Nat := [0, 1, 3, 7, 0, 0, 48, 127, 255, 511, 0]
theorem index_Index_Find.tab4 : rtab .any (opsOf Try.f45 4) = index_Index_Find.T4 := by kernel_rfl
theorem index_Index_Find.bits4 : waitsOk index_Index_Find.T4.2 index_Index_Find.B4 = true := by kernel_rfl
set_option maxHeartbeats 8000000 in
set_option maxRecDepth 100000 in
theorem index_Index_Find.calls (g : Nat) (k : Nat) (A0_0 : Option Addr) (c0_0 : Nat) (l0_0 : List (S55)) (a0_1 : Int) (a0_2 : Int) (A0_3 : Option Addr) (c0_3 : Nat) (l0_3 : List (List Int)) (a1 : Int) (r : List Int) (w : World) (hr0_0 : Kd.C k55 w A0_0 l0_0.length l0_0) (hc0_0 : l0_0.length ≤ c0_0) (hr0_3 : Kd.C (Kd.slice 3 (Kd.int .i64)) w A0_3 l0_3.length l0_3) (hc0_3 : l0_3.length ≤ c0_3) (hx : w.heap[g]? = some (.cells #[.slice A0_0 l0_0.length c0_0, .int .i64 a0_1, .int .i64 a0_2, .slice A0_3 l0_3.length c0_3] 81 (0, 0))) (h : index_Index_Find.f k l0_0 a0_1 a0_2 l0_3 a1 = some r) :
    Calls Try.prog 45 #[.pointer (some ⟨g, 0, none⟩), .int .u32 a1] w fun e w' => ∃ v0_ : Value, e = .returned (v0_) ∧ Kd.R (Kd.int .i64) 3 w' w.heap.size (fun _ => True) v0_ r ∧ Below w.heap.size w w' := by
 have hu81 := Try.underlying81
 have HR0_0 := zA hr0_0
 have HC0_0 := zA hc0_0
 clear hr0_0 hc0_0
 have HR0_3 := zA hr0_3
 have HC0_3 := zA hc0_3
 clear hr0_3 hc0_3
 have HB := zA (Below.refl w.heap.size w)
 have H : ((index_Index_head.f l0_0 a0_1 a0_2 l0_3 a1).bind fun t111 => (if 0 ≤ t111 then (if t111 < (l0_3.length : Int) then (index_Index_Find.l0 k a1 ([] : List Int) (rd_L6 l0_3 t111) ((rd_L6 l0_3 t111).length : Int) 0 l0_0 a0_1 a0_2 l0_3) else (none)) else (none))) = some r := h
 clear h
 replace H := Option.bind_eq_some_iff.mp H
 obtain ⟨t111, A30, H⟩ := H
 replace H : (if 0 ≤ t111 then (if t111 < (l0_3.length : Int) then (index_Index_Find.l0 k a1 ([] : List Int) (rd_L6 l0_3 t111) ((rd_L6 l0_3 t111).length : Int) 0 l0_0 a0_1 a0_2 l0_3) else (none)) else (none)) = some r := H
 have A3 := zA A30
 clear A30
 by_cases c4 : 0 ≤ t111
 ·rw [if_pos c4] at H
  have c4b0 : decide (0 ≤ t111) = true := zd1 c4
  clear c4
  by_cases c5 : t111 < (l0_3.length : Int)
  ·rw [if_pos c5] at H
   have c5b0 : decide (t111 < (l0_3.length : Int)) = true := zd1 c5
   clear c5
   have H' := zA H
   clear H
   go_enter Try.func45, Try.ntmps45
   have BK110 := zA hx
   try go_wp2_with (first | fail)
   have n0_ := zA (zc4 BK110.out)
   have n1_ := zA (zb2 HB.out)
   clear BK110
   clear HB
   have BK110 := n0_
   have HB := n1_
   clear n0_ n1_
   have p112 : 0 ≤ (t111 : Int) := zd3 (by first | (with_reducible assumption) | assumption)
   have q112 : t111 < (l0_3.length : Int) := zd3 (by first | (with_reducible assumption) | assumption)
   obtain ⟨ad112, A112_0, c112_0, e112, hx112_0, hl112_0, hi112_0⟩ := at_L6 HR0_3.out t111 p112 q112
   have hw112_0 := hx112_0
   cases e112
   replace hx112_0 := (HB.out.cell (World.block_lt_of_cell? w _ hx112_0)).trans hx112_0
   have HR112_0 := zA hi112_0
   have HC112_0 := zA hl112_0
   clear hi112_0 hl112_0
   replace p112 := eq_true p112
   replace q112 := eq_true q112
   refine start_ (n := 11) (S := fun w' => w'.cell? ⟨g, 0, none⟩ = some (.slice A0_0 l0_0.length c0_0) ∧ w'.cell? ⟨g, 1, none⟩ = some (.int .i64 a0_1) ∧ w'.cell? ⟨g, 2, none⟩ = some (.int .i64 a0_2) ∧ w'.cell? ⟨g, 3, none⟩ = some (.slice (some ad112) l0_3.length c0_3) ∧ w'.cell? (ad112.add (t111).toNat) = some (.slice A112_0 (rd_L6 l0_3 t111).length c112_0)) (ds := []) (qq 11 0) (by kernel_rfl) rfl (by kernel_rfl) ⟨(zc1 BK110.out 0).trans rfl, (zc1 BK110.out 1).trans rfl, (zc1 BK110.out 2).trans rfl, (zc1 BK110.out 3).trans rfl, ((HB.out.cell (World.block_lt_of_cell? w _ hw112_0)).trans hw112_0)⟩ (fun hHeld => ?_); refine with_tabW index_Index_Find.tab4 index_Index_Find.bits4 (fun HT_ HW_ => ?_)
   generalize w.drew = w7 at BK110 HB HR112_0 hx112_0 hHeld ⊢
   refine ord_ [(0, 0, 1), (0, 1, 3), (0, 2, 7), (0, 5, 39), (0, 10, 1063), (1, 3, 1071), (1, 4, 1087)] ?_
   repeat (first | (refine kk_ 0 ?_; refine oP_ (v := ?_) (a' := ?_) HT_ rfl rfl (by kernel_rfl) (fun _ _ _ h => h) (Or.inl ⟨by rfl, ?_⟩) ?_ ?_; rotate_left; (intro w'; go_simp; with_reducible rfl); rotate_left; (simp only [Act.put, zs1, zs2, zs3, i64_w, i32_w]; rfl)) | (refine kk_ 1 ?_; refine oT_ (v := ?_) (a' := ?_) HT_ HW_ rfl rfl (by kernel_rfl) (fun _ _ _ h => h) (Or.inl ⟨by rfl, ?_⟩) hHeld ?_ ?_; rotate_left; (rintro w' ⟨s0, s1, s2, s3, s4⟩; go_simp; with_reducible rfl); rotate_left; (simp only [Act.put, zs1, zs2, zs3, i64_w, i32_w]; rfl)))
   refine oend_ ?_
   refine one_ (i := 6) (N := some 16) (qq 11 1151) rfl rfl (one_of HT_.out (by kernel_rfl)) (by decide) (fun K hK => ?_)
   refine goes_ Try.func42 (by kernel_rfl) rfl #[.pointer (some ⟨g, 0, none⟩), .int .u32 a1] (by rfl) rfl rfl (by (try simp only [zm1, zm2, zm3]); first | done | rfl | (simp only [List.length_drop, List.length_take]; rfl)) ?_
   with_reducible refine (index_Index_head.calls g A0_0 c0_0 l0_0 a0_1 a0_2 (some ad112) c0_3 l0_3 a1 t111 _ ?side1 ?side2 ?side3 ?side4 ?sideX A3.out).mono ?_
   (case sideX => exact (by (with_reducible repeat (first | refine zc3 ?_ _ | refine zc4 ?_ | refine zc2 ?_ _)); exact BK110.out))
   (case side1 => repeat (first | exact (Kd.C_below HR0_0.out HB.out) | (with_reducible refine Kd.C_alloc ?_ _) | (with_reducible refine Kd.C_drewN ?_ _) | (with_reducible refine Kd.C_drew ?_)))
   (case side2 => exact HC0_0.out)
   (case side3 => repeat (first | exact (Kd.C_below HR0_3.out HB.out) | (with_reducible refine Kd.C_alloc ?_ _) | (with_reducible refine Kd.C_drewN ?_ _) | (with_reducible refine Kd.C_drew ?_)))
   (case side4 => exact HC0_3.out)
   rintro e w8 ⟨rfl, hb⟩
   refine ⟨_, rfl, ?_⟩
   have n0_ := zA (zc6 (g := g) (o := .cells #[.slice A0_0 l0_0.length c0_0, .int .i64 a0_1, .int .i64 a0_2, .slice (some ad112) l0_3.length c0_3] 81 (0, 0)) (by (with_reducible repeat (first | refine zc3 ?_ _ | refine zc4 ?_ | refine zc2 ?_ _)); exact BK110.out) hb)
   have n1_ := zA (zb5 (by repeat (first | (with_reducible first | exact HB.out | apply zb3 | apply zb1 | apply zb2 | refine zb4 ?_ GE110.out) | exact HB.out)) hb)
   clear BK110
   clear HB
   have BK110 := n0_
   have HB := n1_
   clear n0_ n1_
   (try clear hb)
   (try clear hb2)
   (try clear hk)
   (try clear hi)
   refine hK.out _ _ ⟨(zc1 BK110.out 0).trans rfl, (zc1 BK110.out 1).trans rfl, (zc1 BK110.out 2).trans rfl, (zc1 BK110.out 3).trans rfl, ((HB.out.cell (World.block_lt_of_cell? w _ hw112_0)).trans hw112_0)⟩ (fun hHeld => ?_)
   clear hK K
   refine norm_ (a' := ?_) ?_ ?_
   rotate_left
   ·show Act.put _ (some 16) _ = _
    simp only [Act.put, zs1, zs2, zs3, i64_w, i32_w]
    rfl
   refine ord_ [(0, 7, 1279), (1, 8, 1535), (0, 9, 2047)] ?_
   repeat (first | (refine kk_ 0 ?_; refine oP_ (v := ?_) (a' := ?_) HT_ rfl rfl (by kernel_rfl) (fun _ _ _ h => h) (Or.inl ⟨by rfl, ?_⟩) ?_ ?_; rotate_left; (intro w'; go_simp; with_reducible rfl); rotate_left; (simp only [Act.put, zs1, zs2, zs3, i64_w, i32_w]; rfl)) | (refine kk_ 1 ?_; refine oT_ (v := ?_) (a' := ?_) HT_ HW_ rfl rfl (by kernel_rfl) (fun _ _ _ h => h) (Or.inl ⟨by rfl, ?_⟩) hHeld ?_ ?_; rotate_left; (rintro w' ⟨s0, s1, s2, s3, s4⟩; go_simp; with_reducible rfl); rotate_left; (simp only [Act.put, zs1, zs2, zs3, i64_w, i32_w]; rfl)))
   refine oend_ ?_
   refine done_ (done_of HT_.out (by kernel_rfl)) ?_
   try go_wp2
   go_loopg [5, 20] k (fun kq v5 v20 w' => ∃ (x5_1 : List Int) (x20_1 : Int), v20 = .int .i64 x20_1 ∧ Aside0 (index_Index_Find.l0 kq a1 x5_1 (rd_L6 l0_3 t111) ((rd_L6 l0_3 t111).length : Int) x20_1 l0_0 a0_1 a0_2 l0_3 = some r) ∧ Aside0 (kq ≤ k) ∧ Aside0 (Kd.R (Kd.int .i64) 3 w' w.heap.size (fun _ => True) v5 x5_1) ∧ Aside0 (w'.heap[g]? = some (.cells #[(.slice A0_0 l0_0.length c0_0), .int .i64 a0_1, .int .i64 a0_2, (.slice (some ad112) l0_3.length c0_3)] 81 (0, 0))) ∧ Aside0 (Below w.heap.size w w'))
   case atStart => exact ⟨(([] : List Int)), (0), (by first | rfl | (simp; done) | (simp [*]; done)), H', ⟨Nat.le_refl _⟩, ⟨by first | exact Kd.R_nil _ _ _ _ _ | exact Kd.N_nil _ _ _ _ _ | exact Kd.V_nil _ _ _ _ _ | exact Kd.Q_nil _ _ _ _ _ | exact Kd.S_nil _ _ _ _ _⟩, ⟨by (with_reducible repeat (first | refine zc3 ?_ _ | refine zc4 ?_ | refine zc2 ?_ _)); exact BK110.out⟩, ⟨by repeat (first | (with_reducible first | exact HB.out | apply zb3 | apply zb1 | apply zb2 | refine zb4 ?_ GE110.out) | exact HB.out)⟩⟩
   case round =>
    clear H'
    try clear c1
    try clear p1
    try clear q1
    try clear hx1
    try clear p2
    try clear c4
    try clear c4b0
    try clear c5
    try clear c5b0
    try clear hx112_0
    try clear p112
    try clear q112
    obtain ⟨x5_1, x20_1, rfl, HA, HK1, HO_5, BK110, HB⟩ := hrel
    cases gk with
    | zero => exact absurd HA.out (by simp [index_Index_Find.l0])
    | succ k1 =>
     have H := HA.out
     clear HA
     simp only [index_Index_Find.l0] at H
     by_cases c9 : x20_1 < ((rd_L6 l0_3 t111).length : Int)
     ·rw [if_pos c9] at H
      have c9b0 : decide (x20_1 < ((rd_L6 l0_3 t111).length : Int)) = true := zd1 c9
      clear c9
      by_cases c10 : 0 ≤ x20_1
      ·rw [if_pos c10] at H
       have c10b0 : decide (0 ≤ x20_1) = true := zd1 c10
       clear c10
       by_cases c11 : x20_1 < ((rd_L6 l0_3 t111).length : Int)
       ·rw [if_pos c11] at H
        have c11b0 : decide (x20_1 < ((rd_L6 l0_3 t111).length : Int)) = true := zd1 c11
        clear c11
        by_cases c12 : 0 ≤ (rd (rd_L6 l0_3 t111) x20_1)
        ·rw [if_pos c12] at H
         have c12b0 : decide (0 ≤ (rd (rd_L6 l0_3 t111) x20_1)) = true := zd1 c12
         clear c12
         by_cases c13 : (rd (rd_L6 l0_3 t111) x20_1) < (l0_0.length : Int)
         ·rw [if_pos c13] at H
          have c13b0 : decide ((rd (rd_L6 l0_3 t111) x20_1) < (l0_0.length : Int)) = true := zd1 c13
          clear c13
          by_cases c14 : ((rd_T55 l0_0 (rd (rd_L6 l0_3 t111) x20_1)).f0) = a1
          ·rw [if_pos c14] at H
           have c14b0 : (((rd_T55 l0_0 (rd (rd_L6 l0_3 t111) x20_1)).f0) == a1) = true := beq_iff_eq.mpr c14
           have c14b1 : (((rd_T55 l0_0 (rd (rd_L6 l0_3 t111) x20_1)).f0) != a1) = false := bne_eq_false_iff_eq.mpr c14
           clear c14
           by_cases c15 : x5_1.length < 17592186044416
           ·rw [if_pos c15] at H
            have LMc15 := zA c15
            clear c15
            obtain ⟨y115, hy115⟩ : ∃ y_ : List Int, y_ = (x5_1 ++ [rd (rd_L6 l0_3 t111) x20_1]) := ⟨_, rfl⟩
            replace H : (index_Index_Find.l0 k1 a1 y115 (rd_L6 l0_3 t111) ((rd_L6 l0_3 t111).length : Int) (wrap64 (x20_1 + 1)) l0_0 a0_1 a0_2 l0_3) = some r := by first | (rw [hy115]; with_reducible exact H) | (have H2_ := (Option.bind_some _ _).symm.trans H; rw [hy115]; with_reducible exact H2_) | (have H2_ := (Option.bind_some _ _).symm.trans H; with_reducible exact H2_) | with_reducible exact H | (rw [hy115]; exact H) | exact H
            have Ny115 := zA hy115
            clear hy115
            have H' := zA H
            clear H
            have p113 : 0 ≤ (x20_1 : Int) := zd3 (by first | (with_reducible assumption) | assumption)
            have q113 : x20_1 < ((rd_L6 l0_3 t111).length : Int) := zd3 (by first | (with_reducible assumption) | assumption)
            obtain ⟨ad113, e113, hx113_0⟩ := Kd.at_int HR112_0.out x20_1 p113 q113
            cases e113
            replace hx113_0 := (HB.out.cell (World.block_lt_of_cell? w _ hx113_0)).trans hx113_0
            replace p113 := eq_true p113
            replace q113 := eq_true q113
            have hcz16_0 : wr.cell? ⟨g, 0, none⟩ = some (.slice A0_0 l0_0.length c0_0) := (zc1 BK110.out 0).trans rfl
            have hcz16_1 : wr.cell? ⟨g, 1, none⟩ = some (.int .i64 a0_1) := (zc1 BK110.out 1).trans rfl
            have hcz16_2 : wr.cell? ⟨g, 2, none⟩ = some (.int .i64 a0_2) := (zc1 BK110.out 2).trans rfl
            have hcz16_3 : wr.cell? ⟨g, 3, none⟩ = some (.slice (some ad112) l0_3.length c0_3) := (zc1 BK110.out 3).trans rfl
            have hfz16_0 := zc5 BK110.out 0
            have hfz16_1 := zc5 BK110.out 1
            have hfz16_2 := zc5 BK110.out 2
            have hfz16_3 := zc5 BK110.out 3
            have p114 : 0 ≤ ((rd (rd_L6 l0_3 t111) x20_1) : Int) := zd3 (by first | (with_reducible assumption) | assumption)
            have q114 : (rd (rd_L6 l0_3 t111) x20_1) < (l0_0.length : Int) := zd3 (by first | (with_reducible assumption) | assumption)
            obtain ⟨ad114, e114, hx114_0, hx114_1⟩ := at_T55 HR0_0.out (rd (rd_L6 l0_3 t111) x20_1) p114 q114
            cases e114
            replace hx114_0 := (HB.out.cell (World.block_lt_of_cell? w _ hx114_0)).trans hx114_0
            replace hx114_1 := (HB.out.cell (World.block_lt_of_cell? w _ hx114_1)).trans hx114_1
            replace p114 := eq_true p114
            replace q114 := eq_true q114
            go_wp2_with (first | ((with_reducible refine gate_builtin (b := .append) (xs := #[.tmp 34, .tmp 36]) rfl ?_); at_builtin; refine Kd.R_append (Kd.int .i64) (w0 := w) w.heap.size rfl (.tmp 34) (.tmp 36) 82 3 (.int .i64 0) 8 rfl Try.underlying82 info3 rfl (by decide) (by omega) u5 x5_1 (rd (rd_L6 l0_3 t111) x20_1) [.int .i64 (rd (rd_L6 l0_3 t111) x20_1)] (fun _ => True) (fun _ => False) rfl rfl ?aP (fun _ hk => hk.elim) ?aF ?aO ?aB ?aS ?aL ?_; (case aP => exact rfl); (case aB => exact (by repeat (first | (with_reducible first | exact HB.out | apply zb3 | apply zb1 | apply zb2 | refine zb4 ?_ GE110.out) | exact HB.out))); (case aF => exact (fun _ _ => trivial)); (case aO => exact (by (with_reducible repeat (first | apply Kd.R_alloc | apply Kd.R_drewN | apply Kd.R_drew)); exact HO_5.out)); (case aS => exact (zb6 (by repeat (first | (with_reducible first | exact HB.out | apply zb3 | apply zb1 | apply zb2 | refine zb4 ?_ GE110.out) | exact HB.out)))); (case aL => have := LMc15.out; omega); intro v116 w17 ho hb hg hat; rw [← Ny115.out] at ho; have n0_ := zA (blk_grown (g := g) (o := .cells #[.slice (some ad114) l0_0.length c0_0, .int .i64 a0_1, .int .i64 a0_2, .slice (some ad112) l0_3.length c0_3] 81 (0, 0)) (by (with_reducible repeat (first | refine zc3 ?_ _ | refine zc4 ?_ | refine zc2 ?_ _)); exact BK110.out) hg (Kd.R_ne HO_5.out BK110.out (by decide))); have n1_ := zA (hb); have n2_ := zA (ho); clear BK110; clear HB; clear HO_5; have BK110 := n0_; have HB := n1_; have HO117 := n2_; clear n0_ n1_ n2_; clear ho hb hg hat))
            go_roundg k1
            case measure => have := HK1.out; omega
            case rel => exact ⟨(y115), (wrap64 (x20_1 + 1)), (by first | rfl | (simp; done) | (simp [*]; done)), H', ⟨by have := HK1.out; omega⟩, ⟨by (with_reducible repeat (first | apply Kd.R_alloc | apply Kd.R_drewN | apply Kd.R_drew)); exact HO117.out⟩, ⟨by (with_reducible repeat (first | refine zc3 ?_ _ | refine zc4 ?_ | refine zc2 ?_ _)); exact BK110.out⟩, ⟨by repeat (first | (with_reducible first | exact HB.out | apply zb3 | apply zb1 | apply zb2 | refine zb4 ?_ GE110.out) | exact HB.out)⟩⟩
           ·rw [if_neg c15] at H
            exact absurd H (by simp)
          ·rw [if_neg c14] at H
           have c14b0 : (((rd_T55 l0_0 (rd (rd_L6 l0_3 t111) x20_1)).f0) == a1) = false := beq_eq_false_iff_ne.mpr c14
           have c14b1 : (((rd_T55 l0_0 (rd (rd_L6 l0_3 t111) x20_1)).f0) != a1) = true := bne_iff_ne.mpr c14
           have H' := zA H
           clear H
           have p113 : 0 ≤ (x20_1 : Int) := zd3 (by first | (with_reducible assumption) | assumption)
           have q113 : x20_1 < ((rd_L6 l0_3 t111).length : Int) := zd3 (by first | (with_reducible assumption) | assumption)
           obtain ⟨ad113, e113, hx113_0⟩ := Kd.at_int HR112_0.out x20_1 p113 q113
           cases e113
           replace hx113_0 := (HB.out.cell (World.block_lt_of_cell? w _ hx113_0)).trans hx113_0
           replace p113 := eq_true p113
           replace q113 := eq_true q113
           have hcz18_0 : wr.cell? ⟨g, 0, none⟩ = some (.slice A0_0 l0_0.length c0_0) := (zc1 BK110.out 0).trans rfl
           have hcz18_1 : wr.cell? ⟨g, 1, none⟩ = some (.int .i64 a0_1) := (zc1 BK110.out 1).trans rfl
           have hcz18_2 : wr.cell? ⟨g, 2, none⟩ = some (.int .i64 a0_2) := (zc1 BK110.out 2).trans rfl
           have hcz18_3 : wr.cell? ⟨g, 3, none⟩ = some (.slice (some ad112) l0_3.length c0_3) := (zc1 BK110.out 3).trans rfl
           have hfz18_0 := zc5 BK110.out 0
           have hfz18_1 := zc5 BK110.out 1
           have hfz18_2 := zc5 BK110.out 2
           have hfz18_3 := zc5 BK110.out 3
           have p114 : 0 ≤ ((rd (rd_L6 l0_3 t111) x20_1) : Int) := zd3 (by first | (with_reducible assumption) | assumption)
           have q114 : (rd (rd_L6 l0_3 t111) x20_1) < (l0_0.length : Int) := zd3 (by first | (with_reducible assumption) | assumption)
           obtain ⟨ad114, e114, hx114_0, hx114_1⟩ := at_T55 HR0_0.out (rd (rd_L6 l0_3 t111) x20_1) p114 q114
           cases e114
           replace hx114_0 := (HB.out.cell (World.block_lt_of_cell? w _ hx114_0)).trans hx114_0
           replace hx114_1 := (HB.out.cell (World.block_lt_of_cell? w _ hx114_1)).trans hx114_1
           replace p114 := eq_true p114
           replace q114 := eq_true q114
           go_wp2
           go_roundg k1
           case measure => have := HK1.out; omega
           case rel => exact ⟨(x5_1), (wrap64 (x20_1 + 1)), (by first | rfl | (simp; done) | (simp [*]; done)), H', ⟨by have := HK1.out; omega⟩, ⟨by (with_reducible repeat (first | apply Kd.R_alloc | apply Kd.R_drewN | apply Kd.R_drew)); exact HO_5.out⟩, ⟨by (with_reducible repeat (first | refine zc3 ?_ _ | refine zc4 ?_ | refine zc2 ?_ _)); exact BK110.out⟩, ⟨by repeat (first | (with_reducible first | exact HB.out | apply zb3 | apply zb1 | apply zb2 | refine zb4 ?_ GE110.out) | exact HB.out)⟩⟩
         ·rw [if_neg c13] at H
          exact absurd H (by simp)
        ·rw [if_neg c12] at H
         exact absurd H (by simp)
       ·rw [if_neg c11] at H
        exact absurd H (by simp)
      ·rw [if_neg c10] at H
       exact absurd H (by simp)
     ·rw [if_neg c9] at H
      have c9b0 : decide (x20_1 < ((rd_L6 l0_3 t111).length : Int)) = false := zd2 c9
      clear c9
      obtain rfl := Option.some.inj H
      go_wp2
      go_ret
      exact ⟨_, by first | rfl | (simp [*] <;> rfl), by (with_reducible repeat (first | apply Kd.R_alloc | apply Kd.R_drewN | apply Kd.R_drew)); exact HO_5.out, by repeat (first | (with_reducible first | exact HB.out | apply zb3 | apply zb1 | apply zb2 | refine zb4 ?_ GE110.out) | exact HB.out)⟩
  ·rw [if_neg c5] at H
   exact absurd H (by simp)
 ·rw [if_neg c4] at H
  exact absurd H (by simp)

-- NOT PRINTED: function 73 (sha_first)

-- NOT PRINTED: function 69 (sha_New)

def bits_RotateLeft32.f (a0 : Int) (a1 : Int) : Option (Int) := if 0 ≤ (Go.bits .and .u64 (IntKind.u64.wrap (a1)) 31) then (if 0 ≤ (IntKind.u64.wrap (32 - (Go.bits .and .u64 (IntKind.u64.wrap (a1)) 31))) then (some (Go.bits .or .u32 (shl .u32 a0 (Go.bits .and .u64 (IntKind.u64.wrap (a1)) 31)) (shr .u32 a0 (IntKind.u64.wrap (32 - (Go.bits .and .u64 (IntKind.u64.wrap (a1)) 31)))))) else (none)) else (none)
set_option maxHeartbeats 8000000 in
set_option maxRecDepth 100000 in
theorem bits_RotateLeft32.calls (a0 : Int) (a1 : Int) (r : Int) (w : World) (h : bits_RotateLeft32.f a0 a1 = some r) :
    Calls Try.prog 80 #[.int .u32 a0, .int .i64 a1] w fun e w' => e = .returned (.int .u32 r) ∧ Drawn0 w w' := by
 have H : (if 0 ≤ (Go.bits .and .u64 (IntKind.u64.wrap (a1)) 31) then (if 0 ≤ (IntKind.u64.wrap (32 - (Go.bits .and .u64 (IntKind.u64.wrap (a1)) 31))) then (some (Go.bits .or .u32 (shl .u32 a0 (Go.bits .and .u64 (IntKind.u64.wrap (a1)) 31)) (shr .u32 a0 (IntKind.u64.wrap (32 - (Go.bits .and .u64 (IntKind.u64.wrap (a1)) 31)))))) else (none)) else (none)) = some r := h
 clear h
 obtain ⟨ji3, hji3⟩ : ∃ j_ : Int, (Go.bits .and .u64 (IntKind.u64.wrap (a1)) 31) = j_ := ⟨_, rfl⟩
 replace H : (if 0 ≤ (ji3) then (if 0 ≤ (IntKind.u64.wrap (32 - (ji3))) then (some (Go.bits .or .u32 (shl .u32 a0 (ji3)) (shr .u32 a0 (IntKind.u64.wrap (32 - (ji3)))))) else (none)) else (none)) = some r := by first | (rw [hji3] at H; exact H) | (simp only [hji3] at H ⊢; exact H)
 by_cases c4 : 0 ≤ (ji3)
 ·rw [if_pos c4] at H
  have c4b0 := eq_true c4
  have c4b1 : decide (0 ≤ (ji3)) = true := zd1 c4
  clear c4
  obtain ⟨ji5, hji5⟩ : ∃ j_ : Int, (shl .u32 a0 (ji3)) = j_ := ⟨_, rfl⟩
  replace H : (if 0 ≤ (IntKind.u64.wrap (32 - (ji3))) then (some (Go.bits .or .u32 (ji5) (shr .u32 a0 (IntKind.u64.wrap (32 - (ji3)))))) else (none)) = some r := by first | (rw [hji5] at H; exact H) | (simp only [hji5] at H ⊢; exact H)
  have hji5_ : (IntKind.u32.wrap (a0 * 2 ^ min (ji3).toNat 32)) = ji5 := hji5
  have hji5z : (ji3) ≤ 32 → (IntKind.u32.wrap (a0 * 2 ^ (ji3).toNat)) = ji5 := shl_small hji5
  obtain ⟨ji6, hji6⟩ : ∃ j_ : Int, (IntKind.u64.wrap (32 - (ji3))) = j_ := ⟨_, rfl⟩
  replace H : (if 0 ≤ (ji6) then (some (Go.bits .or .u32 (ji5) (shr .u32 a0 (ji6)))) else (none)) = some r := by first | (rw [hji6] at H; exact H) | (simp only [hji6] at H ⊢; exact H)
  by_cases c7 : 0 ≤ (ji6)
  ·rw [if_pos c7] at H
   have c7b0 := eq_true c7
   have c7b1 : decide (0 ≤ (ji6)) = true := zd1 c7
   clear c7
   obtain ⟨ji8, hji8⟩ : ∃ j_ : Int, (shr .u32 a0 (ji6)) = j_ := ⟨_, rfl⟩
   replace H : (some (Go.bits .or .u32 (ji5) (ji8))) = some r := by first | (rw [hji8] at H; exact H) | (simp only [hji8] at H ⊢; exact H)
   have hji8_ : (a0 / 2 ^ min (ji6).toNat 32) = ji8 := hji8
   have hji8z : (ji6) ≤ 32 → (a0 / 2 ^ (ji6).toNat) = ji8 := shr_small hji8
   obtain rfl := Option.some.inj H
   go_enter Try.func80, Try.ntmps80
   go_wp2
   go_ret
   exact ⟨by first | rfl | (simp; done) | (simp only [← hji3, ← hji5, ← hji6, ← hji8] <;> (first | rfl | simp)) | (simp [*]; done), by repeat (first | exact Drawn0.refl _ | apply Drawn0.step)⟩
  ·rw [if_neg c7] at H
   exact absurd H (by simp)
 ·rw [if_neg c4] at H
  exact absurd H (by simp)

def sha_turned.f (a0 : Int) (a1 : Int) : Option (Int) := (bits_RotateLeft32.f a0 (wrap64 (-a1))).bind fun t118 => (some t118)
set_option maxHeartbeats 8000000 in
set_option maxRecDepth 100000 in
theorem sha_turned.calls (a0 : Int) (a1 : Int) (r : Int) (w : World) (h : sha_turned.f a0 a1 = some r) :
    Calls Try.prog 79 #[.int .u32 a0, .int .i64 a1] w fun e w' => e = .returned (.int .u32 r) ∧ Drawn0 w w' := by
 have H : ((bits_RotateLeft32.f a0 (wrap64 (-a1))).bind fun t118 => (some t118)) = some r := h
 clear h
 replace H := Option.bind_eq_some_iff.mp H
 obtain ⟨t118, A30, H⟩ := H
 replace H : (some t118) = some r := H
 have A3 := zA A30
 clear A30
 obtain rfl := Option.some.inj H
 go_enter Try.func79, Try.ntmps79
 go_wp2_with (first | ((with_reducible refine gate_callee (f := 80) rfl ?_); refine goesL_ (some 8) rfl rfl Try.func80 (by kernel_rfl) rfl #[.int .u32 a0, .int .i64 (wrap64 (-a1))] rfl (by (try simp only [zm1, zm2, zm3]); first | done | rfl | (simp only [List.length_drop, List.length_take]; rfl)) ?_; (with_reducible refine (bits_RotateLeft32.calls a0 (wrap64 (-a1)) t118 _ A3.out).mono ?_); rintro e w' ⟨rfl, ⟨nd, rfl⟩⟩; refine ⟨_, rfl, ?_⟩))
 go_ret
 exact ⟨by first | rfl | (simp; done) | (simp [*]; done), by repeat (first | exact Drawn0.refl _ | apply Drawn0.step)⟩

-- NOT PRINTED: function 77 (sha_words)

-- NOT PRINTED: function 78 (sha_factors)

-- NOT PRINTED: function 74 (sha_State_take)

-- NOT PRINTED: function 70 (sha_State_Write)

-- NOT PRINTED: function 75 (sha_State_Copy)

mutual
def sha_end.l0 : Nat → Int → List Int → Option (List Int)
 | 0, _, _ => none
 | k + 1, x0, x3 => if (Int.tmod (wrap64 (x0 + (x3.length : Int))) 64) = 56 then (sha_end.l1 k x0 x3 0) else (if x3.length < 140737488355328 then (sha_end.l0 k x0 (x3 ++ [0])) else (none))
def sha_end.l1 : Nat → Int → List Int → Int → Option (List Int)
 | 0, _, _, _ => none
 | k + 1, x0, x3, x15 => if x15 < 8 then (if 0 ≤ (wrap64 (56 - (wrap64 (8 * x15)))) then (if x3.length < 140737488355328 then (sha_end.l1 k x0 (x3 ++ [(shr .u64 (IntKind.u64.wrap ((IntKind.u64.wrap (x0)) * 8)) (wrap64 (56 - (wrap64 (8 * x15))))) % 256]) (wrap64 (x15 + 1))) else (none)) else (none)) else (some x3)
end
def sha_end.f (k : Nat) (a0 : Int) : Option (List Int) := sha_end.l0 k a0 (([128] : List Int))
theorem sha_end.mono_l : ∀ k, (∀ y0 y1, LeO (sha_end.l0 k y0 y1) (sha_end.l0 (k + 1) y0 y1)) ∧ (∀ y0 y1 y2, LeO (sha_end.l1 k y0 y1 y2) (sha_end.l1 (k + 1) y0 y1 y2))
 | 0 => ⟨fun _ _ r h => by simp [sha_end.l0] at h, fun _ _ _ r h => by simp [sha_end.l1] at h⟩
 | k + 1 => by
  obtain ⟨ih0, ih1⟩ := sha_end.mono_l k
  refine ⟨?_, ?_⟩
  ·intro y0 y1
   unfold sha_end.l0
   repeat' first
   | (with_reducible exact ih0 _ _)
   | (with_reducible exact ih1 _ _ _)
   | (with_reducible exact LeO.refl _)
   | (with_reducible exact LeO.none _)
   | (with_reducible refine LeO.ite ?_ ?_)
   | (with_reducible refine LeO.bind ?_ (fun _ => ?_))
   | exact ih0 _ _
   | exact ih1 _ _ _
   | exact LeO.none _
   | refine LeO.ite ?_ ?_
   | refine LeO.bind ?_ (fun _ => ?_)
  ·intro y0 y1 y2
   unfold sha_end.l1
   repeat' first
   | (with_reducible exact ih0 _ _)
   | (with_reducible exact ih1 _ _ _)
   | (with_reducible exact LeO.refl _)
   | (with_reducible exact LeO.none _)
   | (with_reducible refine LeO.ite ?_ ?_)
   | (with_reducible refine LeO.bind ?_ (fun _ => ?_))
   | exact ih0 _ _
   | exact ih1 _ _ _
   | exact LeO.none _
   | refine LeO.ite ?_ ?_
   | refine LeO.bind ?_ (fun _ => ?_)
theorem sha_end.mono : ∀ a0 k, LeO (sha_end.f k a0) (sha_end.f (k + 1) a0) := by
 intro a0 k
 obtain ⟨ih0, ih1⟩ := sha_end.mono_l k
 unfold sha_end.f
 repeat' first
     | (with_reducible exact ih0 _ _)
     | (with_reducible exact ih1 _ _ _)
     | (with_reducible exact LeO.refl _)
     | (with_reducible exact LeO.none _)
     | (with_reducible refine LeO.ite ?_ ?_)
     | (with_reducible refine LeO.bind ?_ (fun _ => ?_))
     | exact ih0 _ _
     | exact ih1 _ _ _
     | exact LeO.none _
     | refine LeO.ite ?_ ?_
     | refine LeO.bind ?_ (fun _ => ?_)
set_option maxHeartbeats 8000000 in
set_option maxRecDepth 100000 in
theorem sha_end.calls (k : Nat) (a0 : Int) (r : List Int) (w : World) (h : sha_end.f k a0 = some r) :
    Calls Try.prog 76 #[.int .i64 a0] w fun e w' => ∃ v0_ : Value, e = .returned (v0_) ∧ Kd.R (Kd.int .u8) 5 w' w.heap.size (fun _ => True) v0_ r ∧ Below w.heap.size w w' := by
 have HB := zA (Below.refl w.heap.size w)
 have H : (sha_end.l0 k a0 (([128] : List Int))) = some r := h
 clear h
 obtain ⟨y119, hy119⟩ : ∃ y_ : List Int, y_ = (([128] : List Int)) := ⟨_, rfl⟩
 replace H : (sha_end.l0 k a0 y119) = some r := by first | (rw [hy119]; with_reducible exact H) | (have H2_ := (Option.bind_some _ _).symm.trans H; rw [hy119]; with_reducible exact H2_) | (have H2_ := (Option.bind_some _ _).symm.trans H; with_reducible exact H2_) | with_reducible exact H | (rw [hy119]; exact H) | exact H
 have Ny119 := zA hy119
 clear hy119
 have H' := zA H
 clear H
 go_enter Try.func76, Try.ntmps76
 go_wp2_with (first | ((with_reducible refine gate_dst (N := 5) rfl ?_); refine Kd.R_lit (Kd.int .u8) _ 5 ?hg (N := 5) ?hd (xs := ([128] : List Int)) (inner := [.int .u8 128]) (ok := fun _ => True) (okp := fun _ => True) ?hr ?hp (fun _ hk => hk) trivial (Below.refl _ _) (Nat.le_refl _) (by simp) ?_; (case hd => rfl); (case hg => rfl); (case hr => first | (go_simp; done) | (go_simp; rfl)); (case hp => exact (Reps.one (show Kd.M (Kd.int .u8) _ _ _ 128 [.int .u8 128] from rfl) (Reps.none _ _))); intro v120 w2 ho3 hb hg_ hnew_; clear hg_ hnew_; (first | rw [← Ny119.out] at ho3 | (simp only [Int.reduceToNat] at ho3; rw [← Ny119.out] at ho3)); have n0_ := zA (Kd.R_lower ho3 (zb6 (by repeat (first | (with_reducible first | exact HB.out | apply zb3 | apply zb1 | apply zb2) | exact HB.out)))); have n1_ := zA (zb5 (by repeat (first | (with_reducible first | exact HB.out | apply zb3 | apply zb1 | apply zb2) | exact HB.out)) hb); clear HB; have HO121 := n0_; have HB := n1_; clear n0_ n1_; clear hb ho3))
 go_loopg [3] k (fun kq v3 w' => ∃ (x3_1 : List Int), Aside0 (sha_end.l0 kq a0 x3_1 = some r) ∧ Aside0 (kq ≤ k) ∧ Aside0 (Kd.R (Kd.int .u8) 5 w' w.heap.size (fun _ => True) v3 x3_1) ∧ Aside0 (Below w.heap.size w w'))
 case atStart => exact ⟨(y119), H', ⟨Nat.le_refl _⟩, ⟨by (with_reducible repeat (first | apply Kd.R_alloc | apply Kd.R_drewN | apply Kd.R_drew)); exact HO121.out⟩, ⟨by repeat (first | (with_reducible first | exact HB.out | apply zb3 | apply zb1 | apply zb2) | exact HB.out)⟩⟩
 case round =>
  clear H'
  try clear p2
  obtain ⟨x3_1, HA, HK1, HO_3, HB⟩ := hrel
  cases gk with
  | zero => exact absurd HA.out (by simp [sha_end.l0])
  | succ k1 =>
   have H := HA.out
   clear HA
   simp only [sha_end.l0] at H
   by_cases c4 : (Int.tmod (wrap64 (a0 + (x3_1.length : Int))) 64) = 56
   ·rw [if_pos c4] at H
    have c4b0 : ((Int.tmod (wrap64 (a0 + (x3_1.length : Int))) 64) == 56) = true := beq_iff_eq.mpr c4
    have c4b1 : ((Int.tmod (wrap64 (a0 + (x3_1.length : Int))) 64) != 56) = false := bne_eq_false_iff_eq.mpr c4
    clear c4
    have H' := zA H
    clear H
    obtain ⟨Ao5, co5, eo5⟩ := Kd.R_slice HO_3.out
    subst eo5
    go_wp2
    go_loopg [3, 15] k1 (fun kq v3 v15 w' => ∃ (x3_2 : List Int) (x15_2 : Int), v15 = .int .i64 x15_2 ∧ Aside0 (sha_end.l1 kq a0 x3_2 x15_2 = some r) ∧ Aside0 (kq ≤ k1) ∧ Aside0 (Kd.R (Kd.int .u8) 5 w' w.heap.size (fun _ => True) v3 x3_2) ∧ Aside0 (Below w.heap.size w w'))
    case atStart => exact ⟨(x3_1), (0), (by first | rfl | (simp; done) | (simp [*]; done)), H', ⟨Nat.le_refl _⟩, ⟨by (with_reducible repeat (first | apply Kd.R_alloc | apply Kd.R_drewN | apply Kd.R_drew)); exact HO_3.out⟩, ⟨by repeat (first | (with_reducible first | exact HB.out | apply zb3 | apply zb1 | apply zb2) | exact HB.out)⟩⟩
    case round =>
     clear H'
     try clear p2
     try clear c4
     try clear c4b0
     try clear c4b1
     try clear p2
     obtain ⟨x3_2, x15_2, rfl, HA, HK2, HO_3, HB⟩ := hrel
     cases gk with
     | zero => exact absurd HA.out (by simp [sha_end.l1])
     | succ k2 =>
      have H := HA.out
      clear HA
      simp only [sha_end.l1] at H
      by_cases c6 : x15_2 < 8
      ·rw [if_pos c6] at H
       have c6b0 : decide (x15_2 < 8) = true := zd1 c6
       clear c6
       obtain ⟨ji7, hji7⟩ : ∃ j_ : Int, (wrap64 (56 - (wrap64 (8 * x15_2)))) = j_ := ⟨_, rfl⟩
       replace H : (if 0 ≤ (ji7) then (if x3_2.length < 140737488355328 then (sha_end.l1 k2 a0 (x3_2 ++ [(shr .u64 (IntKind.u64.wrap ((IntKind.u64.wrap (a0)) * 8)) (ji7)) % 256]) (wrap64 (x15_2 + 1))) else (none)) else (none)) = some r := by first | (rw [hji7] at H; exact H) | (simp only [hji7] at H ⊢; exact H)
       have hji7w : (IntKind.i64.wrap (56 - (wrap64 (8 * x15_2)))) = ji7 := (i64_w _).trans hji7
       by_cases c8 : 0 ≤ (ji7)
       ·rw [if_pos c8] at H
        have c8b0 := eq_true c8
        have c8b1 : decide (0 ≤ (ji7)) = true := zd1 c8
        clear c8
        obtain ⟨ji9, hji9⟩ : ∃ j_ : Int, (shr .u64 (IntKind.u64.wrap ((IntKind.u64.wrap (a0)) * 8)) (ji7)) = j_ := ⟨_, rfl⟩
        replace H : (if x3_2.length < 140737488355328 then (sha_end.l1 k2 a0 (x3_2 ++ [(ji9) % 256]) (wrap64 (x15_2 + 1))) else (none)) = some r := by first | (rw [hji9] at H; exact H) | (simp only [hji9] at H ⊢; exact H)
        have hji9_ : ((IntKind.u64.wrap ((IntKind.u64.wrap (a0)) * 8)) / 2 ^ min (ji7).toNat 64) = ji9 := hji9
        have hji9z : (ji7) ≤ 64 → ((IntKind.u64.wrap ((IntKind.u64.wrap (a0)) * 8)) / 2 ^ (ji7).toNat) = ji9 := shr_small hji9
        by_cases c10 : x3_2.length < 140737488355328
        ·rw [if_pos c10] at H
         have LMc10 := zA c10
         clear c10
         obtain ⟨y125, hy125⟩ : ∃ y_ : List Int, y_ = (x3_2 ++ [(ji9) % 256]) := ⟨_, rfl⟩
         replace H : (sha_end.l1 k2 a0 y125 (wrap64 (x15_2 + 1))) = some r := by first | (rw [hy125]; with_reducible exact H) | (have H2_ := (Option.bind_some _ _).symm.trans H; rw [hy125]; with_reducible exact H2_) | (have H2_ := (Option.bind_some _ _).symm.trans H; with_reducible exact H2_) | with_reducible exact H | (rw [hy125]; exact H) | exact H
         have Ny125 := zA hy125
         clear hy125
         have H' := zA H
         clear H
         go_wp2_with (first | ((with_reducible refine gate_builtin (b := .append) (xs := #[.tmp 18, .tmp 27]) rfl ?_); at_builtin; refine Kd.R_append (Kd.int .u8) (w0 := w) w.heap.size rfl (.tmp 18) (.tmp 27) 33 5 (.int .u8 0) 1 rfl Try.underlying33 info5 rfl (by decide) (by omega) u3 x3_2 ((ji9) % 256) [.int .u8 ((ji9) % 256)] (fun _ => True) (fun _ => False) rfl rfl ?aP (fun _ hk => hk.elim) ?aF ?aO ?aB ?aS ?aL ?_; (case aP => exact rfl); (case aB => exact (by repeat (first | (with_reducible first | exact HB.out | apply zb3 | apply zb1 | apply zb2) | exact HB.out))); (case aF => exact (fun _ _ => trivial)); (case aO => exact (by (with_reducible repeat (first | apply Kd.R_alloc | apply Kd.R_drewN | apply Kd.R_drew)); exact HO_3.out)); (case aS => exact (zb6 (by repeat (first | (with_reducible first | exact HB.out | apply zb3 | apply zb1 | apply zb2) | exact HB.out)))); (case aL => have := LMc10.out; omega); intro v126 w11 ho hb hg hat; rw [← Ny125.out] at ho; have n0_ := zA (hb); have n1_ := zA (ho); clear HB; clear HO_3; have HB := n0_; have HO127 := n1_; clear n0_ n1_; clear ho hb hg hat))
         go_roundg k2
         case measure => have := HK1.out; have := HK2.out; omega
         case rel => exact ⟨(y125), (wrap64 (x15_2 + 1)), (by first | rfl | (simp; done) | (simp [*]; done)), H', ⟨by have := HK1.out; have := HK2.out; omega⟩, ⟨by (with_reducible repeat (first | apply Kd.R_alloc | apply Kd.R_drewN | apply Kd.R_drew)); exact HO127.out⟩, ⟨by repeat (first | (with_reducible first | exact HB.out | apply zb3 | apply zb1 | apply zb2) | exact HB.out)⟩⟩
        ·rw [if_neg c10] at H
         exact absurd H (by simp)
       ·rw [if_neg c8] at H
        exact absurd H (by simp)
      ·rw [if_neg c6] at H
       have c6b0 : decide (x15_2 < 8) = false := zd2 c6
       clear c6
       obtain rfl := Option.some.inj H
       go_wp2
       go_ret
       exact ⟨_, by first | rfl | (simp [*] <;> rfl), by (with_reducible repeat (first | apply Kd.R_alloc | apply Kd.R_drewN | apply Kd.R_drew)); exact HO_3.out, by repeat (first | (with_reducible first | exact HB.out | apply zb3 | apply zb1 | apply zb2) | exact HB.out)⟩
   ·rw [if_neg c4] at H
    have c4b0 : ((Int.tmod (wrap64 (a0 + (x3_1.length : Int))) 64) == 56) = false := beq_eq_false_iff_ne.mpr c4
    have c4b1 : ((Int.tmod (wrap64 (a0 + (x3_1.length : Int))) 64) != 56) = true := bne_iff_ne.mpr c4
    by_cases c12 : x3_1.length < 140737488355328
    ·rw [if_pos c12] at H
     have LMc12 := zA c12
     clear c12
     obtain ⟨y122, hy122⟩ : ∃ y_ : List Int, y_ = (x3_1 ++ [0]) := ⟨_, rfl⟩
     replace H : (sha_end.l0 k1 a0 y122) = some r := by first | (rw [hy122]; with_reducible exact H) | (have H2_ := (Option.bind_some _ _).symm.trans H; rw [hy122]; with_reducible exact H2_) | (have H2_ := (Option.bind_some _ _).symm.trans H; with_reducible exact H2_) | with_reducible exact H | (rw [hy122]; exact H) | exact H
     have Ny122 := zA hy122
     clear hy122
     have H' := zA H
     clear H
     obtain ⟨Ao13, co13, eo13⟩ := Kd.R_slice HO_3.out
     subst eo13
     go_wp2_with (first | ((with_reducible refine gate_builtin (b := .append) (xs := #[.tmp 12, .tmp 13]) rfl ?_); at_builtin; refine Kd.R_append (Kd.int .u8) (w0 := w) w.heap.size rfl (.tmp 12) (.tmp 13) 33 5 (.int .u8 0) 1 rfl Try.underlying33 info5 rfl (by decide) (by omega) (.slice Ao13 x3_1.length co13) x3_1 0 [.int .u8 0] (fun _ => True) (fun _ => False) rfl rfl ?aP (fun _ hk => hk.elim) ?aF ?aO ?aB ?aS ?aL ?_; (case aP => exact rfl); (case aB => exact (by repeat (first | (with_reducible first | exact HB.out | apply zb3 | apply zb1 | apply zb2) | exact HB.out))); (case aF => exact (fun _ _ => trivial)); (case aO => exact (by (with_reducible repeat (first | apply Kd.R_alloc | apply Kd.R_drewN | apply Kd.R_drew)); exact HO_3.out)); (case aS => exact (zb6 (by repeat (first | (with_reducible first | exact HB.out | apply zb3 | apply zb1 | apply zb2) | exact HB.out)))); (case aL => have := LMc12.out; omega); intro v123 w14 ho hb hg hat; rw [← Ny122.out] at ho; have n0_ := zA (hb); have n1_ := zA (ho); clear HB; clear HO_3; have HB := n0_; have HO124 := n1_; clear n0_ n1_; clear ho hb hg hat))
     go_roundg k1
     case measure => have := HK1.out; omega
     case rel => exact ⟨(y122), H', ⟨by have := HK1.out; omega⟩, ⟨by (with_reducible repeat (first | apply Kd.R_alloc | apply Kd.R_drewN | apply Kd.R_drew)); exact HO124.out⟩, ⟨by repeat (first | (with_reducible first | exact HB.out | apply zb3 | apply zb1 | apply zb2) | exact HB.out)⟩⟩
    ·rw [if_neg c12] at H
     exact absurd H (by simp)

-- NOT PRINTED: function 71 (sha_State_Sum)

end Go.Proofs.Ytkihlcmjjoiccaa.PMatchCosts
