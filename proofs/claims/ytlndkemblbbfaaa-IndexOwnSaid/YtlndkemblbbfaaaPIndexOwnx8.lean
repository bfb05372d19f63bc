-- Written by a program of this session (the kit's printer with hand-written contracts among its functions).
-- squeezed
import Derived.Test.YtlndkemblbbfaaaPIndexOwnx0
import Derived.Test.YtlndkemblbbfaaaPIndexOwnx1
namespace Go.Proofs.Ytlndkemblbbfaaa.PIndexOwn
open Go.RowKit Go.Proofs.YtlndkemblbbfaaaW.PrintWords Go.Proofs.YtlndkemblbbfaaaW.PrintLast Go.Proofs.YtlndkemblbbfaaaW.PrintMore
attribute [local go_sem] max2_int min2_int max_two min_two max_three min_three max_four min_four   -- for this text's walks alone
set_option linter.unusedVariables false
set_option linter.unusedSimpArgs false

/-! ### index_Index_Find: function 17 -/
def index_Index_Find.l0 : Nat → Int → List Int → List Int → Int → Int → List (S44) → Int → Int → List (List Int) → Option (List Int)
 | 0, _, _, _, _, _, _, _, _, _ => none
 | k + 1, x1, x5, x18, x19, x20, x141000, x141001, x141002, x141003 => if x20 < x19 then (if 0 ≤ x20 then (if x20 < (x18.length : Int) then (if 0 ≤ (rd x18 x20) then (if (rd x18 x20) < (x141000.length : Int) then (if ((rd_T44 x141000 (rd x18 x20)).f0) = x1 then (if x5.length < 17592186044416 then (index_Index_Find.l0 k x1 (x5 ++ [rd x18 x20]) x18 x19 (wrap64 (x20 + 1)) x141000 x141001 x141002 x141003) else (none)) else (index_Index_Find.l0 k x1 x5 x18 x19 (wrap64 (x20 + 1)) x141000 x141001 x141002 x141003)) else (none)) else (none)) else (none)) else (none)) else (some x5)
def index_Index_Find.f (k : Nat) (l0_0 : List (S44)) (a0_1 : Int) (a0_2 : Int) (l0_3 : List (List Int)) (a1 : Int) : Option (List Int) := (index_Index_head.f l0_0 a0_1 a0_2 l0_3 a1).bind fun t141 => (if 0 ≤ t141 then (if t141 < (l0_3.length : Int) then (index_Index_Find.l0 k a1 ([] : List Int) (rd_L6 l0_3 t141) ((rd_L6 l0_3 t141).length : Int) 0 l0_0 a0_1 a0_2 l0_3) else (none)) else (none))
theorem index_Index_Find.mono_l : ∀ k, (∀ y0 y1 y2 y3 y4 y5 y6 y7 y8, LeO (index_Index_Find.l0 k y0 y1 y2 y3 y4 y5 y6 y7 y8) (index_Index_Find.l0 (k + 1) y0 y1 y2 y3 y4 y5 y6 y7 y8))
 | 0 => fun _ _ _ _ _ _ _ _ _ r h => by simp [index_Index_Find.l0] at h
 | k + 1 => by
  have ih0 := index_Index_Find.mono_l k
  ·intro y0 y1 y2 y3 y4 y5 y6 y7 y8
   unfold index_Index_Find.l0
   repeat' first
   | (with_reducible exact ih0 _ _ _ _ _ _ _ _ _)
   | (with_reducible exact LeO.refl _)
   | (with_reducible exact LeO.none _)
   | (with_reducible refine LeO.ite ?_ ?_)
   | (with_reducible refine LeO.bind ?_ (fun _ => ?_))
   | exact ih0 _ _ _ _ _ _ _ _ _
   | exact LeO.none _
   | refine LeO.ite ?_ ?_
   | refine LeO.bind ?_ (fun _ => ?_)
theorem index_Index_Find.mono : ∀ a0 a1 a2 a3 a4 k, LeO (index_Index_Find.f k a0 a1 a2 a3 a4) (index_Index_Find.f (k + 1) a0 a1 a2 a3 a4) := by
 intro a0 a1 a2 a3 a4 k
 have ih0 := index_Index_Find.mono_l k
 unfold index_Index_Find.f
 repeat' first
     | (with_reducible exact ih0 _ _ _ _ _ _ _ _ _)
     | (with_reducible exact LeO.refl _)
     | (with_reducible exact LeO.none _)
     | (with_reducible refine LeO.ite ?_ ?_)
     | (with_reducible refine LeO.bind ?_ (fun _ => ?_))
     | exact ih0 _ _ _ _ _ _ _ _ _
     | exact LeO.none _
     | refine LeO.ite ?_ ?_
     | refine LeO.bind ?_ (fun _ => ?_)
def index_Index_Find.T4 : Bool × List (List Nat × List Nat) := (true, [([], []), ([0], [0]), ([1], [1]), ([2], [2]), ([], []), ([], []), ([4, 5], [4, 5]), ([3, 6], [3, 6]), ([7], [7]), ([8], [8]), ([], [])])
def index_Index_Find.B4 : List Nat := [0, 1, 3, 7, 0, 0, 48, 127, 255, 511, 0]
theorem index_Index_Find.tab4 : rtab .any (opsOf Try.f17 4) = index_Index_Find.T4 := by kernel_rfl
theorem index_Index_Find.bits4 : waitsOk index_Index_Find.T4.2 index_Index_Find.B4 = true := by kernel_rfl
set_option maxHeartbeats 8000000 in
set_option maxRecDepth 100000 in
theorem index_Index_Find.calls (g : Nat) (k : Nat) (A0_0 : Option Addr) (c0_0 : Nat) (l0_0 : List (S44)) (a0_1 : Int) (a0_2 : Int) (A0_3 : Option Addr) (c0_3 : Nat) (l0_3 : List (List Int)) (a1 : Int) (r : List Int) (w : World) (hr0_0 : Kd.C k44 w A0_0 l0_0.length l0_0) (hc0_0 : l0_0.length ≤ c0_0) (hr0_3 : Kd.C (Kd.slice 3 (Kd.int .i64)) w A0_3 l0_3.length l0_3) (hc0_3 : l0_3.length ≤ c0_3) (hx : w.heap[g]? = some (.cells #[.slice A0_0 l0_0.length c0_0, .int .i64 a0_1, .int .i64 a0_2, .slice A0_3 l0_3.length c0_3] 61 (0, 0))) (h : index_Index_Find.f k l0_0 a0_1 a0_2 l0_3 a1 = some r) :
    Calls Try.prog 17 #[.pointer (some ⟨g, 0, none⟩), .int .u32 a1] w fun e w' => ∃ v0_ : Value, e = .returned (v0_) ∧ Kd.R (Kd.int .i64) 3 w' w.heap.size (fun _ => True) v0_ r ∧ Below w.heap.size w w' := by
 have hu61 := Try.underlying61
 have HR0_0 := zA hr0_0
 have HC0_0 := zA hc0_0
 clear hr0_0 hc0_0
 have HR0_3 := zA hr0_3
 have HC0_3 := zA hc0_3
 clear hr0_3 hc0_3
 have HB := zA (Below.refl w.heap.size w)
 have H : ((index_Index_head.f l0_0 a0_1 a0_2 l0_3 a1).bind fun t141 => (if 0 ≤ t141 then (if t141 < (l0_3.length : Int) then (index_Index_Find.l0 k a1 ([] : List Int) (rd_L6 l0_3 t141) ((rd_L6 l0_3 t141).length : Int) 0 l0_0 a0_1 a0_2 l0_3) else (none)) else (none))) = some r := h
 clear h
 replace H := Option.bind_eq_some_iff.mp H
 obtain ⟨t141, A30, H⟩ := H
 replace H : (if 0 ≤ t141 then (if t141 < (l0_3.length : Int) then (index_Index_Find.l0 k a1 ([] : List Int) (rd_L6 l0_3 t141) ((rd_L6 l0_3 t141).length : Int) 0 l0_0 a0_1 a0_2 l0_3) else (none)) else (none)) = some r := H
 have A3 := zA A30
 clear A30
 by_cases c4 : 0 ≤ t141
 ·rw [if_pos c4] at H
  have c4b0 : decide (0 ≤ t141) = true := zd1 c4
  clear c4
  by_cases c5 : t141 < (l0_3.length : Int)
  ·rw [if_pos c5] at H
   have c5b0 : decide (t141 < (l0_3.length : Int)) = true := zd1 c5
   clear c5
   have H' := zA H
   clear H
   go_enter Try.func17, Try.ntmps17
   have BK140 := zA hx
   try go_wp2_with (first | fail)
   have n0_ := zA (zc4 BK140.out)
   have n1_ := zA (zb2 HB.out)
   clear BK140
   clear HB
   have BK140 := n0_
   have HB := n1_
   clear n0_ n1_
   have p142 : 0 ≤ (t141 : Int) := zd3 (by first | (with_reducible assumption) | assumption)
   have q142 : t141 < (l0_3.length : Int) := zd3 (by first | (with_reducible assumption) | assumption)
   obtain ⟨ad142, A142_0, c142_0, e142, hx142_0, hl142_0, hi142_0⟩ := at_L6 HR0_3.out t141 p142 q142
   have hw142_0 := hx142_0
   cases e142
   replace hx142_0 := (HB.out.cell (World.block_lt_of_cell? w _ hx142_0)).trans hx142_0
   have HR142_0 := zA hi142_0
   have HC142_0 := zA hl142_0
   clear hi142_0 hl142_0
   replace p142 := eq_true p142
   replace q142 := eq_true q142
   refine start_ (n := 11) (S := fun w' => w'.cell? ⟨g, 0, none⟩ = some (.slice A0_0 l0_0.length c0_0) ∧ w'.cell? ⟨g, 1, none⟩ = some (.int .i64 a0_1) ∧ w'.cell? ⟨g, 2, none⟩ = some (.int .i64 a0_2) ∧ w'.cell? ⟨g, 3, none⟩ = some (.slice (some ad142) l0_3.length c0_3) ∧ w'.cell? (ad142.add (t141).toNat) = some (.slice A142_0 (rd_L6 l0_3 t141).length c142_0)) (ds := []) #[false, false, false, false, false, false, false, false, false, false, false] (by kernel_rfl) rfl rfl ⟨(zc1 BK140.out 0).trans rfl, (zc1 BK140.out 1).trans rfl, (zc1 BK140.out 2).trans rfl, (zc1 BK140.out 3).trans rfl, ((HB.out.cell (World.block_lt_of_cell? w _ hw142_0)).trans hw142_0)⟩ (fun hHeld => ?_); refine with_tabW index_Index_Find.tab4 index_Index_Find.bits4 (fun HT_ HW_ => ?_)
   generalize w.drew = w7 at BK140 HB HR142_0 hx142_0 hHeld ⊢
   refine pure_ (i := 0) (N := some 10) (v := ?_) (a' := ?_) #[true, false, false, false, false, false, false, false, false, false, false] rfl rfl (any_of HT_.out (by kernel_rfl)) (fun _ _ _ h => h) (Or.inl ⟨by rfl, ?_⟩) ?_ ?_
   rotate_left
   ·intro w'
    go_simp
    with_reducible rfl
   rotate_left
   ·simp only [Act.put, zs1, zs2, zs3, i64_w, i32_w]
    rfl
   refine pure_ (i := 1) (N := some 11) (v := ?_) (a' := ?_) #[true, true, false, false, false, false, false, false, false, false, false] rfl rfl (any_of HT_.out (by kernel_rfl)) (fun _ _ _ h => h) (Or.inl ⟨by rfl, ?_⟩) ?_ ?_
   rotate_left
   ·intro w'
    go_simp
    with_reducible rfl
   rotate_left
   ·simp only [Act.put, zs1, zs2, zs3, i64_w, i32_w]
    rfl
   refine pure_ (i := 2) (N := some 12) (v := ?_) (a' := ?_) #[true, true, true, false, false, false, false, false, false, false, false] rfl rfl (any_of HT_.out (by kernel_rfl)) (fun _ _ _ h => h) (Or.inl ⟨by rfl, ?_⟩) ?_ ?_
   rotate_left
   ·intro w'
    go_simp
    with_reducible rfl
   rotate_left
   ·simp only [Act.put, zs1, zs2, zs3, i64_w, i32_w]
    rfl
   refine pure_ (i := 5) (N := some 15) (v := ?_) (a' := ?_) #[true, true, true, false, false, true, false, false, false, false, false] rfl rfl (any_of HT_.out (by kernel_rfl)) (fun _ _ _ h => h) (Or.inl ⟨by rfl, ?_⟩) ?_ ?_
   rotate_left
   ·intro w'
    go_simp
    with_reducible rfl
   rotate_left
   ·simp only [Act.put, zs1, zs2, zs3, i64_w, i32_w]
    rfl
   refine pure_ (i := 10) (N := some 20) (v := ?_) (a' := ?_) #[true, true, true, false, false, true, false, false, false, false, true] rfl rfl (any_of HT_.out (by kernel_rfl)) (fun _ _ _ h => h) (Or.inl ⟨by rfl, ?_⟩) ?_ ?_
   rotate_left
   ·intro w'
    go_simp
    with_reducible rfl
   rotate_left
   ·simp only [Act.put, zs1, zs2, zs3, i64_w, i32_w]
    rfl
   refine take_ (i := 3) (N := some 13) (v := ?_) (a' := ?_) #[true, true, true, true, false, true, false, false, false, false, true] rfl rfl (take_ofW HT_.out HW_.out (by kernel_rfl)) (fun _ _ _ h => h) (Or.inl ⟨by rfl, ?_⟩) hHeld ?_ ?_
   rotate_left
   ·rintro w' ⟨s0, s1, s2, s3, s4⟩
    go_simp
    with_reducible rfl
   rotate_left
   ·simp only [Act.put, zs1, zs2, zs3, i64_w, i32_w]
    rfl
   refine take_ (i := 4) (N := some 14) (v := ?_) (a' := ?_) #[true, true, true, true, true, true, false, false, false, false, true] rfl rfl (take_ofW HT_.out HW_.out (by kernel_rfl)) (fun _ _ _ h => h) (Or.inl ⟨by rfl, ?_⟩) hHeld ?_ ?_
   rotate_left
   ·rintro w' ⟨s0, s1, s2, s3, s4⟩
    go_simp
    with_reducible rfl
   rotate_left
   ·simp only [Act.put, zs1, zs2, zs3, i64_w, i32_w]
    rfl
   refine one_ (i := 6) (N := some 16) #[true, true, true, true, true, true, true, false, false, false, true] rfl rfl (one_of HT_.out (by kernel_rfl)) (by decide) (fun K hK => ?_)
   refine goes_ Try.func27 (by kernel_rfl) rfl #[.pointer (some ⟨g, 0, none⟩), .int .u32 a1] (by rfl) rfl rfl (by (try simp only [zm1, zm2, zm3]); first | done | rfl | (simp only [List.length_drop, List.length_take]; rfl)) ?_
   with_reducible refine (index_Index_head.calls g A0_0 c0_0 l0_0 a0_1 a0_2 (some ad142) c0_3 l0_3 a1 t141 _ ?side1 ?side2 ?side3 ?side4 ?sideX A3.out).mono ?_
   (case sideX => exact (by (with_reducible repeat (first | refine zc3 ?_ _ | refine zc4 ?_ | refine zc2 ?_ _)); exact BK140.out))
   (case side1 => repeat (first | exact (Kd.C_below HR0_0.out HB.out) | (with_reducible refine Kd.C_alloc ?_ _) | (with_reducible refine Kd.C_drewN ?_ _) | (with_reducible refine Kd.C_drew ?_)))
   (case side2 => exact HC0_0.out)
   (case side3 => repeat (first | exact (Kd.C_below HR0_3.out HB.out) | (with_reducible refine Kd.C_alloc ?_ _) | (with_reducible refine Kd.C_drewN ?_ _) | (with_reducible refine Kd.C_drew ?_)))
   (case side4 => exact HC0_3.out)
   rintro e w8 ⟨rfl, hb⟩
   refine ⟨_, rfl, ?_⟩
   have n0_ := zA (zc6 (g := g) (o := .cells #[.slice A0_0 l0_0.length c0_0, .int .i64 a0_1, .int .i64 a0_2, .slice (some ad142) l0_3.length c0_3] 61 (0, 0)) (by (with_reducible repeat (first | refine zc3 ?_ _ | refine zc4 ?_ | refine zc2 ?_ _)); exact BK140.out) hb)
   have n1_ := zA (zb5 (by repeat (first | (with_reducible first | exact HB.out | apply zb3 | apply zb1 | apply zb2 | refine zb4 ?_ GE140.out) | exact HB.out)) hb)
   clear BK140
   clear HB
   have BK140 := n0_
   have HB := n1_
   clear n0_ n1_
   (try clear hb)
   (try clear hb2)
   (try clear hk)
   (try clear hi)
   refine hK.out _ _ ⟨(zc1 BK140.out 0).trans rfl, (zc1 BK140.out 1).trans rfl, (zc1 BK140.out 2).trans rfl, (zc1 BK140.out 3).trans rfl, ((HB.out.cell (World.block_lt_of_cell? w _ hw142_0)).trans hw142_0)⟩ (fun hHeld => ?_)
   clear hK K
   refine norm_ (a' := ?_) ?_ ?_
   rotate_left
   ·show Act.put _ (some 16) _ = _
    simp only [Act.put, zs1, zs2, zs3, i64_w, i32_w]
    rfl
   refine pure_ (i := 7) (N := some 17) (v := ?_) (a' := ?_) #[true, true, true, true, true, true, true, true, false, false, true] rfl rfl (any_of HT_.out (by kernel_rfl)) (fun _ _ _ h => h) (Or.inl ⟨by rfl, ?_⟩) ?_ ?_
   rotate_left
   ·intro w'
    go_simp
    with_reducible rfl
   rotate_left
   ·simp only [Act.put, zs1, zs2, zs3, i64_w, i32_w]
    rfl
   refine take_ (i := 8) (N := some 18) (v := ?_) (a' := ?_) #[true, true, true, true, true, true, true, true, true, false, true] rfl rfl (take_ofW HT_.out HW_.out (by kernel_rfl)) (fun _ _ _ h => h) (Or.inl ⟨by rfl, ?_⟩) hHeld ?_ ?_
   rotate_left
   ·rintro w' ⟨s0, s1, s2, s3, s4⟩
    go_simp
    with_reducible rfl
   rotate_left
   ·simp only [Act.put, zs1, zs2, zs3, i64_w, i32_w]
    rfl
   refine pure_ (i := 9) (N := some 19) (v := ?_) (a' := ?_) #[true, true, true, true, true, true, true, true, true, true, true] rfl rfl (any_of HT_.out (by kernel_rfl)) (fun _ _ _ h => h) (Or.inl ⟨by rfl, ?_⟩) ?_ ?_
   rotate_left
   ·intro w'
    go_simp
    with_reducible rfl
   rotate_left
   ·simp only [Act.put, zs1, zs2, zs3, i64_w, i32_w]
    rfl
   refine done_ (done_of HT_.out (by kernel_rfl)) ?_
   try go_wp2
   go_loopg [5, 20] k (fun kq v5 v20 w' => ∃ (x5_1 : List Int) (x20_1 : Int), v20 = .int .i64 x20_1 ∧ Aside0 (index_Index_Find.l0 kq a1 x5_1 (rd_L6 l0_3 t141) ((rd_L6 l0_3 t141).length : Int) x20_1 l0_0 a0_1 a0_2 l0_3 = some r) ∧ Aside0 (kq ≤ k) ∧ Aside0 (Kd.R (Kd.int .i64) 3 w' w.heap.size (fun _ => True) v5 x5_1) ∧ Aside0 (w'.heap[g]? = some (.cells #[(.slice A0_0 l0_0.length c0_0), .int .i64 a0_1, .int .i64 a0_2, (.slice (some ad142) l0_3.length c0_3)] 61 (0, 0))) ∧ Aside0 (Below w.heap.size w w'))
   case atStart => exact ⟨(([] : List Int)), (0), (by first | rfl | (simp; done) | (simp [*]; done)), H', ⟨Nat.le_refl _⟩, ⟨by first | exact Kd.R_nil _ _ _ _ _ | exact Kd.N_nil _ _ _ _ _ | exact Kd.V_nil _ _ _ _ _ | exact Kd.Q_nil _ _ _ _ _ | exact Kd.S_nil _ _ _ _ _⟩, ⟨by (with_reducible repeat (first | refine zc3 ?_ _ | refine zc4 ?_ | refine zc2 ?_ _)); exact BK140.out⟩, ⟨by repeat (first | (with_reducible first | exact HB.out | apply zb3 | apply zb1 | apply zb2 | refine zb4 ?_ GE140.out) | exact HB.out)⟩⟩
   case round =>
    clear H'
    try clear c1
    try clear p1
    try clear q1
    try clear hx1
    try clear c2
    try clear p2
    try clear c4
    try clear c4b0
    try clear c5
    try clear c5b0
    try clear hx142_0
    try clear p142
    try clear q142
    obtain ⟨x5_1, x20_1, rfl, HA, HK1, HO_5, BK140, HB⟩ := hrel
    cases gk with
    | zero => exact absurd HA.out (by simp [index_Index_Find.l0])
    | succ k1 =>
     have H := HA.out
     clear HA
     simp only [index_Index_Find.l0] at H
     by_cases c9 : x20_1 < ((rd_L6 l0_3 t141).length : Int)
     ·rw [if_pos c9] at H
      have c9b0 : decide (x20_1 < ((rd_L6 l0_3 t141).length : Int)) = true := zd1 c9
      clear c9
      by_cases c10 : 0 ≤ x20_1
      ·rw [if_pos c10] at H
       have c10b0 : decide (0 ≤ x20_1) = true := zd1 c10
       clear c10
       by_cases c11 : x20_1 < ((rd_L6 l0_3 t141).length : Int)
       ·rw [if_pos c11] at H
        have c11b0 : decide (x20_1 < ((rd_L6 l0_3 t141).length : Int)) = true := zd1 c11
        clear c11
        by_cases c12 : 0 ≤ (rd (rd_L6 l0_3 t141) x20_1)
        ·rw [if_pos c12] at H
         have c12b0 : decide (0 ≤ (rd (rd_L6 l0_3 t141) x20_1)) = true := zd1 c12
         clear c12
         by_cases c13 : (rd (rd_L6 l0_3 t141) x20_1) < (l0_0.length : Int)
         ·rw [if_pos c13] at H
          have c13b0 : decide ((rd (rd_L6 l0_3 t141) x20_1) < (l0_0.length : Int)) = true := zd1 c13
          clear c13
          by_cases c14 : ((rd_T44 l0_0 (rd (rd_L6 l0_3 t141) x20_1)).f0) = a1
          ·rw [if_pos c14] at H
           have c14b0 : (((rd_T44 l0_0 (rd (rd_L6 l0_3 t141) x20_1)).f0) == a1) = true := beq_iff_eq.mpr c14
           have c14b1 : (((rd_T44 l0_0 (rd (rd_L6 l0_3 t141) x20_1)).f0) != a1) = false := bne_eq_false_iff_eq.mpr c14
           clear c14
           by_cases c15 : x5_1.length < 17592186044416
           ·rw [if_pos c15] at H
            have LMc15 := zA c15
            clear c15
            obtain ⟨y145, hy145⟩ : ∃ y_ : List Int, y_ = (x5_1 ++ [rd (rd_L6 l0_3 t141) x20_1]) := ⟨_, rfl⟩
            replace H : (index_Index_Find.l0 k1 a1 y145 (rd_L6 l0_3 t141) ((rd_L6 l0_3 t141).length : Int) (wrap64 (x20_1 + 1)) l0_0 a0_1 a0_2 l0_3) = some r := by first | (rw [hy145]; with_reducible exact H) | (have H2_ := (Option.bind_some _ _).symm.trans H; rw [hy145]; with_reducible exact H2_) | (have H2_ := (Option.bind_some _ _).symm.trans H; with_reducible exact H2_) | with_reducible exact H | (rw [hy145]; exact H) | exact H
            have Ny145 := zA hy145
            clear hy145
            have H' := zA H
            clear H
            have p143 : 0 ≤ (x20_1 : Int) := zd3 (by first | (with_reducible assumption) | assumption)
            have q143 : x20_1 < ((rd_L6 l0_3 t141).length : Int) := zd3 (by first | (with_reducible assumption) | assumption)
            obtain ⟨ad143, e143, hx143_0⟩ := Kd.at_int HR142_0.out x20_1 p143 q143
            cases e143
            replace hx143_0 := (HB.out.cell (World.block_lt_of_cell? w _ hx143_0)).trans hx143_0
            replace p143 := eq_true p143
            replace q143 := eq_true q143
            have hcz16_0 : wr.cell? ⟨g, 0, none⟩ = some (.slice A0_0 l0_0.length c0_0) := (zc1 BK140.out 0).trans rfl
            have hcz16_1 : wr.cell? ⟨g, 1, none⟩ = some (.int .i64 a0_1) := (zc1 BK140.out 1).trans rfl
            have hcz16_2 : wr.cell? ⟨g, 2, none⟩ = some (.int .i64 a0_2) := (zc1 BK140.out 2).trans rfl
            have hcz16_3 : wr.cell? ⟨g, 3, none⟩ = some (.slice (some ad142) l0_3.length c0_3) := (zc1 BK140.out 3).trans rfl
            have hfz16_0 := zc5 BK140.out 0
            have hfz16_1 := zc5 BK140.out 1
            have hfz16_2 := zc5 BK140.out 2
            have hfz16_3 := zc5 BK140.out 3
            have p144 : 0 ≤ ((rd (rd_L6 l0_3 t141) x20_1) : Int) := zd3 (by first | (with_reducible assumption) | assumption)
            have q144 : (rd (rd_L6 l0_3 t141) x20_1) < (l0_0.length : Int) := zd3 (by first | (with_reducible assumption) | assumption)
            obtain ⟨ad144, e144, hx144_0, hx144_1⟩ := at_T44 HR0_0.out (rd (rd_L6 l0_3 t141) x20_1) p144 q144
            cases e144
            replace hx144_0 := (HB.out.cell (World.block_lt_of_cell? w _ hx144_0)).trans hx144_0
            replace hx144_1 := (HB.out.cell (World.block_lt_of_cell? w _ hx144_1)).trans hx144_1
            replace p144 := eq_true p144
            replace q144 := eq_true q144
            go_wp2_with (first | ((with_reducible refine gate_builtin (b := .append) (xs := #[.tmp 34, .tmp 36]) rfl ?_); at_builtin; refine Kd.R_append (Kd.int .i64) (w0 := w) w.heap.size rfl (.tmp 34) (.tmp 36) 47 3 (.int .i64 0) 8 rfl Try.underlying47 info3 rfl (by decide) (by omega) u5 x5_1 (rd (rd_L6 l0_3 t141) x20_1) [.int .i64 (rd (rd_L6 l0_3 t141) x20_1)] (fun _ => True) (fun _ => False) rfl rfl ?aP (fun _ hk => hk.elim) ?aF ?aO ?aB ?aS ?aL ?_; (case aP => exact rfl); (case aB => exact (by repeat (first | (with_reducible first | exact HB.out | apply zb3 | apply zb1 | apply zb2 | refine zb4 ?_ GE140.out) | exact HB.out))); (case aF => exact (fun _ _ => trivial)); (case aO => exact (by (with_reducible repeat (first | apply Kd.R_alloc | apply Kd.R_drewN | apply Kd.R_drew)); exact HO_5.out)); (case aS => exact (zb6 (by repeat (first | (with_reducible first | exact HB.out | apply zb3 | apply zb1 | apply zb2 | refine zb4 ?_ GE140.out) | exact HB.out)))); (case aL => have := LMc15.out; omega); intro v146 w17 ho hb hg hat; rw [← Ny145.out] at ho; have n0_ := zA (blk_grown (g := g) (o := .cells #[.slice (some ad144) l0_0.length c0_0, .int .i64 a0_1, .int .i64 a0_2, .slice (some ad142) l0_3.length c0_3] 61 (0, 0)) (by (with_reducible repeat (first | refine zc3 ?_ _ | refine zc4 ?_ | refine zc2 ?_ _)); exact BK140.out) hg (Kd.R_ne HO_5.out BK140.out (by decide))); have n1_ := zA (hb); have n2_ := zA (ho); clear BK140; clear HB; clear HO_5; have BK140 := n0_; have HB := n1_; have HO147 := n2_; clear n0_ n1_ n2_; clear ho hb hg hat))
            go_roundg k1
            case measure => have := HK1.out; omega
            case rel => exact ⟨(y145), (wrap64 (x20_1 + 1)), (by first | rfl | (simp; done) | (simp [*]; done)), H', ⟨by have := HK1.out; omega⟩, ⟨by (with_reducible repeat (first | apply Kd.R_alloc | apply Kd.R_drewN | apply Kd.R_drew)); exact HO147.out⟩, ⟨by (with_reducible repeat (first | refine zc3 ?_ _ | refine zc4 ?_ | refine zc2 ?_ _)); exact BK140.out⟩, ⟨by repeat (first | (with_reducible first | exact HB.out | apply zb3 | apply zb1 | apply zb2 | refine zb4 ?_ GE140.out) | exact HB.out)⟩⟩
           ·rw [if_neg c15] at H
            exact absurd H (by simp)
          ·rw [if_neg c14] at H
           have c14b0 : (((rd_T44 l0_0 (rd (rd_L6 l0_3 t141) x20_1)).f0) == a1) = false := beq_eq_false_iff_ne.mpr c14
           have c14b1 : (((rd_T44 l0_0 (rd (rd_L6 l0_3 t141) x20_1)).f0) != a1) = true := bne_iff_ne.mpr c14
           have H' := zA H
           clear H
           have p143 : 0 ≤ (x20_1 : Int) := zd3 (by first | (with_reducible assumption) | assumption)
           have q143 : x20_1 < ((rd_L6 l0_3 t141).length : Int) := zd3 (by first | (with_reducible assumption) | assumption)
           obtain ⟨ad143, e143, hx143_0⟩ := Kd.at_int HR142_0.out x20_1 p143 q143
           cases e143
           replace hx143_0 := (HB.out.cell (World.block_lt_of_cell? w _ hx143_0)).trans hx143_0
           replace p143 := eq_true p143
           replace q143 := eq_true q143
           have hcz18_0 : wr.cell? ⟨g, 0, none⟩ = some (.slice A0_0 l0_0.length c0_0) := (zc1 BK140.out 0).trans rfl
           have hcz18_1 : wr.cell? ⟨g, 1, none⟩ = some (.int .i64 a0_1) := (zc1 BK140.out 1).trans rfl
           have hcz18_2 : wr.cell? ⟨g, 2, none⟩ = some (.int .i64 a0_2) := (zc1 BK140.out 2).trans rfl
           have hcz18_3 : wr.cell? ⟨g, 3, none⟩ = some (.slice (some ad142) l0_3.length c0_3) := (zc1 BK140.out 3).trans rfl
           have hfz18_0 := zc5 BK140.out 0
           have hfz18_1 := zc5 BK140.out 1
           have hfz18_2 := zc5 BK140.out 2
           have hfz18_3 := zc5 BK140.out 3
           have p144 : 0 ≤ ((rd (rd_L6 l0_3 t141) x20_1) : Int) := zd3 (by first | (with_reducible assumption) | assumption)
           have q144 : (rd (rd_L6 l0_3 t141) x20_1) < (l0_0.length : Int) := zd3 (by first | (with_reducible assumption) | assumption)
           obtain ⟨ad144, e144, hx144_0, hx144_1⟩ := at_T44 HR0_0.out (rd (rd_L6 l0_3 t141) x20_1) p144 q144
           cases e144
           replace hx144_0 := (HB.out.cell (World.block_lt_of_cell? w _ hx144_0)).trans hx144_0
           replace hx144_1 := (HB.out.cell (World.block_lt_of_cell? w _ hx144_1)).trans hx144_1
           replace p144 := eq_true p144
           replace q144 := eq_true q144
           go_wp2
           go_roundg k1
           case measure => have := HK1.out; omega
           case rel => exact ⟨(x5_1), (wrap64 (x20_1 + 1)), (by first | rfl | (simp; done) | (simp [*]; done)), H', ⟨by have := HK1.out; omega⟩, ⟨by (with_reducible repeat (first | apply Kd.R_alloc | apply Kd.R_drewN | apply Kd.R_drew)); exact HO_5.out⟩, ⟨by (with_reducible repeat (first | refine zc3 ?_ _ | refine zc4 ?_ | refine zc2 ?_ _)); exact BK140.out⟩, ⟨by repeat (first | (with_reducible first | exact HB.out | apply zb3 | apply zb1 | apply zb2 | refine zb4 ?_ GE140.out) | exact HB.out)⟩⟩
         ·rw [if_neg c13] at H
          exact absurd H (by simp)
        ·rw [if_neg c12] at H
         exact absurd H (by simp)
       ·rw [if_neg c11] at H
        exact absurd H (by simp)
      ·rw [if_neg c10] at H
       exact absurd H (by simp)
     ·rw [if_neg c9] at H
      have c9b0 : decide (x20_1 < ((rd_L6 l0_3 t141).length : Int)) = false := zd2 c9
      clear c9
      obtain rfl := Option.some.inj H
      go_wp2
      go_ret
      exact ⟨_, by first | rfl | (simp [*] <;> rfl), by (with_reducible repeat (first | apply Kd.R_alloc | apply Kd.R_drewN | apply Kd.R_drew)); exact HO_5.out, by repeat (first | (with_reducible first | exact HB.out | apply zb3 | apply zb1 | apply zb2 | refine zb4 ?_ GE140.out) | exact HB.out)⟩
  ·rw [if_neg c5] at H
   exact absurd H (by simp)
 ·rw [if_neg c4] at H
  exact absurd H (by simp)

/-! ### remoralaw07_ints: function 18 -/
def remoralaw07_ints.l0 : Nat → List Int → List Int → Int → Option (Bool)
 | 0, _, _, _ => none
 | k + 1, x0, x1, x5 => if x5 < (x0.length : Int) then (if 0 ≤ x5 then (if x5 < (x1.length : Int) then (if (rd x0 x5) = (rd x1 x5) then (remoralaw07_ints.l0 k x0 x1 (wrap64 (x5 + 1))) else (some false)) else (none)) else (none)) else (some true)
def remoralaw07_ints.f (k : Nat) (l0 : List Int) (l1 : List Int) : Option (Bool) := if (l0.length : Int) = (l1.length : Int) then (remoralaw07_ints.l0 k l0 l1 0) else (some false)
theorem remoralaw07_ints.mono_l : ∀ k, (∀ y0 y1 y2, LeO (remoralaw07_ints.l0 k y0 y1 y2) (remoralaw07_ints.l0 (k + 1) y0 y1 y2))
 | 0 => fun _ _ _ r h => by simp [remoralaw07_ints.l0] at h
 | k + 1 => by
  have ih0 := remoralaw07_ints.mono_l k
  ·intro y0 y1 y2
   unfold remoralaw07_ints.l0
   repeat' first
   | (with_reducible exact ih0 _ _ _)
   | (with_reducible exact LeO.refl _)
   | (with_reducible exact LeO.none _)
   | (with_reducible refine LeO.ite ?_ ?_)
   | (with_reducible refine LeO.bind ?_ (fun _ => ?_))
   | exact ih0 _ _ _
   | exact LeO.none _
   | refine LeO.ite ?_ ?_
   | refine LeO.bind ?_ (fun _ => ?_)
theorem remoralaw07_ints.mono : ∀ a0 a1 k, LeO (remoralaw07_ints.f k a0 a1) (remoralaw07_ints.f (k + 1) a0 a1) := by
 intro a0 a1 k
 have ih0 := remoralaw07_ints.mono_l k
 unfold remoralaw07_ints.f
 repeat' first
     | (with_reducible exact ih0 _ _ _)
     | (with_reducible exact LeO.refl _)
     | (with_reducible exact LeO.none _)
     | (with_reducible refine LeO.ite ?_ ?_)
     | (with_reducible refine LeO.bind ?_ (fun _ => ?_))
     | exact ih0 _ _ _
     | exact LeO.none _
     | refine LeO.ite ?_ ?_
     | refine LeO.bind ?_ (fun _ => ?_)
set_option maxHeartbeats 8000000 in
set_option maxRecDepth 100000 in
theorem remoralaw07_ints.calls (k : Nat) (A0 : Option Addr) (c0 : Nat) (l0 : List Int) (A1 : Option Addr) (c1 : Nat) (l1 : List Int) (r : Bool) (w : World) (hr0 : Kd.C (Kd.int .i64) w A0 l0.length l0) (hc0 : l0.length ≤ c0) (hr1 : Kd.C (Kd.int .i64) w A1 l1.length l1) (hc1 : l1.length ≤ c1) (h : remoralaw07_ints.f k l0 l1 = some r) :
    Calls Try.prog 18 #[.slice A0 l0.length c0, .slice A1 l1.length c1] w fun e w' => e = .returned (.bool r) ∧ Drawn0 w w' := by
 have HR0 := zA hr0
 have HC0 := zA hc0
 clear hr0 hc0
 have HR1 := zA hr1
 have HC1 := zA hc1
 clear hr1 hc1
 have H : (if (l0.length : Int) = (l1.length : Int) then (remoralaw07_ints.l0 k l0 l1 0) else (some false)) = some r := h
 clear h
 by_cases c3 : (l0.length : Int) = (l1.length : Int)
 ·rw [if_pos c3] at H
  have c3b0 : ((l0.length : Int) == (l1.length : Int)) = true := beq_iff_eq.mpr c3
  have c3b1 : ((l0.length : Int) != (l1.length : Int)) = false := bne_eq_false_iff_eq.mpr c3
  have c3b2 : (l0.length == l1.length) = true := by first | simpa using c3 | (simp at c3 ⊢; omega)
  clear c3
  have H' := zA H
  clear H
  go_enter Try.func18, Try.ntmps18
  go_wp2
  have hwi_ : ∀ n : Int, IntKind.i64.wrap n = wrap64 n := i64_w
  repeat (go_quiet (fail); try go_wp2)
  clear hwi_
  go_loopg [5] k (fun kq v5 w' => ∃ (x5_1 : Int), v5 = .int .i64 x5_1 ∧ Aside0 (remoralaw07_ints.l0 kq l0 l1 x5_1 = some r) ∧ Aside0 (kq ≤ k) ∧ Drawn0 w w')
  case atStart => exact ⟨(0), (by first | rfl | (simp; done) | (simp [*]; done)), H', ⟨Nat.le_refl _⟩, by repeat (first | exact Drawn0.refl _ | apply Drawn0.step)⟩
  case round =>
   clear H'
   try clear c1
   try clear p2
   try clear c3
   try clear c3b0
   try clear c3b1
   try clear c3b2
   obtain ⟨x5_1, rfl, HA, HK1, ⟨m1, rfl⟩⟩ := hrel
   cases gk with
   | zero => exact absurd HA.out (by simp [remoralaw07_ints.l0])
   | succ k1 =>
    have H := HA.out
    clear HA
    simp only [remoralaw07_ints.l0] at H
    by_cases c4 : x5_1 < (l0.length : Int)
    ·rw [if_pos c4] at H
     have c4b0 : decide (x5_1 < (l0.length : Int)) = true := zd1 c4
     clear c4
     by_cases c5 : 0 ≤ x5_1
     ·rw [if_pos c5] at H
      have c5b0 : decide (0 ≤ x5_1) = true := zd1 c5
      clear c5
      by_cases c6 : x5_1 < (l1.length : Int)
      ·rw [if_pos c6] at H
       have c6b0 : decide (x5_1 < (l1.length : Int)) = true := zd1 c6
       clear c6
       by_cases c7 : (rd l0 x5_1) = (rd l1 x5_1)
       ·rw [if_pos c7] at H
        have c7b0 : ((rd l0 x5_1) == (rd l1 x5_1)) = true := beq_iff_eq.mpr c7
        have c7b1 : ((rd l0 x5_1) != (rd l1 x5_1)) = false := bne_eq_false_iff_eq.mpr c7
        clear c7
        have H' := zA H
        clear H
        have p148 : 0 ≤ (x5_1 : Int) := zd3 (by first | (with_reducible assumption) | assumption)
        have q148 : x5_1 < (l0.length : Int) := zd3 (by first | (with_reducible assumption) | assumption)
        obtain ⟨ad148, e148, hx148_0⟩ := Kd.at_int HR0.out x5_1 p148 q148
        cases e148
        replace p148 := eq_true p148
        replace q148 := eq_true q148
        have p149 : 0 ≤ (x5_1 : Int) := zd3 (by first | (with_reducible assumption) | assumption)
        have q149 : x5_1 < (l1.length : Int) := zd3 (by first | (with_reducible assumption) | assumption)
        obtain ⟨ad149, e149, hx149_0⟩ := Kd.at_int HR1.out x5_1 p149 q149
        cases e149
        replace p149 := eq_true p149
        replace q149 := eq_true q149
        go_wp2
        have hwi_ : ∀ n : Int, IntKind.i64.wrap n = wrap64 n := i64_w
        repeat (go_quiet (fail); try go_wp2)
        clear hwi_
        go_roundg k1
        case measure => have := HK1.out; omega
        case rel => exact ⟨(wrap64 (x5_1 + 1)), (by first | rfl | (simp; done) | (simp [*]; done)), H', ⟨by have := HK1.out; omega⟩, by repeat (first | exact Drawn0.refl _ | apply Drawn0.step)⟩
       ·rw [if_neg c7] at H
        have c7b0 : ((rd l0 x5_1) == (rd l1 x5_1)) = false := beq_eq_false_iff_ne.mpr c7
        have c7b1 : ((rd l0 x5_1) != (rd l1 x5_1)) = true := bne_iff_ne.mpr c7
        obtain rfl := Option.some.inj H
        have p148 : 0 ≤ (x5_1 : Int) := zd3 (by first | (with_reducible assumption) | assumption)
        have q148 : x5_1 < (l0.length : Int) := zd3 (by first | (with_reducible assumption) | assumption)
        obtain ⟨ad148, e148, hx148_0⟩ := Kd.at_int HR0.out x5_1 p148 q148
        cases e148
        replace p148 := eq_true p148
        replace q148 := eq_true q148
        have p149 : 0 ≤ (x5_1 : Int) := zd3 (by first | (with_reducible assumption) | assumption)
        have q149 : x5_1 < (l1.length : Int) := zd3 (by first | (with_reducible assumption) | assumption)
        obtain ⟨ad149, e149, hx149_0⟩ := Kd.at_int HR1.out x5_1 p149 q149
        cases e149
        replace p149 := eq_true p149
        replace q149 := eq_true q149
        go_wp2
        have hwi_ : ∀ n : Int, IntKind.i64.wrap n = wrap64 n := i64_w
        repeat (go_quiet (fail); try go_wp2)
        clear hwi_
        go_ret
        exact ⟨by first | rfl | (simp; done) | (simp [*]; done), by repeat (first | exact Drawn0.refl _ | apply Drawn0.step)⟩
      ·rw [if_neg c6] at H
       exact absurd H (by simp)
     ·rw [if_neg c5] at H
      exact absurd H (by simp)
    ·rw [if_neg c4] at H
     have c4b0 : decide (x5_1 < (l0.length : Int)) = false := zd2 c4
     clear c4
     obtain rfl := Option.some.inj H
     go_wp2
     have hwi_ : ∀ n : Int, IntKind.i64.wrap n = wrap64 n := i64_w
     repeat (go_quiet (fail); try go_wp2)
     clear hwi_
     go_ret
     exact ⟨by first | rfl | (simp; done) | (simp [*]; done), by repeat (first | exact Drawn0.refl _ | apply Drawn0.step)⟩
 ·rw [if_neg c3] at H
  have c3b0 : ((l0.length : Int) == (l1.length : Int)) = false := beq_eq_false_iff_ne.mpr c3
  have c3b1 : ((l0.length : Int) != (l1.length : Int)) = true := bne_iff_ne.mpr c3
  have c3b2 : (l0.length == l1.length) = false := by first | simpa using c3 | (simp at c3 ⊢; omega)
  obtain rfl := Option.some.inj H
  go_enter Try.func18, Try.ntmps18
  go_wp2
  have hwi_ : ∀ n : Int, IntKind.i64.wrap n = wrap64 n := i64_w
  repeat (go_quiet (fail); try go_wp2)
  clear hwi_
  go_ret
  exact ⟨by first | rfl | (simp; done) | (simp [*]; done), by repeat (first | exact Drawn0.refl _ | apply Drawn0.step)⟩

/-! ### index_Index_Loads: function 22 -/
mutual
def index_Index_Loads.l0 : Nat → List Int → List (List Int) → Int → Int → Option (List Int)
 | 0, _, _, _, _ => none
 | k + 1, x3, x11, x12, x13 => if x13 < x12 then (if 0 ≤ x13 then (if x13 < (x11.length : Int) then (index_Index_Loads.l1 k x3 (rd_L6 x11 x13) x11 x12 x13) else (none)) else (none)) else (some x3)
def index_Index_Loads.l1 : Nat → List Int → List Int → List (List Int) → Int → Int → Option (List Int)
 | 0, _, _, _, _, _ => none
 | k + 1, x3, x5, x11, x12, x13 => if (x3.length : Int) ≤ (x5.length : Int) then (if x3.length < 17592186044416 then (index_Index_Loads.l1 k (x3 ++ [0]) x5 x11 x12 x13) else (none)) else (if 0 ≤ (x5.length : Int) then (if (x5.length : Int) < (x3.length : Int) then (index_Index_Loads.l0 k (x3.set ((x5.length : Int) : Int).toNat (wrap64 ((rd x3 (x5.length : Int)) + 1))) x11 x12 (wrap64 (x13 + 1))) else (none)) else (none))
end
def index_Index_Loads.f (k : Nat) (l0_0 : List (S44)) (a0_1 : Int) (a0_2 : Int) (l0_3 : List (List Int)) : Option (List Int) := index_Index_Loads.l0 k ([] : List Int) l0_3 (l0_3.length : Int) 0
theorem index_Index_Loads.mono_l : ∀ k, (∀ y0 y1 y2 y3, LeO (index_Index_Loads.l0 k y0 y1 y2 y3) (index_Index_Loads.l0 (k + 1) y0 y1 y2 y3)) ∧ (∀ y0 y1 y2 y3 y4, LeO (index_Index_Loads.l1 k y0 y1 y2 y3 y4) (index_Index_Loads.l1 (k + 1) y0 y1 y2 y3 y4))
 | 0 => ⟨fun _ _ _ _ r h => by simp [index_Index_Loads.l0] at h, fun _ _ _ _ _ r h => by simp [index_Index_Loads.l1] at h⟩
 | k + 1 => by
  obtain ⟨ih0, ih1⟩ := index_Index_Loads.mono_l k
  refine ⟨?_, ?_⟩
  ·intro y0 y1 y2 y3
   unfold index_Index_Loads.l0
   repeat' first
   | (with_reducible exact ih0 _ _ _ _)
   | (with_reducible exact ih1 _ _ _ _ _)
   | (with_reducible exact LeO.refl _)
   | (with_reducible exact LeO.none _)
   | (with_reducible refine LeO.ite ?_ ?_)
   | (with_reducible refine LeO.bind ?_ (fun _ => ?_))
   | exact ih0 _ _ _ _
   | exact ih1 _ _ _ _ _
   | exact LeO.none _
   | refine LeO.ite ?_ ?_
   | refine LeO.bind ?_ (fun _ => ?_)
  ·intro y0 y1 y2 y3 y4
   unfold index_Index_Loads.l1
   repeat' first
   | (with_reducible exact ih0 _ _ _ _)
   | (with_reducible exact ih1 _ _ _ _ _)
   | (with_reducible exact LeO.refl _)
   | (with_reducible exact LeO.none _)
   | (with_reducible refine LeO.ite ?_ ?_)
   | (with_reducible refine LeO.bind ?_ (fun _ => ?_))
   | exact ih0 _ _ _ _
   | exact ih1 _ _ _ _ _
   | exact LeO.none _
   | refine LeO.ite ?_ ?_
   | refine LeO.bind ?_ (fun _ => ?_)
theorem index_Index_Loads.mono : ∀ a0 a1 a2 a3 k, LeO (index_Index_Loads.f k a0 a1 a2 a3) (index_Index_Loads.f (k + 1) a0 a1 a2 a3) := by
 intro a0 a1 a2 a3 k
 obtain ⟨ih0, ih1⟩ := index_Index_Loads.mono_l k
 unfold index_Index_Loads.f
 repeat' first
     | (with_reducible exact ih0 _ _ _ _)
     | (with_reducible exact ih1 _ _ _ _ _)
     | (with_reducible exact LeO.refl _)
     | (with_reducible exact LeO.none _)
     | (with_reducible refine LeO.ite ?_ ?_)
     | (with_reducible refine LeO.bind ?_ (fun _ => ?_))
     | exact ih0 _ _ _ _
     | exact ih1 _ _ _ _ _
     | exact LeO.none _
     | refine LeO.ite ?_ ?_
     | refine LeO.bind ?_ (fun _ => ?_)
set_option maxHeartbeats 8000000 in
set_option maxRecDepth 100000 in
theorem index_Index_Loads.calls (g : Nat) (k : Nat) (A0_0 : Option Addr) (c0_0 : Nat) (l0_0 : List (S44)) (a0_1 : Int) (a0_2 : Int) (A0_3 : Option Addr) (c0_3 : Nat) (l0_3 : List (List Int)) (r : List Int) (w : World) (hr0_0 : Kd.C k44 w A0_0 l0_0.length l0_0) (hc0_0 : l0_0.length ≤ c0_0) (hr0_3 : Kd.C (Kd.slice 3 (Kd.int .i64)) w A0_3 l0_3.length l0_3) (hc0_3 : l0_3.length ≤ c0_3) (hx : w.heap[g]? = some (.cells #[.slice A0_0 l0_0.length c0_0, .int .i64 a0_1, .int .i64 a0_2, .slice A0_3 l0_3.length c0_3] 61 (0, 0))) (h : index_Index_Loads.f k l0_0 a0_1 a0_2 l0_3 = some r) :
    Calls Try.prog 22 #[.pointer (some ⟨g, 0, none⟩)] w fun e w' => ∃ v0_ : Value, e = .returned (v0_) ∧ Kd.R (Kd.int .i64) 3 w' w.heap.size (fun _ => True) v0_ r ∧ Below w.heap.size w w' := by
 have hu61 := Try.underlying61
 have HR0_0 := zA hr0_0
 have HC0_0 := zA hc0_0
 clear hr0_0 hc0_0
 have HR0_3 := zA hr0_3
 have HC0_3 := zA hc0_3
 clear hr0_3 hc0_3
 have HB := zA (Below.refl w.heap.size w)
 have H : (index_Index_Loads.l0 k ([] : List Int) l0_3 (l0_3.length : Int) 0) = some r := h
 clear h
 have H' := zA H
 clear H
 go_enter Try.func22, Try.ntmps22
 have BK150 := zA hx
 have hcz3_0 : w.cell? ⟨g, 0, none⟩ = some (.slice A0_0 l0_0.length c0_0) := (zc1 BK150.out 0).trans rfl
 have hcz3_1 : w.cell? ⟨g, 1, none⟩ = some (.int .i64 a0_1) := (zc1 BK150.out 1).trans rfl
 have hcz3_2 : w.cell? ⟨g, 2, none⟩ = some (.int .i64 a0_2) := (zc1 BK150.out 2).trans rfl
 have hcz3_3 : w.cell? ⟨g, 3, none⟩ = some (.slice A0_3 l0_3.length c0_3) := (zc1 BK150.out 3).trans rfl
 have hfz3_0 := zc5 BK150.out 0
 have hfz3_1 := zc5 BK150.out 1
 have hfz3_2 := zc5 BK150.out 2
 have hfz3_3 := zc5 BK150.out 3
 go_wp2_with (first | fail)
 go_loopg [3, 13] k (fun kq v3 v13 w' => ∃ (x3_1 : List Int) (x13_1 : Int), v13 = .int .i64 x13_1 ∧ Aside0 (index_Index_Loads.l0 kq x3_1 l0_3 (l0_3.length : Int) x13_1 = some r) ∧ Aside0 (kq ≤ k) ∧ Aside0 (Kd.R (Kd.int .i64) 3 w' w.heap.size (fun _ => True) v3 x3_1) ∧ Aside0 (w'.heap[g]? = some (.cells #[(.slice A0_0 l0_0.length c0_0), .int .i64 a0_1, .int .i64 a0_2, (.slice A0_3 l0_3.length c0_3)] 61 (0, 0))) ∧ Aside0 (Below w.heap.size w w'))
 case atStart => exact ⟨(([] : List Int)), (0), (by first | rfl | (simp; done) | (simp [*]; done)), H', ⟨Nat.le_refl _⟩, ⟨by first | exact Kd.R_nil _ _ _ _ _ | exact Kd.N_nil _ _ _ _ _ | exact Kd.V_nil _ _ _ _ _ | exact Kd.Q_nil _ _ _ _ _ | exact Kd.S_nil _ _ _ _ _⟩, ⟨by (with_reducible repeat (first | refine zc3 ?_ _ | refine zc4 ?_ | refine zc2 ?_ _)); exact BK150.out⟩, ⟨by repeat (first | (with_reducible first | exact HB.out | apply zb3 | apply zb1 | apply zb2 | refine zb4 ?_ GE150.out) | exact HB.out)⟩⟩
 case round =>
  clear H'
  try clear c2
  try clear p2
  try clear hcz3_0
  try clear hcz3_1
  try clear hcz3_2
  try clear hcz3_3
  try clear hfz3_0
  try clear hfz3_1
  try clear hfz3_2
  try clear hfz3_3
  obtain ⟨x3_1, x13_1, rfl, HA, HK1, HO_3, BK150, HB⟩ := hrel
  cases gk with
  | zero => exact absurd HA.out (by simp [index_Index_Loads.l0])
  | succ k1 =>
   have H := HA.out
   clear HA
   simp only [index_Index_Loads.l0] at H
   by_cases c4 : x13_1 < (l0_3.length : Int)
   ·rw [if_pos c4] at H
    have c4b0 : decide (x13_1 < (l0_3.length : Int)) = true := zd1 c4
    clear c4
    by_cases c5 : 0 ≤ x13_1
    ·rw [if_pos c5] at H
     have c5b0 : decide (0 ≤ x13_1) = true := zd1 c5
     clear c5
     by_cases c6 : x13_1 < (l0_3.length : Int)
     ·rw [if_pos c6] at H
      have c6b0 : decide (x13_1 < (l0_3.length : Int)) = true := zd1 c6
      clear c6
      have H' := zA H
      clear H
      have p151 : 0 ≤ (x13_1 : Int) := zd3 (by first | (with_reducible assumption) | assumption)
      have q151 : x13_1 < (l0_3.length : Int) := zd3 (by first | (with_reducible assumption) | assumption)
      obtain ⟨ad151, A151_0, c151_0, e151, hx151_0, hl151_0, hi151_0⟩ := at_L6 HR0_3.out x13_1 p151 q151
      cases e151
      replace hx151_0 := (HB.out.cell (World.block_lt_of_cell? w _ hx151_0)).trans hx151_0
      have HR151_0 := zA hi151_0
      have HC151_0 := zA hl151_0
      clear hi151_0 hl151_0
      replace p151 := eq_true p151
      replace q151 := eq_true q151
      go_wp2
      go_loopg [3] k1 (fun kq v3 w' => ∃ (x3_2 : List Int), Aside0 (index_Index_Loads.l1 kq x3_2 (rd_L6 l0_3 x13_1) l0_3 (l0_3.length : Int) x13_1 = some r) ∧ Aside0 (kq ≤ k1) ∧ Aside0 (Kd.R (Kd.int .i64) 3 w' w.heap.size (fun _ => True) v3 x3_2) ∧ Aside0 (w'.heap[g]? = some (.cells #[(.slice A0_0 l0_0.length c0_0), .int .i64 a0_1, .int .i64 a0_2, (.slice (some ad151) l0_3.length c0_3)] 61 (0, 0))) ∧ Aside0 (Below w.heap.size w w'))
      case atStart => exact ⟨(x3_1), H', ⟨Nat.le_refl _⟩, ⟨by (with_reducible repeat (first | apply Kd.R_alloc | apply Kd.R_drewN | apply Kd.R_drew)); exact HO_3.out⟩, ⟨by (with_reducible repeat (first | refine zc3 ?_ _ | refine zc4 ?_ | refine zc2 ?_ _)); exact BK150.out⟩, ⟨by repeat (first | (with_reducible first | exact HB.out | apply zb3 | apply zb1 | apply zb2 | refine zb4 ?_ GE150.out) | exact HB.out)⟩⟩
      case round =>
       clear H'
       try clear c1
       try clear p1
       try clear q1
       try clear hx1
       try clear c2
       try clear p2
       try clear c4
       try clear c4b0
       try clear c5
       try clear c5b0
       try clear c6
       try clear c6b0
       try clear hcz3_0
       try clear hcz3_1
       try clear hcz3_2
       try clear hcz3_3
       try clear hfz3_0
       try clear hfz3_1
       try clear hfz3_2
       try clear hfz3_3
       try clear hx151_0
       try clear p151
       try clear p2
       try clear q151
       obtain ⟨x3_2, HA, HK2, HO_3, BK150, HB⟩ := hrel
       cases gk with
       | zero => exact absurd HA.out (by simp [index_Index_Loads.l1])
       | succ k2 =>
        have H := HA.out
        clear HA
        simp only [index_Index_Loads.l1] at H
        by_cases c7 : (x3_2.length : Int) ≤ ((rd_L6 l0_3 x13_1).length : Int)
        ·rw [if_pos c7] at H
         have c7b0 : decide ((x3_2.length : Int) ≤ ((rd_L6 l0_3 x13_1).length : Int)) = true := zd1 c7
         have c7b1 : decide (x3_2.length ≤ (rd_L6 l0_3 x13_1).length) = true := zd1 (Int.ofNat_le.mp c7)
         clear c7
         by_cases c8 : x3_2.length < 17592186044416
         ·rw [if_pos c8] at H
          have LMc8 := zA c8
          clear c8
          obtain ⟨y152, hy152⟩ : ∃ y_ : List Int, y_ = (x3_2 ++ [0]) := ⟨_, rfl⟩
          replace H : (index_Index_Loads.l1 k2 y152 (rd_L6 l0_3 x13_1) l0_3 (l0_3.length : Int) x13_1) = some r := by first | (rw [hy152]; with_reducible exact H) | (have H2_ := (Option.bind_some _ _).symm.trans H; rw [hy152]; with_reducible exact H2_) | (have H2_ := (Option.bind_some _ _).symm.trans H; with_reducible exact H2_) | with_reducible exact H | (rw [hy152]; exact H) | exact H
          have Ny152 := zA hy152
          clear hy152
          have H' := zA H
          clear H
          obtain ⟨Ao9, co9, eo9⟩ := Kd.R_slice HO_3.out
          subst eo9
          go_wp2_with (first | ((with_reducible refine gate_builtin (b := .append) (xs := #[.tmp 22, .tmp 23]) rfl ?_); at_builtin; refine Kd.R_append (Kd.int .i64) (w0 := w) w.heap.size rfl (.tmp 22) (.tmp 23) 47 3 (.int .i64 0) 8 rfl Try.underlying47 info3 rfl (by decide) (by omega) (.slice Ao9 x3_2.length co9) x3_2 0 [.int .i64 0] (fun _ => True) (fun _ => False) rfl rfl ?aP (fun _ hk => hk.elim) ?aF ?aO ?aB ?aS ?aL ?_; (case aP => exact rfl); (case aB => exact (by repeat (first | (with_reducible first | exact HB.out | apply zb3 | apply zb1 | apply zb2 | refine zb4 ?_ GE150.out) | exact HB.out))); (case aF => exact (fun _ _ => trivial)); (case aO => exact (by (with_reducible repeat (first | apply Kd.R_alloc | apply Kd.R_drewN | apply Kd.R_drew)); exact HO_3.out)); (case aS => exact (zb6 (by repeat (first | (with_reducible first | exact HB.out | apply zb3 | apply zb1 | apply zb2 | refine zb4 ?_ GE150.out) | exact HB.out)))); (case aL => have := LMc8.out; omega); intro v153 w10 ho hb hg hat; rw [← Ny152.out] at ho; have n0_ := zA (blk_grown (g := g) (o := .cells #[.slice A0_0 l0_0.length c0_0, .int .i64 a0_1, .int .i64 a0_2, .slice (some ad151) l0_3.length c0_3] 61 (0, 0)) (by (with_reducible repeat (first | refine zc3 ?_ _ | refine zc4 ?_ | refine zc2 ?_ _)); exact BK150.out) hg (Kd.R_ne HO_3.out BK150.out (by decide))); have n1_ := zA (hb); have n2_ := zA (ho); clear BK150; clear HB; clear HO_3; have BK150 := n0_; have HB := n1_; have HO154 := n2_; clear n0_ n1_ n2_; clear ho hb hg hat))
          go_roundg k2
          case measure => have := HK1.out; have := HK2.out; omega
          case rel => exact ⟨(y152), H', ⟨by have := HK1.out; have := HK2.out; omega⟩, ⟨by (with_reducible repeat (first | apply Kd.R_alloc | apply Kd.R_drewN | apply Kd.R_drew)); exact HO154.out⟩, ⟨by (with_reducible repeat (first | refine zc3 ?_ _ | refine zc4 ?_ | refine zc2 ?_ _)); exact BK150.out⟩, ⟨by repeat (first | (with_reducible first | exact HB.out | apply zb3 | apply zb1 | apply zb2 | refine zb4 ?_ GE150.out) | exact HB.out)⟩⟩
         ·rw [if_neg c8] at H
          exact absurd H (by simp)
        ·rw [if_neg c7] at H
         have c7b0 : decide ((x3_2.length : Int) ≤ ((rd_L6 l0_3 x13_1).length : Int)) = false := zd2 c7
         have c7b1 : decide (x3_2.length ≤ (rd_L6 l0_3 x13_1).length) = false := zd2 (fun h => c7 (Int.ofNat_le.mpr h))
         clear c7
         by_cases c11 : 0 ≤ ((rd_L6 l0_3 x13_1).length : Int)
         ·rw [if_pos c11] at H
          have c11b0 : decide (0 ≤ ((rd_L6 l0_3 x13_1).length : Int)) = true := zd1 c11
          have c11b1 : decide (0 ≤ (rd_L6 l0_3 x13_1).length) = true := zd1 (by omega)
          clear c11
          by_cases c12 : ((rd_L6 l0_3 x13_1).length : Int) < (x3_2.length : Int)
          ·rw [if_pos c12] at H
           have c12b0 : decide (((rd_L6 l0_3 x13_1).length : Int) < (x3_2.length : Int)) = true := zd1 c12
           have c12b1 : decide ((rd_L6 l0_3 x13_1).length < x3_2.length) = true := zd1 (Int.ofNat_lt.mp c12)
           clear c12
           obtain ⟨y156, hy156⟩ : ∃ y_ : List Int, y_ = (x3_2.set (((rd_L6 l0_3 x13_1).length : Int) : Int).toNat (wrap64 ((rd x3_2 ((rd_L6 l0_3 x13_1).length : Int)) + 1))) := ⟨_, rfl⟩
           replace H : (index_Index_Loads.l0 k2 y156 l0_3 (l0_3.length : Int) (wrap64 (x13_1 + 1))) = some r := by first | (rw [hy156]; with_reducible exact H) | (have H2_ := (Option.bind_some _ _).symm.trans H; rw [hy156]; with_reducible exact H2_) | (have H2_ := (Option.bind_some _ _).symm.trans H; with_reducible exact H2_) | with_reducible exact H | (rw [hy156]; exact H) | exact H
           have Ny156 := zA hy156
           clear hy156
           have H' := zA H
           clear H
           obtain ⟨Ao14, co14, eo14⟩ := Kd.R_slice HO_3.out
           subst eo14
           have p155 : 0 ≤ (((rd_L6 l0_3 x13_1).length : Int) : Int) := zd3 (by first | (with_reducible assumption) | assumption)
           have q155 : ((rd_L6 l0_3 x13_1).length : Int) < (x3_2.length : Int) := zd3 (by first | (with_reducible assumption) | assumption)
           obtain ⟨ad155, e155, hx155_0⟩ := Kd.at_int (Kd.R_reads' HO_3.out).2.2 ((rd_L6 l0_3 x13_1).length : Int) p155 q155
           cases e155
           (try simp only [Go.IntWalk.toNatUp] at hx155_0)
           replace p155 := eq_true p155
           replace q155 := eq_true q155
           have p13 : 0 ≤ (((rd_L6 l0_3 x13_1).length : Int) : Int) := zd3 (by first | (with_reducible assumption) | assumption)
           have q13 : (((rd_L6 l0_3 x13_1).length : Int) : Int) < ((x3_2.length : Int) : Int) := zd3 (by first | (with_reducible assumption) | assumption)
           obtain ⟨go13, co13, eo13, gb13, gl13, cl13, HG13⟩ := Kd.R_form HO_3.out (by omega)
           (first | cases eo13 | (injection eo13 with ea_ en_ ec_; (first | subst ea_ | (injection ea_ with ea_; subst ea_)); subst ec_; clear en_))
           have GB13 := zA gb13
           have GG13 := zA HG13
           clear gb13 gl13 HG13
           (first | simp only [add_plain] at hx155_0 | skip)
           obtain ⟨hx13_0, hf13_0⟩ := Kd.R_celln 0 HO_3.out (((rd_L6 l0_3 x13_1).length : Int) : Int) p13 q13
           (try simp only [Int.toNat_natCast] at hx13_0)
           (try simp only [Int.toNat_natCast] at hf13_0)
           replace p13 := eq_true p13
           replace q13 := eq_true q13
           have HP15 := Kd.R_putg HO_3.out (((rd_L6 l0_3 x13_1).length : Int) : Int) (wrap64 ((rd x3_2 ((rd_L6 l0_3 x13_1).length : Int)) + 1))
           go_wp2_with (first | ((with_reducible refine gate_store (t := 3) (p := 31) rfl ?_); refine store_event (t := 3) (p := 31) (v := ?vo_w16) (w1 := (wr.setCell ⟨go13, (((rd_L6 l0_3 x13_1).length : Int) : Int).toNat, none⟩ (.int .i64 (wrap64 ((rd x3_2 ((rd_L6 l0_3 x13_1).length : Int)) + 1))))) ?hg ?ho ?hn ?hr ?_; (case ho => rfl); (case hg => rfl); (case hn => rfl); (case hr => first | (go_simp; done) | (go_simp; rfl)); intro w16 hw; have hg : wr.grownBy w16 (some go13) := (by rw [hw]; exact HP15.2); have hp_ : Kd.R (Kd.int .i64) 3 w16 w.heap.size (fun _ => True) (.slice (some ⟨go13, 0, none⟩) x3_2.length co14) y156 := (by rw [hw, Ny156.out]; exact HP15.1); clear HP15; have n0_ := zA (hp_); have n1_ := zA (blk_grown (g := g) (o := .cells #[.slice A0_0 l0_0.length c0_0, .int .i64 a0_1, .int .i64 a0_2, .slice (some ad151) l0_3.length c0_3] 61 (0, 0)) (by (with_reducible repeat (first | refine zc3 ?_ _ | refine zc4 ?_ | refine zc2 ?_ _)); exact BK150.out) hg (Kd.R_ne HO_3.out BK150.out (by decide))); have n2_ := zA ((by rw [hw]; exact zb4 (HB.out) GB13.out : Below w.heap.size w w16)); clear HO_3; clear BK150; clear HB; have HO_3 := n0_; have BK150 := n1_; have HB := n2_; clear n0_ n1_ n2_; clear hg hw hp_))
           go_roundg k2
           case measure => have := HK1.out; have := HK2.out; omega
           case rel => exact ⟨(y156), (wrap64 (x13_1 + 1)), (by first | rfl | (simp; done) | (simp [*]; done)), H', ⟨by have := HK1.out; have := HK2.out; omega⟩, ⟨by (with_reducible repeat (first | apply Kd.R_alloc | apply Kd.R_drewN | apply Kd.R_drew)); exact HO_3.out⟩, ⟨by (with_reducible repeat (first | refine zc3 ?_ _ | refine zc4 ?_ | refine zc2 ?_ _)); exact BK150.out⟩, ⟨by repeat (first | (with_reducible first | exact HB.out | apply zb3 | apply zb1 | apply zb2 | refine zb4 ?_ GE150.out) | exact HB.out)⟩⟩
          ·rw [if_neg c12] at H
           exact absurd H (by simp)
         ·rw [if_neg c11] at H
          exact absurd H (by simp)
     ·rw [if_neg c6] at H
      exact absurd H (by simp)
    ·rw [if_neg c5] at H
     exact absurd H (by simp)
   ·rw [if_neg c4] at H
    have c4b0 : decide (x13_1 < (l0_3.length : Int)) = false := zd2 c4
    clear c4
    obtain rfl := Option.some.inj H
    go_wp2
    go_ret
    exact ⟨_, by first | rfl | (simp [*] <;> rfl), by (with_reducible repeat (first | apply Kd.R_alloc | apply Kd.R_drewN | apply Kd.R_drew)); exact HO_3.out, by repeat (first | (with_reducible first | exact HB.out | apply zb3 | apply zb1 | apply zb2 | refine zb4 ?_ GE150.out) | exact HB.out)⟩

end Go.Proofs.Ytlndkemblbbfaaa.PIndexOwn
