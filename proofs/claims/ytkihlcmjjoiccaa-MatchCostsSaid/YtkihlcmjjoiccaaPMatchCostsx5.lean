-- Written by a program of this session (the kit's printer with hand-written contracts among its functions).
-- squeezed
import Derived.Test.YtkihlcmjjoiccaaPMatchCostsx0
import Derived.Test.YtkihlcmjjoiccaaPMatchCostsx1
import Derived.Test.YtkihlcmjjoiccaaPMatchCostsx4
import Derived.Test.YtkihlcmjjoiccaaRq
namespace Go.Proofs.Ytkihlcmjjoiccaa.PMatchCosts
open Go.RowKit Go.Proofs.YtkihlcmjjoiccaaW.PrintWords Go.Proofs.YtkihlcmjjoiccaaW.PrintLast Go.Proofs.YtkihlcmjjoiccaaW.PrintMore
attribute [local go_sem] max2_int min2_int max_two min_two max_three min_three max_four min_four   -- for this text's walks alone
set_option linter.unusedVariables false
set_option linter.unusedSimpArgs false

def sha_Cut.f (l0 : List Int) (a1 : Int) : Option (ByteArray × Int) := if a1 < 0 then (some ((⟨#[]⟩ : ByteArray), 3)) else (if a1 > 32 then (some ((⟨#[]⟩ : ByteArray), 3)) else ((sha_Sum.f l0).bind fun t128 => (if 0 ≤ a1 then (if a1 ≤ (t128.size : Int) then (some (t128.extract 0 (a1 : Int).toNat, 0)) else (none)) else (none))))
set_option maxHeartbeats 8000000 in
set_option maxRecDepth 100000 in
theorem sha_Cut.calls (A0 : Option Addr) (c0 : Nat) (l0 : List Int) (a1 : Int) (r1 : ByteArray) (r2 : Int) (w : World) (hr0 : Kd.C (Kd.int .u8) w A0 l0.length l0) (hc0 : l0.length ≤ c0) (h : sha_Cut.f l0 a1 = some (r1, r2)) :
    Calls Try.prog 46 #[.slice A0 l0.length c0, .int .i64 a1] w fun e w' => e = .returned (.tuple #[.string r1, .int .i64 r2]) ∧ Below w.heap.size w w' := by
 have HR0 := zA hr0
 have HC0 := zA hc0
 clear hr0 hc0
 have HB := zA (Below.refl w.heap.size w)
 have H : (if a1 < 0 then (some ((⟨#[]⟩ : ByteArray), 3)) else (if a1 > 32 then (some ((⟨#[]⟩ : ByteArray), 3)) else ((sha_Sum.f l0).bind fun t128 => (if 0 ≤ a1 then (if a1 ≤ (t128.size : Int) then (some (t128.extract 0 (a1 : Int).toNat, 0)) else (none)) else (none))))) = some (r1, r2) := h
 clear h
 by_cases c3 : a1 < 0
 ·rw [if_pos c3] at H
  have c3b0 : decide (a1 < 0) = true := zd1 c3
  clear c3
  simp only [Option.some.injEq, Prod.mk.injEq] at H
  obtain ⟨rfl, rfl⟩ := H
  go_enter Try.func46, Try.ntmps46
  go_wp2
  go_ret2
  exact ⟨by first | rfl | (simp [*] <;> rfl), by repeat (first | (with_reducible first | exact HB.out | apply zb3 | apply zb1 | apply zb2) | exact HB.out)⟩
 ·rw [if_neg c3] at H
  have c3b0 : decide (a1 < 0) = false := zd2 c3
  clear c3
  by_cases c4 : a1 > 32
  ·rw [if_pos c4] at H
   have c4b0 : decide (32 < a1) = true := zd1 c4
   clear c4
   simp only [Option.some.injEq, Prod.mk.injEq] at H
   obtain ⟨rfl, rfl⟩ := H
   go_enter Try.func46, Try.ntmps46
   go_wp2
   go_ret2
   exact ⟨by first | rfl | (simp [*] <;> rfl), by repeat (first | (with_reducible first | exact HB.out | apply zb3 | apply zb1 | apply zb2) | exact HB.out)⟩
  ·rw [if_neg c4] at H
   have c4b0 : decide (32 < a1) = false := zd2 c4
   clear c4
   replace H := Option.bind_eq_some_iff.mp H
   obtain ⟨t128, A50, H⟩ := H
   replace H : (if 0 ≤ a1 then (if a1 ≤ (t128.size : Int) then (some (t128.extract 0 (a1 : Int).toNat, 0)) else (none)) else (none)) = some (r1, r2) := H
   have A5 := zA A50
   clear A50
   by_cases c6 : 0 ≤ a1
   ·rw [if_pos c6] at H
    have c6b0 := eq_true c6
    have c6b1 : decide (0 ≤ a1) = true := zd1 c6
    clear c6
    by_cases c7 : a1 ≤ (t128.size : Int)
    ·rw [if_pos c7] at H
     have c7b0 := eq_true c7
     have c7b1 : decide (a1 ≤ (t128.size : Int)) = true := zd1 c7
     clear c7
     simp only [Option.some.injEq, Prod.mk.injEq] at H
     obtain ⟨rfl, rfl⟩ := H
     go_enter Try.func46, Try.ntmps46
     go_wp2_with (first | ((with_reducible refine gate_callee (f := 64) rfl ?_); refine goesL_ (some 13) rfl rfl Try.func64 (by kernel_rfl) rfl #[.slice A0 l0.length c0] rfl (by (try simp only [zm1, zm2, zm3]); first | done | rfl | (simp only [List.length_drop, List.length_take]; rfl)) ?_; (with_reducible refine (sha_Sum.calls _ _ l0 t128 _ ?side1 ?side2 A5.out).mono ?_); (case side1 => repeat (first | exact HR0.out | (with_reducible refine Kd.C_alloc ?_ _) | (with_reducible refine Kd.C_drewN ?_ _) | (with_reducible refine Kd.C_drew ?_))); (case side2 => exact HC0.out); rintro e w8 ⟨rfl, hb⟩; refine ⟨_, rfl, ?_⟩; have n0_ := zA (zb5 (by repeat (first | (with_reducible first | exact HB.out | apply zb3 | apply zb1 | apply zb2) | exact HB.out)) hb); clear HB; have HB := n0_; clear n0_; (try clear hb); (try clear hb2); (try clear hk); (try clear hi)))
     go_ret2
     exact ⟨by first | rfl | (simp [*] <;> rfl), by repeat (first | (with_reducible first | exact HB.out | apply zb3 | apply zb1 | apply zb2) | exact HB.out)⟩
    ·rw [if_neg c7] at H
     exact absurd H (by simp)
   ·rw [if_neg c6] at H
    exact absurd H (by simp)

def blocks_Range.f (a0 : Int) (a1 : Int) (a2 : Int) : Option (Int × Int × Bool) := if a2 < 0 then (some (0, 0, false)) else ((blocks_Count.f a0 a1).bind fun t129 => (if a2 ≥ t129 then (some (0, 0, false)) else (some (wrap64 (a2 * a1), mn a0 (wrap64 ((wrap64 (a2 + 1)) * a1)), true))))
set_option maxHeartbeats 8000000 in
set_option maxRecDepth 100000 in
theorem blocks_Range.calls (a0 : Int) (a1 : Int) (a2 : Int) (r1 : Int) (r2 : Int) (r3 : Bool) (w : World) (h : blocks_Range.f a0 a1 a2 = some (r1, r2, r3)) :
    Calls Try.prog 48 #[.int .i64 a0, .int .i64 a1, .int .i64 a2] w fun e w' => e = .returned (.tuple #[.int .i64 r1, .int .i64 r2, .bool r3]) ∧ Below w.heap.size w w' := by
 have HB := zA (Below.refl w.heap.size w)
 have H : (if a2 < 0 then (some (0, 0, false)) else ((blocks_Count.f a0 a1).bind fun t129 => (if a2 ≥ t129 then (some (0, 0, false)) else (some (wrap64 (a2 * a1), mn a0 (wrap64 ((wrap64 (a2 + 1)) * a1)), true))))) = some (r1, r2, r3) := h
 clear h
 by_cases c4 : a2 < 0
 ·rw [if_pos c4] at H
  have c4b0 : decide (a2 < 0) = true := zd1 c4
  clear c4
  simp only [Option.some.injEq, Prod.mk.injEq] at H
  obtain ⟨rfl, rfl, rfl⟩ := H
  go_enter Try.func48, Try.ntmps48
  go_wp2
  go_ret3
  exact ⟨by first | rfl | (simp [*] <;> rfl), by repeat (first | (with_reducible first | exact HB.out | apply zb3 | apply zb1 | apply zb2) | exact HB.out)⟩
 ·rw [if_neg c4] at H
  have c4b0 : decide (a2 < 0) = false := zd2 c4
  clear c4
  replace H := Option.bind_eq_some_iff.mp H
  obtain ⟨t129, A50, H⟩ := H
  replace H : (if a2 ≥ t129 then (some (0, 0, false)) else (some (wrap64 (a2 * a1), mn a0 (wrap64 ((wrap64 (a2 + 1)) * a1)), true))) = some (r1, r2, r3) := H
  have A5 := zA A50
  clear A50
  by_cases c6 : a2 ≥ t129
  ·rw [if_pos c6] at H
   have c6b0 : decide (t129 ≤ a2) = true := zd1 c6
   clear c6
   simp only [Option.some.injEq, Prod.mk.injEq] at H
   obtain ⟨rfl, rfl, rfl⟩ := H
   go_enter Try.func48, Try.ntmps48
   go_wp2_with (first | (go_at_call 56; (with_reducible refine (blocks_Count.calls a0 a1 t129 _ A5.out).mono ?_); rintro e w' ⟨rfl, ⟨nd, rfl⟩⟩))
   go_ret3
   exact ⟨by first | rfl | (simp [*] <;> rfl), by repeat (first | (with_reducible first | exact HB.out | apply zb3 | apply zb1 | apply zb2) | exact HB.out)⟩
  ·rw [if_neg c6] at H
   have c6b0 : decide (t129 ≤ a2) = false := zd2 c6
   clear c6
   obtain ⟨ji7, hji7⟩ : ∃ j_ : Int, (mn a0 (wrap64 ((wrap64 (a2 + 1)) * a1))) = j_ := ⟨_, rfl⟩
   replace H : (some (wrap64 (a2 * a1), ji7, true)) = some (r1, r2, r3) := by first | (rw [hji7] at H; exact H) | (simp only [hji7] at H ⊢; exact H)
   (try rw [hji7] at A5)
   have hji7_ : (if (wrap64 ((wrap64 (a2 + 1)) * a1)) < a0 then (wrap64 ((wrap64 (a2 + 1)) * a1)) else a0) = ji7 := hji7
   simp only [Option.some.injEq, Prod.mk.injEq] at H
   obtain ⟨rfl, rfl, rfl⟩ := H
   go_enter Try.func48, Try.ntmps48
   go_wp2_with (first | (go_at_call 56; (with_reducible refine (blocks_Count.calls a0 a1 t129 _ A5.out).mono ?_); rintro e w' ⟨rfl, ⟨nd, rfl⟩⟩))
   go_ret3
   exact ⟨by first | rfl | (simp [errW_none, errW_some] <;> rfl) | (simp only [← hji7]; first | rfl | (simp [errW_none, errW_some] <;> rfl)) | (simp [*, errW_none, errW_some] <;> rfl), by repeat (first | (with_reducible first | exact HB.out | apply zb3 | apply zb1 | apply zb2) | exact HB.out)⟩

def index_Index_has.f (l0_0 : List (S55)) (a0_1 : Int) (a0_2 : Int) (l0_3 : List (List Int)) (a1 : Int) (a2 : Int) (a3 : ByteArray) (a4 : Int) : Option (Bool) := (blocks_Range.f a0_1 a0_2 a1).bind fun bt131 => (if bt131.2.2 = true then (if (wrap64 (bt131.2.1 - bt131.1)) = a4 then (if 0 ≤ a1 then (if a1 < (l0_0.length : Int) then (if ((rd_T55 l0_0 a1).f0) = a2 then (some (((rd_T55 l0_0 a1).f1).toList == a3.toList)) else (some false)) else (none)) else (none)) else (some false)) else (some false))
def index_Index_has.T1 : Bool × List (List Nat × List Nat) := (true, [([], []), ([0], [0]), ([1], [1]), ([2], [2]), ([], []), ([4], [4]), ([5], [5]), ([6], [6]), ([], []), ([3, 7, 8], [3, 7, 8]), ([9], [9]), ([10], [10]), ([10], [10]), ([10], [10]), ([11, 9, 0, 1, 2, 3, 4, 5, 6, 7, 8, 9, 10, 11], [11]), ([12, 14, 0, 1, 2, 3, 4, 5, 6, 7, 8, 9, 10, 11, 12, 14], [12]), ([13, 15, 0, 1, 2, 3, 4, 5, 6, 7, 8, 9, 10, 11, 12, 13, 14, 15], [13])])
def index_Index_has.B1 : List Nat := [0, 1, 3, 7, 0, 16, 48, 112, 0, 511, 1023, 2047, 2047, 2047, 4095, 24575, 65535]
theorem index_Index_has.tab1 : rtab .any (opsOf Try.f65 1) = index_Index_has.T1 := by kernel_rfl
theorem index_Index_has.bits1 : waitsOk index_Index_has.T1.2 index_Index_has.B1 = true := by kernel_rfl
set_option maxHeartbeats 8000000 in
set_option maxRecDepth 100000 in
theorem index_Index_has.calls (g : Nat) (A0_0 : Option Addr) (c0_0 : Nat) (l0_0 : List (S55)) (a0_1 : Int) (a0_2 : Int) (A0_3 : Option Addr) (c0_3 : Nat) (l0_3 : List (List Int)) (a1 : Int) (a2 : Int) (a3 : ByteArray) (a4 : Int) (r : Bool) (w : World) (hr0_0 : Kd.C k55 w A0_0 l0_0.length l0_0) (hc0_0 : l0_0.length ≤ c0_0) (hr0_3 : Kd.C (Kd.slice 3 (Kd.int .i64)) w A0_3 l0_3.length l0_3) (hc0_3 : l0_3.length ≤ c0_3) (hx : w.heap[g]? = some (.cells #[.slice A0_0 l0_0.length c0_0, .int .i64 a0_1, .int .i64 a0_2, .slice A0_3 l0_3.length c0_3] 81 (0, 0))) (h : index_Index_has.f l0_0 a0_1 a0_2 l0_3 a1 a2 a3 a4 = some r) :
    Calls Try.prog 65 #[.pointer (some ⟨g, 0, none⟩), .int .i64 a1, .int .u32 a2, .string a3, .int .i64 a4] w fun e w' => e = .returned (.bool r) ∧ Below w.heap.size w w' := by
 have hu81 := Try.underlying81
 have HR0_0 := zA hr0_0
 have HC0_0 := zA hc0_0
 clear hr0_0 hc0_0
 have HR0_3 := zA hr0_3
 have HC0_3 := zA hc0_3
 clear hr0_3 hc0_3
 have HB := zA (Below.refl w.heap.size w)
 have H : ((blocks_Range.f a0_1 a0_2 a1).bind fun bt131 => (if bt131.2.2 = true then (if (wrap64 (bt131.2.1 - bt131.1)) = a4 then (if 0 ≤ a1 then (if a1 < (l0_0.length : Int) then (if ((rd_T55 l0_0 a1).f0) = a2 then (some (((rd_T55 l0_0 a1).f1).toList == a3.toList)) else (some false)) else (none)) else (none)) else (some false)) else (some false))) = some r := h
 clear h
 replace H := Option.bind_eq_some_iff.mp H
 obtain ⟨⟨t131, t132, t133⟩, A60, H⟩ := H
 replace H : (if t133 = true then (if (wrap64 (t132 - t131)) = a4 then (if 0 ≤ a1 then (if a1 < (l0_0.length : Int) then (if ((rd_T55 l0_0 a1).f0) = a2 then (some (((rd_T55 l0_0 a1).f1).toList == a3.toList)) else (some false)) else (none)) else (none)) else (some false)) else (some false)) = some r := H
 have A6 := zA A60
 clear A60
 by_cases c7 : t133 = true
 ·subst c7
  have H1 : (if (wrap64 (t132 - t131)) = a4 then (if 0 ≤ a1 then (if a1 < (l0_0.length : Int) then (if ((rd_T55 l0_0 a1).f0) = a2 then (some (((rd_T55 l0_0 a1).f1).toList == a3.toList)) else (some false)) else (none)) else (none)) else (some false)) = some r := by rw [if_pos rfl] at H; exact H
  clear H
  have H := H1
  clear H1
  by_cases c8 : (wrap64 (t132 - t131)) = a4
  ·rw [if_pos c8] at H
   have c8b0 : ((wrap64 (t132 - t131)) == a4) = true := beq_iff_eq.mpr c8
   have c8b1 : ((wrap64 (t132 - t131)) != a4) = false := bne_eq_false_iff_eq.mpr c8
   clear c8
   by_cases c9 : 0 ≤ a1
   ·rw [if_pos c9] at H
    have c9b0 : decide (0 ≤ a1) = true := zd1 c9
    clear c9
    by_cases c10 : a1 < (l0_0.length : Int)
    ·rw [if_pos c10] at H
     have c10b0 : decide (a1 < (l0_0.length : Int)) = true := zd1 c10
     clear c10
     by_cases c11 : ((rd_T55 l0_0 a1).f0) = a2
     ·rw [if_pos c11] at H
      have c11b0 : (((rd_T55 l0_0 a1).f0) == a2) = true := beq_iff_eq.mpr c11
      have c11b1 : (((rd_T55 l0_0 a1).f0) != a2) = false := bne_eq_false_iff_eq.mpr c11
      clear c11
      obtain rfl := Option.some.inj H
      go_enter Try.func65, Try.ntmps65
      have BK130 := zA hx
      try go_wp2_with (first | fail)
      have n0_ := zA (zc4 BK130.out)
      have n1_ := zA (zb2 HB.out)
      clear BK130
      clear HB
      have BK130 := n0_
      have HB := n1_
      clear n0_ n1_
      refine start_ (n := 17) (S := fun w' => w'.cell? ⟨g, 0, none⟩ = some (.slice A0_0 l0_0.length c0_0) ∧ w'.cell? ⟨g, 1, none⟩ = some (.int .i64 a0_1) ∧ w'.cell? ⟨g, 2, none⟩ = some (.int .i64 a0_2) ∧ w'.cell? ⟨g, 3, none⟩ = some (.slice A0_3 l0_3.length c0_3)) (ds := []) (qq 17 0) (by kernel_rfl) rfl (by kernel_rfl) ⟨(zc1 BK130.out 0).trans rfl, (zc1 BK130.out 1).trans rfl, (zc1 BK130.out 2).trans rfl, (zc1 BK130.out 3).trans rfl⟩ (fun hHeld => ?_); refine with_tabW index_Index_has.tab1 index_Index_has.bits1 (fun HT_ HW_ => ?_)
      generalize w.drew = w13 at BK130 HB hHeld ⊢
      refine ord_ [(0, 0, 1), (0, 1, 3), (0, 2, 7), (0, 4, 23), (0, 5, 55), (0, 6, 119), (0, 8, 375), (1, 3, 383), (1, 7, 511)] ?_
      repeat (first | (refine kk_ 0 ?_; refine oP_ (v := ?_) (a' := ?_) HT_ rfl rfl (by kernel_rfl) (fun _ _ _ h => h) (Or.inl ⟨by rfl, ?_⟩) ?_ ?_; rotate_left; (intro w'; go_simp; with_reducible rfl); rotate_left; (simp only [Act.put, zs1, zs2, zs3, i64_w, i32_w]; rfl)) | (refine kk_ 1 ?_; refine oT_ (v := ?_) (a' := ?_) HT_ HW_ rfl rfl (by kernel_rfl) (fun _ _ _ h => h) (Or.inl ⟨by rfl, ?_⟩) hHeld ?_ ?_; rotate_left; (rintro w' ⟨s0, s1, s2, s3⟩; go_simp; with_reducible rfl); rotate_left; (simp only [Act.put, zs1, zs2, zs3, i64_w, i32_w]; rfl)))
      refine oend_ ?_
      refine one_ (i := 9) (N := some 24) (qq 17 1023) rfl rfl (one_of HT_.out (by kernel_rfl)) (by decide) (fun K hK => ?_)
      refine goes_ Try.func48 (by kernel_rfl) rfl #[.int .i64 a0_1, .int .i64 a0_2, .int .i64 a1] (by rfl) rfl rfl (by (try simp only [zm1, zm2, zm3]); first | done | rfl | (simp only [List.length_drop, List.length_take]; rfl)) ?_
      with_reducible refine (blocks_Range.calls a0_1 a0_2 a1 t131 t132 true _ A6.out).mono ?_
      rintro e w14 ⟨rfl, hb⟩
      refine ⟨_, rfl, ?_⟩
      have n0_ := zA (zc6 (g := g) (o := .cells #[.slice A0_0 l0_0.length c0_0, .int .i64 a0_1, .int .i64 a0_2, .slice A0_3 l0_3.length c0_3] 81 (0, 0)) (by (with_reducible repeat (first | refine zc3 ?_ _ | refine zc4 ?_ | refine zc2 ?_ _)); exact BK130.out) hb)
      have n1_ := zA (zb5 (by repeat (first | (with_reducible first | exact HB.out | apply zb3 | apply zb1 | apply zb2 | refine zb4 ?_ GE130.out) | exact HB.out)) hb)
      clear BK130
      clear HB
      have BK130 := n0_
      have HB := n1_
      clear n0_ n1_
      (try clear hb)
      (try clear hb2)
      (try clear hk)
      (try clear hi)
      refine hK.out _ _ ⟨(zc1 BK130.out 0).trans rfl, (zc1 BK130.out 1).trans rfl, (zc1 BK130.out 2).trans rfl, (zc1 BK130.out 3).trans rfl⟩ (fun hHeld => ?_)
      clear hK K
      refine norm_ (a' := ?_) ?_ ?_
      rotate_left
      ·show Act.put _ (some 24) _ = _
       simp only [Act.put, zs1, zs2, zs3, i64_w, i32_w]
       rfl
      refine ord_ [(0, 10, 2047), (0, 11, 4095), (0, 12, 8191), (0, 13, 16383), (0, 14, 32767), (0, 15, 65535), (0, 16, 131071)] ?_
      repeat (refine kk_ 0 ?_; refine oP_ (v := ?_) (a' := ?_) HT_ rfl rfl (by kernel_rfl) (fun _ _ _ h => h) (Or.inl ⟨by rfl, ?_⟩) ?_ ?_; rotate_left; (intro w'; go_simp; with_reducible rfl); rotate_left; (simp only [Act.put, zs1, zs2, zs3, i64_w, i32_w]; rfl))
      refine oend_ ?_
      refine done_ (done_of HT_.out (by kernel_rfl)) ?_
      have hcz15_0 : w14.cell? ⟨g, 0, none⟩ = some (.slice A0_0 l0_0.length c0_0) := (zc1 BK130.out 0).trans rfl
      have hcz15_1 : w14.cell? ⟨g, 1, none⟩ = some (.int .i64 a0_1) := (zc1 BK130.out 1).trans rfl
      have hcz15_2 : w14.cell? ⟨g, 2, none⟩ = some (.int .i64 a0_2) := (zc1 BK130.out 2).trans rfl
      have hcz15_3 : w14.cell? ⟨g, 3, none⟩ = some (.slice A0_3 l0_3.length c0_3) := (zc1 BK130.out 3).trans rfl
      have hfz15_0 := zc5 BK130.out 0
      have hfz15_1 := zc5 BK130.out 1
      have hfz15_2 := zc5 BK130.out 2
      have hfz15_3 := zc5 BK130.out 3
      have p134 : 0 ≤ (a1 : Int) := zd3 (by first | (with_reducible assumption) | assumption)
      have q134 : a1 < (l0_0.length : Int) := zd3 (by first | (with_reducible assumption) | assumption)
      obtain ⟨ad134, e134, hx134_0, hx134_1⟩ := at_T55 HR0_0.out a1 p134 q134
      cases e134
      replace hx134_0 := (HB.out.cell (World.block_lt_of_cell? w _ hx134_0)).trans hx134_0
      replace hx134_1 := (HB.out.cell (World.block_lt_of_cell? w _ hx134_1)).trans hx134_1
      replace p134 := eq_true p134
      replace q134 := eq_true q134
      have p135 : 0 ≤ (a1 : Int) := zd3 (by first | (with_reducible assumption) | assumption)
      have q135 : a1 < (l0_0.length : Int) := zd3 (by first | (with_reducible assumption) | assumption)
      obtain ⟨ad135, e135, hx135_0, hx135_1⟩ := at_T55 HR0_0.out a1 p135 q135
      obtain rfl : ad134 = ad135 := (by injection e135)
      replace hx135_0 := (HB.out.cell (World.block_lt_of_cell? w _ hx135_0)).trans hx135_0
      replace hx135_1 := (HB.out.cell (World.block_lt_of_cell? w _ hx135_1)).trans hx135_1
      replace p135 := eq_true p135
      replace q135 := eq_true q135
      try go_wp2
      go_ret
      exact ⟨by first | rfl | (simp [*] <;> rfl), by repeat (first | (with_reducible first | exact HB.out | apply zb3 | apply zb1 | apply zb2 | refine zb4 ?_ GE130.out) | exact HB.out)⟩
     ·rw [if_neg c11] at H
      have c11b0 : (((rd_T55 l0_0 a1).f0) == a2) = false := beq_eq_false_iff_ne.mpr c11
      have c11b1 : (((rd_T55 l0_0 a1).f0) != a2) = true := bne_iff_ne.mpr c11
      obtain rfl := Option.some.inj H
      go_enter Try.func65, Try.ntmps65
      have BK130 := zA hx
      try go_wp2_with (first | fail)
      have n0_ := zA (zc4 BK130.out)
      have n1_ := zA (zb2 HB.out)
      clear BK130
      clear HB
      have BK130 := n0_
      have HB := n1_
      clear n0_ n1_
      refine start_ (n := 17) (S := fun w' => w'.cell? ⟨g, 0, none⟩ = some (.slice A0_0 l0_0.length c0_0) ∧ w'.cell? ⟨g, 1, none⟩ = some (.int .i64 a0_1) ∧ w'.cell? ⟨g, 2, none⟩ = some (.int .i64 a0_2) ∧ w'.cell? ⟨g, 3, none⟩ = some (.slice A0_3 l0_3.length c0_3)) (ds := []) (qq 17 0) (by kernel_rfl) rfl (by kernel_rfl) ⟨(zc1 BK130.out 0).trans rfl, (zc1 BK130.out 1).trans rfl, (zc1 BK130.out 2).trans rfl, (zc1 BK130.out 3).trans rfl⟩ (fun hHeld => ?_); refine with_tabW index_Index_has.tab1 index_Index_has.bits1 (fun HT_ HW_ => ?_)
      generalize w.drew = w17 at BK130 HB hHeld ⊢
      refine ord_ [(0, 0, 1), (0, 1, 3), (0, 2, 7), (0, 4, 23), (0, 5, 55), (0, 6, 119), (0, 8, 375), (1, 3, 383), (1, 7, 511)] ?_
      repeat (first | (refine kk_ 0 ?_; refine oP_ (v := ?_) (a' := ?_) HT_ rfl rfl (by kernel_rfl) (fun _ _ _ h => h) (Or.inl ⟨by rfl, ?_⟩) ?_ ?_; rotate_left; (intro w'; go_simp; with_reducible rfl); rotate_left; (simp only [Act.put, zs1, zs2, zs3, i64_w, i32_w]; rfl)) | (refine kk_ 1 ?_; refine oT_ (v := ?_) (a' := ?_) HT_ HW_ rfl rfl (by kernel_rfl) (fun _ _ _ h => h) (Or.inl ⟨by rfl, ?_⟩) hHeld ?_ ?_; rotate_left; (rintro w' ⟨s0, s1, s2, s3⟩; go_simp; with_reducible rfl); rotate_left; (simp only [Act.put, zs1, zs2, zs3, i64_w, i32_w]; rfl)))
      refine oend_ ?_
      refine one_ (i := 9) (N := some 24) (qq 17 1023) rfl rfl (one_of HT_.out (by kernel_rfl)) (by decide) (fun K hK => ?_)
      refine goes_ Try.func48 (by kernel_rfl) rfl #[.int .i64 a0_1, .int .i64 a0_2, .int .i64 a1] (by rfl) rfl rfl (by (try simp only [zm1, zm2, zm3]); first | done | rfl | (simp only [List.length_drop, List.length_take]; rfl)) ?_
      with_reducible refine (blocks_Range.calls a0_1 a0_2 a1 t131 t132 true _ A6.out).mono ?_
      rintro e w18 ⟨rfl, hb⟩
      refine ⟨_, rfl, ?_⟩
      have n0_ := zA (zc6 (g := g) (o := .cells #[.slice A0_0 l0_0.length c0_0, .int .i64 a0_1, .int .i64 a0_2, .slice A0_3 l0_3.length c0_3] 81 (0, 0)) (by (with_reducible repeat (first | refine zc3 ?_ _ | refine zc4 ?_ | refine zc2 ?_ _)); exact BK130.out) hb)
      have n1_ := zA (zb5 (by repeat (first | (with_reducible first | exact HB.out | apply zb3 | apply zb1 | apply zb2 | refine zb4 ?_ GE130.out) | exact HB.out)) hb)
      clear BK130
      clear HB
      have BK130 := n0_
      have HB := n1_
      clear n0_ n1_
      (try clear hb)
      (try clear hb2)
      (try clear hk)
      (try clear hi)
      refine hK.out _ _ ⟨(zc1 BK130.out 0).trans rfl, (zc1 BK130.out 1).trans rfl, (zc1 BK130.out 2).trans rfl, (zc1 BK130.out 3).trans rfl⟩ (fun hHeld => ?_)
      clear hK K
      refine norm_ (a' := ?_) ?_ ?_
      rotate_left
      ·show Act.put _ (some 24) _ = _
       simp only [Act.put, zs1, zs2, zs3, i64_w, i32_w]
       rfl
      refine ord_ [(0, 10, 2047), (0, 11, 4095), (0, 12, 8191), (0, 13, 16383), (0, 14, 32767), (0, 15, 65535), (0, 16, 131071)] ?_
      repeat (refine kk_ 0 ?_; refine oP_ (v := ?_) (a' := ?_) HT_ rfl rfl (by kernel_rfl) (fun _ _ _ h => h) (Or.inl ⟨by rfl, ?_⟩) ?_ ?_; rotate_left; (intro w'; go_simp; with_reducible rfl); rotate_left; (simp only [Act.put, zs1, zs2, zs3, i64_w, i32_w]; rfl))
      refine oend_ ?_
      refine done_ (done_of HT_.out (by kernel_rfl)) ?_
      have hcz19_0 : w18.cell? ⟨g, 0, none⟩ = some (.slice A0_0 l0_0.length c0_0) := (zc1 BK130.out 0).trans rfl
      have hcz19_1 : w18.cell? ⟨g, 1, none⟩ = some (.int .i64 a0_1) := (zc1 BK130.out 1).trans rfl
      have hcz19_2 : w18.cell? ⟨g, 2, none⟩ = some (.int .i64 a0_2) := (zc1 BK130.out 2).trans rfl
      have hcz19_3 : w18.cell? ⟨g, 3, none⟩ = some (.slice A0_3 l0_3.length c0_3) := (zc1 BK130.out 3).trans rfl
      have hfz19_0 := zc5 BK130.out 0
      have hfz19_1 := zc5 BK130.out 1
      have hfz19_2 := zc5 BK130.out 2
      have hfz19_3 := zc5 BK130.out 3
      have p134 : 0 ≤ (a1 : Int) := zd3 (by first | (with_reducible assumption) | assumption)
      have q134 : a1 < (l0_0.length : Int) := zd3 (by first | (with_reducible assumption) | assumption)
      obtain ⟨ad134, e134, hx134_0, hx134_1⟩ := at_T55 HR0_0.out a1 p134 q134
      cases e134
      replace hx134_0 := (HB.out.cell (World.block_lt_of_cell? w _ hx134_0)).trans hx134_0
      replace hx134_1 := (HB.out.cell (World.block_lt_of_cell? w _ hx134_1)).trans hx134_1
      replace p134 := eq_true p134
      replace q134 := eq_true q134
      try go_wp2
      go_ret
      exact ⟨by first | rfl | (simp [*] <;> rfl), by repeat (first | (with_reducible first | exact HB.out | apply zb3 | apply zb1 | apply zb2 | refine zb4 ?_ GE130.out) | exact HB.out)⟩
    ·rw [if_neg c10] at H
     exact absurd H (by simp)
   ·rw [if_neg c9] at H
    exact absurd H (by simp)
  ·rw [if_neg c8] at H
   have c8b0 : ((wrap64 (t132 - t131)) == a4) = false := beq_eq_false_iff_ne.mpr c8
   have c8b1 : ((wrap64 (t132 - t131)) != a4) = true := bne_iff_ne.mpr c8
   obtain rfl := Option.some.inj H
   go_enter Try.func65, Try.ntmps65
   have BK130 := zA hx
   try go_wp2_with (first | fail)
   have n0_ := zA (zc4 BK130.out)
   have n1_ := zA (zb2 HB.out)
   clear BK130
   clear HB
   have BK130 := n0_
   have HB := n1_
   clear n0_ n1_
   refine start_ (n := 17) (S := fun w' => w'.cell? ⟨g, 0, none⟩ = some (.slice A0_0 l0_0.length c0_0) ∧ w'.cell? ⟨g, 1, none⟩ = some (.int .i64 a0_1) ∧ w'.cell? ⟨g, 2, none⟩ = some (.int .i64 a0_2) ∧ w'.cell? ⟨g, 3, none⟩ = some (.slice A0_3 l0_3.length c0_3)) (ds := []) (qq 17 0) (by kernel_rfl) rfl (by kernel_rfl) ⟨(zc1 BK130.out 0).trans rfl, (zc1 BK130.out 1).trans rfl, (zc1 BK130.out 2).trans rfl, (zc1 BK130.out 3).trans rfl⟩ (fun hHeld => ?_); refine with_tabW index_Index_has.tab1 index_Index_has.bits1 (fun HT_ HW_ => ?_)
   generalize w.drew = w21 at BK130 HB hHeld ⊢
   refine ord_ [(0, 0, 1), (0, 1, 3), (0, 2, 7), (0, 4, 23), (0, 5, 55), (0, 6, 119), (0, 8, 375), (1, 3, 383), (1, 7, 511)] ?_
   repeat (first | (refine kk_ 0 ?_; refine oP_ (v := ?_) (a' := ?_) HT_ rfl rfl (by kernel_rfl) (fun _ _ _ h => h) (Or.inl ⟨by rfl, ?_⟩) ?_ ?_; rotate_left; (intro w'; go_simp; with_reducible rfl); rotate_left; (simp only [Act.put, zs1, zs2, zs3, i64_w, i32_w]; rfl)) | (refine kk_ 1 ?_; refine oT_ (v := ?_) (a' := ?_) HT_ HW_ rfl rfl (by kernel_rfl) (fun _ _ _ h => h) (Or.inl ⟨by rfl, ?_⟩) hHeld ?_ ?_; rotate_left; (rintro w' ⟨s0, s1, s2, s3⟩; go_simp; with_reducible rfl); rotate_left; (simp only [Act.put, zs1, zs2, zs3, i64_w, i32_w]; rfl)))
   refine oend_ ?_
   refine one_ (i := 9) (N := some 24) (qq 17 1023) rfl rfl (one_of HT_.out (by kernel_rfl)) (by decide) (fun K hK => ?_)
   refine goes_ Try.func48 (by kernel_rfl) rfl #[.int .i64 a0_1, .int .i64 a0_2, .int .i64 a1] (by rfl) rfl rfl (by (try simp only [zm1, zm2, zm3]); first | done | rfl | (simp only [List.length_drop, List.length_take]; rfl)) ?_
   with_reducible refine (blocks_Range.calls a0_1 a0_2 a1 t131 t132 true _ A6.out).mono ?_
   rintro e w22 ⟨rfl, hb⟩
   refine ⟨_, rfl, ?_⟩
   have n0_ := zA (zc6 (g := g) (o := .cells #[.slice A0_0 l0_0.length c0_0, .int .i64 a0_1, .int .i64 a0_2, .slice A0_3 l0_3.length c0_3] 81 (0, 0)) (by (with_reducible repeat (first | refine zc3 ?_ _ | refine zc4 ?_ | refine zc2 ?_ _)); exact BK130.out) hb)
   have n1_ := zA (zb5 (by repeat (first | (with_reducible first | exact HB.out | apply zb3 | apply zb1 | apply zb2 | refine zb4 ?_ GE130.out) | exact HB.out)) hb)
   clear BK130
   clear HB
   have BK130 := n0_
   have HB := n1_
   clear n0_ n1_
   (try clear hb)
   (try clear hb2)
   (try clear hk)
   (try clear hi)
   refine hK.out _ _ ⟨(zc1 BK130.out 0).trans rfl, (zc1 BK130.out 1).trans rfl, (zc1 BK130.out 2).trans rfl, (zc1 BK130.out 3).trans rfl⟩ (fun hHeld => ?_)
   clear hK K
   refine norm_ (a' := ?_) ?_ ?_
   rotate_left
   ·show Act.put _ (some 24) _ = _
    simp only [Act.put, zs1, zs2, zs3, i64_w, i32_w]
    rfl
   refine ord_ [(0, 10, 2047), (0, 11, 4095), (0, 12, 8191), (0, 13, 16383), (0, 14, 32767), (0, 15, 65535), (0, 16, 131071)] ?_
   repeat (refine kk_ 0 ?_; refine oP_ (v := ?_) (a' := ?_) HT_ rfl rfl (by kernel_rfl) (fun _ _ _ h => h) (Or.inl ⟨by rfl, ?_⟩) ?_ ?_; rotate_left; (intro w'; go_simp; with_reducible rfl); rotate_left; (simp only [Act.put, zs1, zs2, zs3, i64_w, i32_w]; rfl))
   refine oend_ ?_
   refine done_ (done_of HT_.out (by kernel_rfl)) ?_
   try go_wp2
   go_ret
   exact ⟨by first | rfl | (simp [*] <;> rfl), by repeat (first | (with_reducible first | exact HB.out | apply zb3 | apply zb1 | apply zb2 | refine zb4 ?_ GE130.out) | exact HB.out)⟩
 ·replace c7 := Bool.eq_false_iff.mpr c7
  subst c7
  have H1 : (some false) = some r := by rw [if_neg (show ¬ (false = true) by decide)] at H; exact H
  clear H
  have H := H1
  clear H1
  obtain rfl := Option.some.inj H
  go_enter Try.func65, Try.ntmps65
  have BK130 := zA hx
  try go_wp2_with (first | fail)
  have n0_ := zA (zc4 BK130.out)
  have n1_ := zA (zb2 HB.out)
  clear BK130
  clear HB
  have BK130 := n0_
  have HB := n1_
  clear n0_ n1_
  refine start_ (n := 17) (S := fun w' => w'.cell? ⟨g, 0, none⟩ = some (.slice A0_0 l0_0.length c0_0) ∧ w'.cell? ⟨g, 1, none⟩ = some (.int .i64 a0_1) ∧ w'.cell? ⟨g, 2, none⟩ = some (.int .i64 a0_2) ∧ w'.cell? ⟨g, 3, none⟩ = some (.slice A0_3 l0_3.length c0_3)) (ds := []) (qq 17 0) (by kernel_rfl) rfl (by kernel_rfl) ⟨(zc1 BK130.out 0).trans rfl, (zc1 BK130.out 1).trans rfl, (zc1 BK130.out 2).trans rfl, (zc1 BK130.out 3).trans rfl⟩ (fun hHeld => ?_); refine with_tabW index_Index_has.tab1 index_Index_has.bits1 (fun HT_ HW_ => ?_)
  generalize w.drew = w24 at BK130 HB hHeld ⊢
  refine ord_ [(0, 0, 1), (0, 1, 3), (0, 2, 7), (0, 4, 23), (0, 5, 55), (0, 6, 119), (0, 8, 375), (1, 3, 383), (1, 7, 511)] ?_
  repeat (first | (refine kk_ 0 ?_; refine oP_ (v := ?_) (a' := ?_) HT_ rfl rfl (by kernel_rfl) (fun _ _ _ h => h) (Or.inl ⟨by rfl, ?_⟩) ?_ ?_; rotate_left; (intro w'; go_simp; with_reducible rfl); rotate_left; (simp only [Act.put, zs1, zs2, zs3, i64_w, i32_w]; rfl)) | (refine kk_ 1 ?_; refine oT_ (v := ?_) (a' := ?_) HT_ HW_ rfl rfl (by kernel_rfl) (fun _ _ _ h => h) (Or.inl ⟨by rfl, ?_⟩) hHeld ?_ ?_; rotate_left; (rintro w' ⟨s0, s1, s2, s3⟩; go_simp; with_reducible rfl); rotate_left; (simp only [Act.put, zs1, zs2, zs3, i64_w, i32_w]; rfl)))
  refine oend_ ?_
  refine one_ (i := 9) (N := some 24) (qq 17 1023) rfl rfl (one_of HT_.out (by kernel_rfl)) (by decide) (fun K hK => ?_)
  refine goes_ Try.func48 (by kernel_rfl) rfl #[.int .i64 a0_1, .int .i64 a0_2, .int .i64 a1] (by rfl) rfl rfl (by (try simp only [zm1, zm2, zm3]); first | done | rfl | (simp only [List.length_drop, List.length_take]; rfl)) ?_
  with_reducible refine (blocks_Range.calls a0_1 a0_2 a1 t131 t132 false _ A6.out).mono ?_
  rintro e w25 ⟨rfl, hb⟩
  refine ⟨_, rfl, ?_⟩
  have n0_ := zA (zc6 (g := g) (o := .cells #[.slice A0_0 l0_0.length c0_0, .int .i64 a0_1, .int .i64 a0_2, .slice A0_3 l0_3.length c0_3] 81 (0, 0)) (by (with_reducible repeat (first | refine zc3 ?_ _ | refine zc4 ?_ | refine zc2 ?_ _)); exact BK130.out) hb)
  have n1_ := zA (zb5 (by repeat (first | (with_reducible first | exact HB.out | apply zb3 | apply zb1 | apply zb2 | refine zb4 ?_ GE130.out) | exact HB.out)) hb)
  clear BK130
  clear HB
  have BK130 := n0_
  have HB := n1_
  clear n0_ n1_
  (try clear hb)
  (try clear hb2)
  (try clear hk)
  (try clear hi)
  refine hK.out _ _ ⟨(zc1 BK130.out 0).trans rfl, (zc1 BK130.out 1).trans rfl, (zc1 BK130.out 2).trans rfl, (zc1 BK130.out 3).trans rfl⟩ (fun hHeld => ?_)
  clear hK K
  refine norm_ (a' := ?_) ?_ ?_
  rotate_left
  ·show Act.put _ (some 24) _ = _
   simp only [Act.put, zs1, zs2, zs3, i64_w, i32_w]
   rfl
  refine ord_ [(0, 10, 2047), (0, 11, 4095), (0, 12, 8191), (0, 13, 16383), (0, 14, 32767), (0, 15, 65535), (0, 16, 131071)] ?_
  repeat (refine kk_ 0 ?_; refine oP_ (v := ?_) (a' := ?_) HT_ rfl rfl (by kernel_rfl) (fun _ _ _ h => h) (Or.inl ⟨by rfl, ?_⟩) ?_ ?_; rotate_left; (intro w'; go_simp; with_reducible rfl); rotate_left; (simp only [Act.put, zs1, zs2, zs3, i64_w, i32_w]; rfl))
  refine oend_ ?_
  refine done_ (done_of HT_.out (by kernel_rfl)) ?_
  try go_wp2
  go_ret
  exact ⟨by first | rfl | (simp [*] <;> rfl), by repeat (first | (with_reducible first | exact HB.out | apply zb3 | apply zb1 | apply zb2 | refine zb4 ?_ GE130.out) | exact HB.out)⟩

end Go.Proofs.Ytkihlcmjjoiccaa.PMatchCosts
