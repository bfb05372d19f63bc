-- Written by a program of this session (the kit's printer with hand-written contracts among its functions).
-- squeezed
import Derived.Test.YtlndkemblbbfaaaPIndexPicksx0
import Derived.Test.YtlndkemblbbfaaaPIndexPicksx10
namespace Go.Proofs.Ytlndkemblbbfaaa.PIndexPicks
open Go.RowKit Go.Proofs.YtlndkemblbbfaaaW.PrintWords Go.Proofs.YtlndkemblbbfaaaW.PrintLast Go.Proofs.YtlndkemblbbfaaaW.PrintMore
attribute [local go_sem] max2_int min2_int max_two min_two max_three min_three max_four min_four   -- for this text's walks alone
set_option linter.unusedVariables false
set_option linter.unusedSimpArgs false

/-! ### remoraref07_Index_Pick: function 14 -/
mutual
def remoraref07_Index_Pick.l0 : Nat → ByteArray → Int → Int → Int → List Int → Int → Int → Int → Int → List (S44) → Option (Int × Bool)
 | 0, _, _, _, _, _, _, _, _, _, _ => none
 | k + 1, x2, x3, x4, x12, x13, x14, x174000, x174001, x174002, x174003 => if x14 < (x13.length : Int) then (if 0 ≤ x14 then ((remoraref05_Range.f k x174000 x174001 (rd x13 x14)).bind fun bt178 => (if 0 ≤ (rd x13 x14) then (if (rd x13 x14) < (x174003.length : Int) then (if ((rd_T44 x174003 (rd x13 x14)).f1).toList = x2.toList then (remoraref07_Index_Pick.j1 k x2 x3 x4 x12 x13 x14 ((wrap64 (bt178.2.1 - bt178.1)) != x3) x174000 x174001 x174002 x174003) else (remoraref07_Index_Pick.j1 k x2 x3 x4 x12 x13 x14 true x174000 x174001 x174002 x174003)) else (none)) else (none))) else (none)) else (some (mx x12 0, decide (x12 ≥ 0)))
def remoraref07_Index_Pick.j1 : Nat → ByteArray → Int → Int → Int → List Int → Int → Bool → Int → Int → Int → List (S44) → Option (Int × Bool)
 | 0, _, _, _, _, _, _, _, _, _, _, _ => none
 | k + 1, x2, x3, x4, x12, x13, x14, x66, x174000, x174001, x174002, x174003 => if x66 = true then (remoraref07_Index_Pick.l0 k x2 x3 x4 x12 x13 (wrap64 (x14 + 1)) x174000 x174001 x174002 x174003) else (if 0 ≤ x14 then (if x14 < (x13.length : Int) then (if (rd x13 x14) = x4 then (some (x4, true)) else (if x12 < 0 then (remoraref07_Index_Pick.l0 k x2 x3 x4 (rd x13 x14) x13 (wrap64 (x14 + 1)) x174000 x174001 x174002 x174003) else (remoraref07_Index_Pick.l0 k x2 x3 x4 x12 x13 (wrap64 (x14 + 1)) x174000 x174001 x174002 x174003))) else (none)) else (none))
end
def remoraref07_Index_Pick.f (k : Nat) (a0_0 : Int) (a0_1 : Int) (a0_2 : Int) (l0_3 : List (S44)) (a1 : Int) (a2 : ByteArray) (a3 : Int) (a4 : Int) : Option (Int × Bool) := (remoraref07_Index_Find.f k a0_0 a0_1 a0_2 l0_3 a1).bind fun t174 => (remoraref07_Index_Pick.l0 k a2 a3 a4 (-1) t174 0 a0_0 a0_1 a0_2 l0_3)
theorem remoraref07_Index_Pick.mono_l : ∀ k, (∀ y0 y1 y2 y3 y4 y5 y6 y7 y8 y9, LeO (remoraref07_Index_Pick.l0 k y0 y1 y2 y3 y4 y5 y6 y7 y8 y9) (remoraref07_Index_Pick.l0 (k + 1) y0 y1 y2 y3 y4 y5 y6 y7 y8 y9)) ∧ (∀ y0 y1 y2 y3 y4 y5 y6 y7 y8 y9 y10, LeO (remoraref07_Index_Pick.j1 k y0 y1 y2 y3 y4 y5 y6 y7 y8 y9 y10) (remoraref07_Index_Pick.j1 (k + 1) y0 y1 y2 y3 y4 y5 y6 y7 y8 y9 y10))
 | 0 => ⟨fun _ _ _ _ _ _ _ _ _ _ r h => by simp [remoraref07_Index_Pick.l0] at h, fun _ _ _ _ _ _ _ _ _ _ _ r h => by simp [remoraref07_Index_Pick.j1] at h⟩
 | k + 1 => by
  obtain ⟨ih0, ih1⟩ := remoraref07_Index_Pick.mono_l k
  refine ⟨?_, ?_⟩
  ·intro y0 y1 y2 y3 y4 y5 y6 y7 y8 y9
   unfold remoraref07_Index_Pick.l0
   repeat' first
   | (with_reducible exact ih0 _ _ _ _ _ _ _ _ _ _)
   | (with_reducible exact ih1 _ _ _ _ _ _ _ _ _ _ _)
   | (with_reducible exact remoraref05_Range.mono _ _ _ _)
   | (with_reducible exact remoraref07_Index_Find.mono _ _ _ _ _ _)
   | (with_reducible exact LeO.refl _)
   | (with_reducible exact LeO.none _)
   | (with_reducible refine LeO.ite ?_ ?_)
   | (with_reducible refine LeO.bind ?_ (fun _ => ?_))
   | exact ih0 _ _ _ _ _ _ _ _ _ _
   | exact ih1 _ _ _ _ _ _ _ _ _ _ _
   | exact remoraref05_Range.mono _ _ _ _
   | exact remoraref07_Index_Find.mono _ _ _ _ _ _
   | exact LeO.none _
   | refine LeO.ite ?_ ?_
   | refine LeO.bind ?_ (fun _ => ?_)
  ·intro y0 y1 y2 y3 y4 y5 y6 y7 y8 y9 y10
   unfold remoraref07_Index_Pick.j1
   repeat' first
   | (with_reducible exact ih0 _ _ _ _ _ _ _ _ _ _)
   | (with_reducible exact ih1 _ _ _ _ _ _ _ _ _ _ _)
   | (with_reducible exact remoraref05_Range.mono _ _ _ _)
   | (with_reducible exact remoraref07_Index_Find.mono _ _ _ _ _ _)
   | (with_reducible exact LeO.refl _)
   | (with_reducible exact LeO.none _)
   | (with_reducible refine LeO.ite ?_ ?_)
   | (with_reducible refine LeO.bind ?_ (fun _ => ?_))
   | exact ih0 _ _ _ _ _ _ _ _ _ _
   | exact ih1 _ _ _ _ _ _ _ _ _ _ _
   | exact remoraref05_Range.mono _ _ _ _
   | exact remoraref07_Index_Find.mono _ _ _ _ _ _
   | exact LeO.none _
   | refine LeO.ite ?_ ?_
   | refine LeO.bind ?_ (fun _ => ?_)
theorem remoraref07_Index_Pick.mono : ∀ a0 a1 a2 a3 a4 a5 a6 a7 k, LeO (remoraref07_Index_Pick.f k a0 a1 a2 a3 a4 a5 a6 a7) (remoraref07_Index_Pick.f (k + 1) a0 a1 a2 a3 a4 a5 a6 a7) := by
 intro a0 a1 a2 a3 a4 a5 a6 a7 k
 obtain ⟨ih0, ih1⟩ := remoraref07_Index_Pick.mono_l k
 unfold remoraref07_Index_Pick.f
 repeat' first
     | (with_reducible exact ih0 _ _ _ _ _ _ _ _ _ _)
     | (with_reducible exact ih1 _ _ _ _ _ _ _ _ _ _ _)
     | (with_reducible exact remoraref05_Range.mono _ _ _ _)
     | (with_reducible exact remoraref07_Index_Find.mono _ _ _ _ _ _)
     | (with_reducible exact LeO.refl _)
     | (with_reducible exact LeO.none _)
     | (with_reducible refine LeO.ite ?_ ?_)
     | (with_reducible refine LeO.bind ?_ (fun _ => ?_))
     | exact ih0 _ _ _ _ _ _ _ _ _ _
     | exact ih1 _ _ _ _ _ _ _ _ _ _ _
     | exact remoraref05_Range.mono _ _ _ _
     | exact remoraref07_Index_Find.mono _ _ _ _ _ _
     | exact LeO.none _
     | refine LeO.ite ?_ ?_
     | refine LeO.bind ?_ (fun _ => ?_)
def remoraref07_Index_Pick.T6 : Bool × List (List Nat × List Nat) := (true, [([], []), ([0], [0]), ([1], [1]), ([2], [2]), ([3], [3]), ([], []), ([5], [5]), ([6], [6]), ([7], [7]), ([8], [8]), ([], []), ([], []), ([10, 11], [10, 11]), ([12], [12]), ([4, 9, 13], [4, 9, 13]), ([14], [14]), ([15], [15]), ([15], [15]), ([15], [15]), ([16, 14, 0, 1, 2, 3, 4, 5, 6, 7, 8, 9, 10, 11, 12, 13, 14, 15, 16], [16]), ([17, 19, 0, 1, 2, 3, 4, 5, 6, 7, 8, 9, 10, 11, 12, 13, 14, 15, 16, 17, 19], [17]), ([18, 20, 0, 1, 2, 3, 4, 5, 6, 7, 8, 9, 10, 11, 12, 13, 14, 15, 16, 17, 18, 19, 20], [18])])
def remoraref07_Index_Pick.B6 : List Nat := [0, 1, 3, 7, 15, 0, 32, 96, 224, 480, 0, 0, 3072, 7168, 16383, 32767, 65535, 65535, 65535, 131071, 786431, 2097151]
theorem remoraref07_Index_Pick.tab6 : rtab .any (opsOf Try.f14 6) = remoraref07_Index_Pick.T6 := by kernel_rfl
theorem remoraref07_Index_Pick.bits6 : waitsOk remoraref07_Index_Pick.T6.2 remoraref07_Index_Pick.B6 = true := by kernel_rfl
def remoraref07_Index_Pick.T7 : Bool × List (List Nat × List Nat) := (true, [([], []), ([0], [0]), ([1], [1]), ([2], [2]), ([3], [3]), ([], []), ([], []), ([5, 6], [5, 6]), ([7], [7]), ([4, 8], [4, 8]), ([9], [9]), ([10], [10]), ([], []), ([11, 12], [11, 12]), ([13], [13]), ([14], [14]), ([14], [14]), ([15, 16, 14], [14, 15, 16]), ([14], [14]), ([17, 18, 14], [14, 17, 18]), ([14, 19], [14, 19])])
def remoraref07_Index_Pick.B7 : List Nat := [0, 1, 3, 7, 15, 0, 0, 96, 224, 511, 1023, 2047, 0, 8191, 16383, 32767, 32767, 131071, 32767, 524287, 1048575]
theorem remoraref07_Index_Pick.tab7 : rtab .any (opsOf Try.f14 7) = remoraref07_Index_Pick.T7 := by kernel_rfl
theorem remoraref07_Index_Pick.bits7 : waitsOk remoraref07_Index_Pick.T7.2 remoraref07_Index_Pick.B7 = true := by kernel_rfl
set_option maxHeartbeats 8000000 in
set_option maxRecDepth 100000 in
theorem remoraref07_Index_Pick.calls (g : Nat) (k : Nat) (a0_0 : Int) (a0_1 : Int) (a0_2 : Int) (A0_3 : Option Addr) (c0_3 : Nat) (l0_3 : List (S44)) (a1 : Int) (a2 : ByteArray) (a3 : Int) (a4 : Int) (r1 : Int) (r2 : Bool) (w : World) (hr0_3 : Kd.C k44 w A0_3 l0_3.length l0_3) (hc0_3 : l0_3.length ≤ c0_3) (hx : w.heap[g]? = some (.cells #[.int .i64 a0_0, .int .i64 a0_1, .int .i64 a0_2, .slice A0_3 l0_3.length c0_3] 64 (0, 0))) (h : remoraref07_Index_Pick.f k a0_0 a0_1 a0_2 l0_3 a1 a2 a3 a4 = some (r1, r2)) :
    Calls Try.prog 14 #[.pointer (some ⟨g, 0, none⟩), .int .u32 a1, .string a2, .int .i64 a3, .int .i64 a4] w fun e w' => e = .returned (.tuple #[.int .i64 r1, .bool r2]) ∧ Below w.heap.size w w' := by
 have hu64 := Try.underlying64
 have HR0_3 := zA hr0_3
 have HC0_3 := zA hc0_3
 clear hr0_3 hc0_3
 have HB := zA (Below.refl w.heap.size w)
 have H : ((remoraref07_Index_Find.f k a0_0 a0_1 a0_2 l0_3 a1).bind fun t174 => (remoraref07_Index_Pick.l0 k a2 a3 a4 (-1) t174 0 a0_0 a0_1 a0_2 l0_3)) = some (r1, r2) := h
 clear h
 replace H := Option.bind_eq_some_iff.mp H
 obtain ⟨t174, A60, H⟩ := H
 replace H : (remoraref07_Index_Pick.l0 k a2 a3 a4 (-1) t174 0 a0_0 a0_1 a0_2 l0_3) = some (r1, r2) := H
 have A6 := zA A60
 clear A60
 have H' := zA H
 clear H
 go_enter Try.func14, Try.ntmps14
 have BK173 := zA hx
 have hcz8_0 : w.cell? ⟨g, 0, none⟩ = some (.int .i64 a0_0) := (zc1 BK173.out 0).trans rfl
 have hcz8_1 : w.cell? ⟨g, 1, none⟩ = some (.int .i64 a0_1) := (zc1 BK173.out 1).trans rfl
 have hcz8_2 : w.cell? ⟨g, 2, none⟩ = some (.int .i64 a0_2) := (zc1 BK173.out 2).trans rfl
 have hcz8_3 : w.cell? ⟨g, 3, none⟩ = some (.slice A0_3 l0_3.length c0_3) := (zc1 BK173.out 3).trans rfl
 have hfz8_0 := zc5 BK173.out 0
 have hfz8_1 := zc5 BK173.out 1
 have hfz8_2 := zc5 BK173.out 2
 have hfz8_3 := zc5 BK173.out 3
 go_wp2_with (first | ((with_reducible refine gate_callee (f := 19) rfl ?_); refine goesL_ (some 20) rfl rfl Try.func19 (by kernel_rfl) rfl #[.pointer (some ⟨g, 0, none⟩), .int .u32 a1] rfl (by (try simp only [zm1, zm2, zm3]); first | done | rfl | (simp only [List.length_drop, List.length_take]; rfl)) ?_; (with_reducible refine (remoraref07_Index_Find.calls g k a0_0 a0_1 a0_2 A0_3 c0_3 l0_3 a1 t174 _ ?side1 ?side2 ?sideX A6.out).mono ?_); (case sideX => exact (by (with_reducible repeat (first | refine zc3 ?_ _ | refine zc4 ?_ | refine zc2 ?_ _)); exact BK173.out)); (case side1 => repeat (first | exact (Kd.C_below HR0_3.out HB.out) | (with_reducible refine Kd.C_alloc ?_ _) | (with_reducible refine Kd.C_drewN ?_ _) | (with_reducible refine Kd.C_drew ?_))); (case side2 => exact HC0_3.out); rintro e w9 ⟨v175, rfl, ho0, hb⟩; refine ⟨_, rfl, ?_⟩; have n0_ := zA (Kd.R_lower ho0 (zb6 (by repeat (first | (with_reducible first | exact HB.out | apply zb3 | apply zb1 | apply zb2 | refine zb4 ?_ GE173.out) | exact HB.out)))); have n1_ := zA (zc6 (g := g) (o := .cells #[.int .i64 a0_0, .int .i64 a0_1, .int .i64 a0_2, .slice A0_3 l0_3.length c0_3] 64 (0, 0)) (by (with_reducible repeat (first | refine zc3 ?_ _ | refine zc4 ?_ | refine zc2 ?_ _)); exact BK173.out) hb); have n2_ := zA (zb5 (by repeat (first | (with_reducible first | exact HB.out | apply zb3 | apply zb1 | apply zb2 | refine zb4 ?_ GE173.out) | exact HB.out)) hb); clear BK173; clear HB; have HO176 := n0_; have BK173 := n1_; have HB := n2_; clear n0_ n1_ n2_; (try clear hb); (try clear hb2); (try clear hk); (try clear hi); (try clear ho0)))
 go_loopg [12, 14] k (fun kq v12 v14 w' => ∃ (x12_1 : Int) (x14_1 : Int), v12 = .int .i64 x12_1 ∧ v14 = .int .i64 x14_1 ∧ Aside0 (remoraref07_Index_Pick.l0 kq a2 a3 a4 x12_1 t174 x14_1 a0_0 a0_1 a0_2 l0_3 = some (r1, r2)) ∧ Aside0 (kq ≤ k) ∧ Aside0 (Kd.R (Kd.int .i64) 3 w' w.heap.size (fun _ => True) v175 t174) ∧ Aside0 (w'.heap[g]? = some (.cells #[.int .i64 a0_0, .int .i64 a0_1, .int .i64 a0_2, (.slice A0_3 l0_3.length c0_3)] 64 (0, 0))) ∧ Aside0 (Below w.heap.size w w'))
 case atStart => exact ⟨((-1)), (0), (by first | rfl | (simp; done) | (simp [*]; done)), (by first | rfl | (simp; done) | (simp [*]; done)), H', ⟨Nat.le_refl _⟩, ⟨by (with_reducible repeat (first | apply Kd.R_alloc | apply Kd.R_drewN | apply Kd.R_drew)); exact HO176.out⟩, ⟨by (with_reducible repeat (first | refine zc3 ?_ _ | refine zc4 ?_ | refine zc2 ?_ _)); exact BK173.out⟩, ⟨by repeat (first | (with_reducible first | exact HB.out | apply zb3 | apply zb1 | apply zb2 | refine zb4 ?_ GE173.out) | exact HB.out)⟩⟩
 case round =>
  clear H'
  try clear c1
  try clear p2
  try clear hcz8_0
  try clear hcz8_1
  try clear hcz8_2
  try clear hcz8_3
  try clear hfz8_0
  try clear hfz8_1
  try clear hfz8_2
  try clear hfz8_3
  obtain ⟨x12_1, x14_1, rfl, rfl, HA, HK1, HO_13, BK173, HB⟩ := hrel
  cases gk with
  | zero => exact absurd HA.out (by simp [remoraref07_Index_Pick.l0])
  | succ k1 =>
   have H := HA.out
   clear HA
   simp only [remoraref07_Index_Pick.l0] at H
   by_cases c10 : x14_1 < (t174.length : Int)
   ·rw [if_pos c10] at H
    have c10b0 : decide (x14_1 < (t174.length : Int)) = true := zd1 c10
    clear c10
    by_cases c11 : 0 ≤ x14_1
    ·rw [if_pos c11] at H
     have c11b0 : decide (0 ≤ x14_1) = true := zd1 c11
     clear c11
     replace H := Option.bind_eq_some_iff.mp H
     obtain ⟨⟨t178, t179, t180⟩, A120, H⟩ := H
     replace H : (if 0 ≤ (rd t174 x14_1) then (if (rd t174 x14_1) < (l0_3.length : Int) then (if ((rd_T44 l0_3 (rd t174 x14_1)).f1).toList = a2.toList then (remoraref07_Index_Pick.j1 k1 a2 a3 a4 x12_1 t174 x14_1 ((wrap64 (t179 - t178)) != a3) a0_0 a0_1 a0_2 l0_3) else (remoraref07_Index_Pick.j1 k1 a2 a3 a4 x12_1 t174 x14_1 true a0_0 a0_1 a0_2 l0_3)) else (none)) else (none)) = some (r1, r2) := H
     have A12 := zA A120
     clear A120
     have HC13 := zA H
     clear H
     obtain ⟨Ao14, co14, eo14⟩ := Kd.R_slice HO_13.out
     subst eo14
     try go_wp2
     have n0_ := zA (Kd.R_drew HO_13.out)
     have n1_ := zA (zc4 BK173.out)
     have n2_ := zA (zb2 HB.out)
     clear HO_13
     clear BK173
     clear HB
     have HO_13 := n0_
     have BK173 := n1_
     have HB := n2_
     clear n0_ n1_ n2_
     have p177 : 0 ≤ (x14_1 : Int) := zd3 (by first | (with_reducible assumption) | assumption)
     have q177 : x14_1 < (t174.length : Int) := zd3 (by first | (with_reducible assumption) | assumption)
     obtain ⟨ad177, e177, hx177_0⟩ := Kd.at_int (Kd.R_reads' HO_13.out).2.2 x14_1 p177 q177
     cases e177
     replace p177 := eq_true p177
     replace q177 := eq_true q177
     refine start_ (n := 22) (S := fun w' => w'.cell? ⟨g, 0, none⟩ = some (.int .i64 a0_0) ∧ w'.cell? ⟨g, 1, none⟩ = some (.int .i64 a0_1) ∧ w'.cell? ⟨g, 2, none⟩ = some (.int .i64 a0_2) ∧ w'.cell? ⟨g, 3, none⟩ = some (.slice A0_3 l0_3.length c0_3) ∧ w'.cell? (ad177.add (x14_1).toNat) = some (.int .i64 (rd t174 x14_1))) (ds := []) #[false, false, false, false, false, false, false, false, false, false, false, false, false, false, false, false, false, false, false, false, false, false] (by kernel_rfl) rfl rfl ⟨(zc1 BK173.out 0).trans rfl, (zc1 BK173.out 1).trans rfl, (zc1 BK173.out 2).trans rfl, (zc1 BK173.out 3).trans rfl, hx177_0⟩ (fun hHeld => ?_); refine with_tabW remoraref07_Index_Pick.tab6 remoraref07_Index_Pick.bits6 (fun HT_ HW_ => ?_)
     generalize wr.drew = w15 at HO_13 BK173 HB hx177_0 hHeld ⊢
     refine pure_ (i := 0) (N := some 28) (v := ?_) (a' := ?_) #[true, false, false, false, false, false, false, false, false, false, false, false, false, false, false, false, false, false, false, false, false, false] rfl rfl (any_of HT_.out (by kernel_rfl)) (fun _ _ _ h => h) (Or.inl ⟨by rfl, ?_⟩) ?_ ?_
     rotate_left
     ·intro w'
      go_simp
      with_reducible rfl
     rotate_left
     ·simp only [Act.put, zs1, zs2, zs3, i64_w, i32_w]
      rfl
     refine pure_ (i := 1) (N := some 29) (v := ?_) (a' := ?_) #[true, true, false, false, false, false, false, false, false, false, false, false, false, false, false, false, false, false, false, false, false, false] rfl rfl (any_of HT_.out (by kernel_rfl)) (fun _ _ _ h => h) (Or.inl ⟨by rfl, ?_⟩) ?_ ?_
     rotate_left
     ·intro w'
      go_simp
      with_reducible rfl
     rotate_left
     ·simp only [Act.put, zs1, zs2, zs3, i64_w, i32_w]
      rfl
     refine pure_ (i := 2) (N := some 30) (v := ?_) (a' := ?_) #[true, true, true, false, false, false, false, false, false, false, false, false, false, false, false, false, false, false, false, false, false, false] rfl rfl (any_of HT_.out (by kernel_rfl)) (fun _ _ _ h => h) (Or.inl ⟨by rfl, ?_⟩) ?_ ?_
     rotate_left
     ·intro w'
      go_simp
      with_reducible rfl
     rotate_left
     ·simp only [Act.put, zs1, zs2, zs3, i64_w, i32_w]
      rfl
     refine pure_ (i := 3) (N := some 31) (v := ?_) (a' := ?_) #[true, true, true, true, false, false, false, false, false, false, false, false, false, false, false, false, false, false, false, false, false, false] rfl rfl (any_of HT_.out (by kernel_rfl)) (fun _ _ _ h => h) (Or.inl ⟨by rfl, ?_⟩) ?_ ?_
     rotate_left
     ·intro w'
      go_simp
      with_reducible rfl
     rotate_left
     ·simp only [Act.put, zs1, zs2, zs3, i64_w, i32_w]
      rfl
     refine pure_ (i := 5) (N := some 33) (v := ?_) (a' := ?_) #[true, true, true, true, false, true, false, false, false, false, false, false, false, false, false, false, false, false, false, false, false, false] rfl rfl (any_of HT_.out (by kernel_rfl)) (fun _ _ _ h => h) (Or.inl ⟨by rfl, ?_⟩) ?_ ?_
     rotate_left
     ·intro w'
      go_simp
      with_reducible rfl
     rotate_left
     ·simp only [Act.put, zs1, zs2, zs3, i64_w, i32_w]
      rfl
     refine pure_ (i := 6) (N := some 34) (v := ?_) (a' := ?_) #[true, true, true, true, false, true, true, false, false, false, false, false, false, false, false, false, false, false, false, false, false, false] rfl rfl (any_of HT_.out (by kernel_rfl)) (fun _ _ _ h => h) (Or.inl ⟨by rfl, ?_⟩) ?_ ?_
     rotate_left
     ·intro w'
      go_simp
      with_reducible rfl
     rotate_left
     ·simp only [Act.put, zs1, zs2, zs3, i64_w, i32_w]
      rfl
     refine pure_ (i := 7) (N := some 35) (v := ?_) (a' := ?_) #[true, true, true, true, false, true, true, true, false, false, false, false, false, false, false, false, false, false, false, false, false, false] rfl rfl (any_of HT_.out (by kernel_rfl)) (fun _ _ _ h => h) (Or.inl ⟨by rfl, ?_⟩) ?_ ?_
     rotate_left
     ·intro w'
      go_simp
      with_reducible rfl
     rotate_left
     ·simp only [Act.put, zs1, zs2, zs3, i64_w, i32_w]
      rfl
     refine pure_ (i := 8) (N := some 36) (v := ?_) (a' := ?_) #[true, true, true, true, false, true, true, true, true, false, false, false, false, false, false, false, false, false, false, false, false, false] rfl rfl (any_of HT_.out (by kernel_rfl)) (fun _ _ _ h => h) (Or.inl ⟨by rfl, ?_⟩) ?_ ?_
     rotate_left
     ·intro w'
      go_simp
      with_reducible rfl
     rotate_left
     ·simp only [Act.put, zs1, zs2, zs3, i64_w, i32_w]
      rfl
     refine pure_ (i := 10) (N := some 38) (v := ?_) (a' := ?_) #[true, true, true, true, false, true, true, true, true, false, true, false, false, false, false, false, false, false, false, false, false, false] rfl rfl (any_of HT_.out (by kernel_rfl)) (fun _ _ _ h => h) (Or.inl ⟨by rfl, ?_⟩) ?_ ?_
     rotate_left
     ·intro w'
      go_simp
      with_reducible rfl
     rotate_left
     ·simp only [Act.put, zs1, zs2, zs3, i64_w, i32_w]
      rfl
     refine pure_ (i := 11) (N := some 39) (v := ?_) (a' := ?_) #[true, true, true, true, false, true, true, true, true, false, true, true, false, false, false, false, false, false, false, false, false, false] rfl rfl (any_of HT_.out (by kernel_rfl)) (fun _ _ _ h => h) (Or.inl ⟨by rfl, ?_⟩) ?_ ?_
     rotate_left
     ·intro w'
      go_simp
      with_reducible rfl
     rotate_left
     ·simp only [Act.put, zs1, zs2, zs3, i64_w, i32_w]
      rfl
     refine pure_ (i := 12) (N := some 40) (v := ?_) (a' := ?_) #[true, true, true, true, false, true, true, true, true, false, true, true, true, false, false, false, false, false, false, false, false, false] rfl rfl (any_of HT_.out (by kernel_rfl)) (fun _ _ _ h => h) (Or.inl ⟨by rfl, ?_⟩) ?_ ?_
     rotate_left
     ·intro w'
      go_simp
      with_reducible rfl
     rotate_left
     ·simp only [Act.put, zs1, zs2, zs3, i64_w, i32_w]
      rfl
     refine take_ (i := 4) (N := some 32) (v := ?_) (a' := ?_) #[true, true, true, true, true, true, true, true, true, false, true, true, true, false, false, false, false, false, false, false, false, false] rfl rfl (take_ofW HT_.out HW_.out (by kernel_rfl)) (fun _ _ _ h => h) (Or.inl ⟨by rfl, ?_⟩) hHeld ?_ ?_
     rotate_left
     ·rintro w' ⟨s0, s1, s2, s3, s4⟩
      go_simp
      with_reducible rfl
     rotate_left
     ·simp only [Act.put, zs1, zs2, zs3, i64_w, i32_w]
      rfl
     refine take_ (i := 9) (N := some 37) (v := ?_) (a' := ?_) #[true, true, true, true, true, true, true, true, true, true, true, true, true, false, false, false, false, false, false, false, false, false] rfl rfl (take_ofW HT_.out HW_.out (by kernel_rfl)) (fun _ _ _ h => h) (Or.inl ⟨by rfl, ?_⟩) hHeld ?_ ?_
     rotate_left
     ·rintro w' ⟨s0, s1, s2, s3, s4⟩
      go_simp
      with_reducible rfl
     rotate_left
     ·simp only [Act.put, zs1, zs2, zs3, i64_w, i32_w]
      rfl
     refine take_ (i := 13) (N := some 41) (v := ?_) (a' := ?_) #[true, true, true, true, true, true, true, true, true, true, true, true, true, true, false, false, false, false, false, false, false, false] rfl rfl (take_ofW HT_.out HW_.out (by kernel_rfl)) (fun _ _ _ h => h) (Or.inl ⟨by rfl, ?_⟩) hHeld ?_ ?_
     rotate_left
     ·rintro w' ⟨s0, s1, s2, s3, s4⟩
      go_simp
      with_reducible rfl
     rotate_left
     ·simp only [Act.put, zs1, zs2, zs3, i64_w, i32_w]
      rfl
     refine one_ (i := 14) (N := some 42) #[true, true, true, true, true, true, true, true, true, true, true, true, true, true, true, false, false, false, false, false, false, false] rfl rfl (one_of HT_.out (by kernel_rfl)) (by decide) (fun K hK => ?_)
     refine goes_ Try.func29 (by kernel_rfl) rfl #[.int .i64 a0_0, .int .i64 a0_1, .int .i64 (rd t174 x14_1)] (by rfl) rfl rfl (by (try simp only [zm1, zm2, zm3]); first | done | rfl | (simp only [List.length_drop, List.length_take]; rfl)) ?_
     with_reducible refine (remoraref05_Range.calls k1 a0_0 a0_1 (rd t174 x14_1) t178 t179 t180 _ A12.out).mono ?_
     rintro e w16 ⟨rfl, hb⟩
     have HS4_ := (hb.cell (World.block_lt_of_cell? _ _ (hHeld.2.2.2.2))).trans (hHeld.2.2.2.2)
     refine ⟨_, rfl, ?_⟩
     have n0_ := zA (Kd.R_below (by (with_reducible repeat (first | apply Kd.R_alloc | apply Kd.R_drewN | apply Kd.R_drew)); exact HO_13.out) hb)
     have n1_ := zA (zc6 (g := g) (o := .cells #[.int .i64 a0_0, .int .i64 a0_1, .int .i64 a0_2, .slice A0_3 l0_3.length c0_3] 64 (0, 0)) (by (with_reducible repeat (first | refine zc3 ?_ _ | refine zc4 ?_ | refine zc2 ?_ _)); exact BK173.out) hb)
     have n2_ := zA (zb5 (by repeat (first | (with_reducible first | exact HB.out | apply zb3 | apply zb1 | apply zb2 | refine zb4 ?_ GE173.out) | exact HB.out)) hb)
     clear HO_13
     clear BK173
     clear HB
     have HO_13 := n0_
     have BK173 := n1_
     have HB := n2_
     clear n0_ n1_ n2_
     (try clear hb)
     (try clear hb2)
     (try clear hk)
     (try clear hi)
     refine hK.out _ _ ⟨(zc1 BK173.out 0).trans rfl, (zc1 BK173.out 1).trans rfl, (zc1 BK173.out 2).trans rfl, (zc1 BK173.out 3).trans rfl, HS4_⟩ (fun hHeld => ?_)
     clear hK K
     refine norm_ (a' := ?_) ?_ ?_
     rotate_left
     ·show Act.put _ (some 42) _ = _
      simp only [Act.put, zs1, zs2, zs3, i64_w, i32_w]
      rfl
     refine pure_ (i := 15) (N := some 27) (v := ?_) (a' := ?_) #[true, true, true, true, true, true, true, true, true, true, true, true, true, true, true, true, false, false, false, false, false, false] rfl rfl (any_of HT_.out (by kernel_rfl)) (fun _ _ _ h => h) (Or.inl ⟨by rfl, ?_⟩) ?_ ?_
     rotate_left
     ·intro w'
      go_simp
      with_reducible rfl
     rotate_left
     ·simp only [Act.put, zs1, zs2, zs3, i64_w, i32_w]
      rfl
     refine pure_ (i := 16) (N := some 43) (v := ?_) (a' := ?_) #[true, true, true, true, true, true, true, true, true, true, true, true, true, true, true, true, true, false, false, false, false, false] rfl rfl (any_of HT_.out (by kernel_rfl)) (fun _ _ _ h => h) (Or.inl ⟨by rfl, ?_⟩) ?_ ?_
     rotate_left
     ·intro w'
      go_simp
      with_reducible rfl
     rotate_left
     ·simp only [Act.put, zs1, zs2, zs3, i64_w, i32_w]
      rfl
     refine pure_ (i := 17) (N := some 44) (v := ?_) (a' := ?_) #[true, true, true, true, true, true, true, true, true, true, true, true, true, true, true, true, true, true, false, false, false, false] rfl rfl (any_of HT_.out (by kernel_rfl)) (fun _ _ _ h => h) (Or.inl ⟨by rfl, ?_⟩) ?_ ?_
     rotate_left
     ·intro w'
      go_simp
      with_reducible rfl
     rotate_left
     ·simp only [Act.put, zs1, zs2, zs3, i64_w, i32_w]
      rfl
     refine pure_ (i := 18) (N := some 45) (v := ?_) (a' := ?_) #[true, true, true, true, true, true, true, true, true, true, true, true, true, true, true, true, true, true, true, false, false, false] rfl rfl (any_of HT_.out (by kernel_rfl)) (fun _ _ _ h => h) (Or.inl ⟨by rfl, ?_⟩) ?_ ?_
     rotate_left
     ·intro w'
      go_simp
      with_reducible rfl
     rotate_left
     ·simp only [Act.put, zs1, zs2, zs3, i64_w, i32_w]
      rfl
     refine pure_ (i := 19) (N := some 15) (v := ?_) (a' := ?_) #[true, true, true, true, true, true, true, true, true, true, true, true, true, true, true, true, true, true, true, true, false, false] rfl rfl (any_of HT_.out (by kernel_rfl)) (fun _ _ _ h => h) (Or.inl ⟨by rfl, ?_⟩) ?_ ?_
     rotate_left
     ·intro w'
      go_simp
      with_reducible rfl
     rotate_left
     ·simp only [Act.put, zs1, zs2, zs3, i64_w, i32_w]
      rfl
     refine pure_ (i := 20) (N := some 16) (v := ?_) (a' := ?_) #[true, true, true, true, true, true, true, true, true, true, true, true, true, true, true, true, true, true, true, true, true, false] rfl rfl (any_of HT_.out (by kernel_rfl)) (fun _ _ _ h => h) (Or.inl ⟨by rfl, ?_⟩) ?_ ?_
     rotate_left
     ·intro w'
      go_simp
      with_reducible rfl
     rotate_left
     ·simp only [Act.put, zs1, zs2, zs3, i64_w, i32_w]
      rfl
     refine pure_ (i := 21) (N := some 17) (v := ?_) (a' := ?_) #[true, true, true, true, true, true, true, true, true, true, true, true, true, true, true, true, true, true, true, true, true, true] rfl rfl (any_of HT_.out (by kernel_rfl)) (fun _ _ _ h => h) (Or.inl ⟨by rfl, ?_⟩) ?_ ?_
     rotate_left
     ·intro w'
      go_simp
      with_reducible rfl
     rotate_left
     ·simp only [Act.put, zs1, zs2, zs3, i64_w, i32_w]
      rfl
     refine done_ (done_of HT_.out (by kernel_rfl)) ?_
     go_upto_region 7 with (fail)
     go_cut [66] (fun v66 wc => ∃ (kq : Nat) (x66_12 : Bool), v66 = .bool x66_12 ∧ Aside0 (remoraref07_Index_Pick.j1 kq a2 a3 a4 x12_1 t174 x14_1 x66_12 a0_0 a0_1 a0_2 l0_3 = some (r1, r2)) ∧ Aside0 (kq ≤ k1) ∧ Aside0 (Kd.R (Kd.int .i64) 3 wc w.heap.size (fun _ => True) (.slice (some ad177) t174.length co14) t174) ∧ Aside0 (wc.heap[g]? = some (.cells #[.int .i64 a0_0, .int .i64 a0_1, .int .i64 a0_2, (.slice A0_3 l0_3.length c0_3)] 64 (0, 0))) ∧ Aside0 (Below w.heap.size w wc))
     case first =>
      have H := HC13.out
      clear HC13
      by_cases c17 : 0 ≤ (rd t174 x14_1)
      ·rw [if_pos c17] at H
       have c17b0 : decide (0 ≤ (rd t174 x14_1)) = true := zd1 c17
       clear c17
       (first | rw [c17b0] | (simp only [i64_w, i32_w]; rw [c17b0]) | skip)
       by_cases c18 : (rd t174 x14_1) < (l0_3.length : Int)
       ·rw [if_pos c18] at H
        have c18b0 : decide ((rd t174 x14_1) < (l0_3.length : Int)) = true := zd1 c18
        clear c18
        by_cases c19 : ((rd_T44 l0_3 (rd t174 x14_1)).f1).toList = a2.toList
        ·rw [if_pos c19] at H
         have c19b0 : (((rd_T44 l0_3 (rd t174 x14_1)).f1).toList == a2.toList) = true := beq_iff_eq.mpr c19
         have c19b1 : (((rd_T44 l0_3 (rd t174 x14_1)).f1).toList != a2.toList) = false := bne_eq_false_iff_eq.mpr c19
         clear c19
         have H' := zA H
         clear H
         try go_wp2
         have n0_ := zA (Kd.R_drew HO_13.out)
         have n1_ := zA (zc4 BK173.out)
         have n2_ := zA (zb2 HB.out)
         clear HO_13
         clear BK173
         clear HB
         have HO_13 := n0_
         have BK173 := n1_
         have HB := n2_
         clear n0_ n1_ n2_
         have p181 : 0 ≤ (x14_1 : Int) := zd3 (by first | (with_reducible assumption) | assumption)
         have q181 : x14_1 < (t174.length : Int) := zd3 (by first | (with_reducible assumption) | assumption)
         obtain ⟨ad181, e181, hx181_0⟩ := Kd.at_int (Kd.R_reads' HO_13.out).2.2 x14_1 p181 q181
         obtain rfl : ad177 = ad181 := (by injection e181)
         replace p181 := eq_true p181
         replace q181 := eq_true q181
         have p182 : 0 ≤ ((rd t174 x14_1) : Int) := zd3 (by first | (with_reducible assumption) | assumption)
         have q182 : (rd t174 x14_1) < (l0_3.length : Int) := zd3 (by first | (with_reducible assumption) | assumption)
         obtain ⟨ad182, e182, hx182_0, hx182_1⟩ := at_T44 HR0_3.out (rd t174 x14_1) p182 q182
         have hw182_1 := hx182_1
         have hw182_0 := hx182_0
         cases e182
         replace hx182_0 := (HB.out.cell (World.block_lt_of_cell? w _ hx182_0)).trans hx182_0
         replace hx182_1 := (HB.out.cell (World.block_lt_of_cell? w _ hx182_1)).trans hx182_1
         replace p182 := eq_true p182
         replace q182 := eq_true q182
         refine start_ (n := 21) (S := fun w' => w'.cell? ⟨g, 0, none⟩ = some (.int .i64 a0_0) ∧ w'.cell? ⟨g, 1, none⟩ = some (.int .i64 a0_1) ∧ w'.cell? ⟨g, 2, none⟩ = some (.int .i64 a0_2) ∧ w'.cell? ⟨g, 3, none⟩ = some (.slice (some ad182) l0_3.length c0_3) ∧ w'.cell? (ad177.add (x14_1).toNat) = some (.int .i64 (rd t174 x14_1)) ∧ w'.cell? (ad182.add (((rd t174 x14_1)).toNat * 2)) = some (.int .u32 ((rd_T44 l0_3 (rd t174 x14_1)).f0)) ∧ w'.cell? ⟨(ad182.add (((rd t174 x14_1)).toNat * 2)).block, (ad182.add (((rd t174 x14_1)).toNat * 2)).off + 1, none⟩ = some (.string ((rd_T44 l0_3 (rd t174 x14_1)).f1))) (ds := []) #[false, false, false, false, false, false, false, false, false, false, false, false, false, false, false, false, false, false, false, false, false] (by kernel_rfl) rfl rfl ⟨(zc1 BK173.out 0).trans rfl, (zc1 BK173.out 1).trans rfl, (zc1 BK173.out 2).trans rfl, (zc1 BK173.out 3).trans rfl, hx181_0, ((HB.out.cell (World.block_lt_of_cell? w _ hw182_0)).trans hw182_0), ((HB.out.cell (World.block_lt_of_cell? w _ hw182_1)).trans hw182_1)⟩ (fun hHeld => ?_); refine with_tabW remoraref07_Index_Pick.tab7 remoraref07_Index_Pick.bits7 (fun HT_ HW_ => ?_)
         generalize w16.drew = w20 at HO_13 BK173 HB hx181_0 hx182_0 hx182_1 hHeld ⊢
         refine pure_ (i := 0) (N := some 46) (v := ?_) (a' := ?_) #[true, false, false, false, false, false, false, false, false, false, false, false, false, false, false, false, false, false, false, false, false] rfl rfl (any_of HT_.out (by kernel_rfl)) (fun _ _ _ h => h) (Or.inl ⟨by rfl, ?_⟩) ?_ ?_
         rotate_left
         ·intro w'
          go_simp
          with_reducible rfl
         rotate_left
         ·simp only [Act.put, zs1, zs2, zs3, i64_w, i32_w]
          rfl
         refine pure_ (i := 1) (N := some 47) (v := ?_) (a' := ?_) #[true, true, false, false, false, false, false, false, false, false, false, false, false, false, false, false, false, false, false, false, false] rfl rfl (any_of HT_.out (by kernel_rfl)) (fun _ _ _ h => h) (Or.inl ⟨by rfl, ?_⟩) ?_ ?_
         rotate_left
         ·intro w'
          go_simp
          with_reducible rfl
         rotate_left
         ·simp only [Act.put, zs1, zs2, zs3, i64_w, i32_w]
          rfl
         refine pure_ (i := 2) (N := some 48) (v := ?_) (a' := ?_) #[true, true, true, false, false, false, false, false, false, false, false, false, false, false, false, false, false, false, false, false, false] rfl rfl (any_of HT_.out (by kernel_rfl)) (fun _ _ _ h => h) (Or.inl ⟨by rfl, ?_⟩) ?_ ?_
         rotate_left
         ·intro w'
          go_simp
          with_reducible rfl
         rotate_left
         ·simp only [Act.put, zs1, zs2, zs3, i64_w, i32_w]
          rfl
         refine pure_ (i := 3) (N := some 49) (v := ?_) (a' := ?_) #[true, true, true, true, false, false, false, false, false, false, false, false, false, false, false, false, false, false, false, false, false] rfl rfl (any_of HT_.out (by kernel_rfl)) (fun _ _ _ h => h) (Or.inl ⟨by rfl, ?_⟩) ?_ ?_
         rotate_left
         ·intro w'
          go_simp
          with_reducible rfl
         rotate_left
         ·simp only [Act.put, zs1, zs2, zs3, i64_w, i32_w]
          rfl
         refine pure_ (i := 5) (N := some 51) (v := ?_) (a' := ?_) #[true, true, true, true, false, true, false, false, false, false, false, false, false, false, false, false, false, false, false, false, false] rfl rfl (any_of HT_.out (by kernel_rfl)) (fun _ _ _ h => h) (Or.inl ⟨by rfl, ?_⟩) ?_ ?_
         rotate_left
         ·intro w'
          go_simp
          with_reducible rfl
         rotate_left
         ·simp only [Act.put, zs1, zs2, zs3, i64_w, i32_w]
          rfl
         refine pure_ (i := 6) (N := some 52) (v := ?_) (a' := ?_) #[true, true, true, true, false, true, true, false, false, false, false, false, false, false, false, false, false, false, false, false, false] rfl rfl (any_of HT_.out (by kernel_rfl)) (fun _ _ _ h => h) (Or.inl ⟨by rfl, ?_⟩) ?_ ?_
         rotate_left
         ·intro w'
          go_simp
          with_reducible rfl
         rotate_left
         ·simp only [Act.put, zs1, zs2, zs3, i64_w, i32_w]
          rfl
         refine pure_ (i := 7) (N := some 53) (v := ?_) (a' := ?_) #[true, true, true, true, false, true, true, true, false, false, false, false, false, false, false, false, false, false, false, false, false] rfl rfl (any_of HT_.out (by kernel_rfl)) (fun _ _ _ h => h) (Or.inl ⟨by rfl, ?_⟩) ?_ ?_
         rotate_left
         ·intro w'
          go_simp
          with_reducible rfl
         rotate_left
         ·simp only [Act.put, zs1, zs2, zs3, i64_w, i32_w]
          rfl
         refine pure_ (i := 12) (N := some 58) (v := ?_) (a' := ?_) #[true, true, true, true, false, true, true, true, false, false, false, false, true, false, false, false, false, false, false, false, false] rfl rfl (any_of HT_.out (by kernel_rfl)) (fun _ _ _ h => h) (Or.inl ⟨by rfl, ?_⟩) ?_ ?_
         rotate_left
         ·intro w'
          go_simp
          with_reducible rfl
         rotate_left
         ·simp only [Act.put, zs1, zs2, zs3, i64_w, i32_w]
          rfl
         refine take_ (i := 4) (N := some 50) (v := ?_) (a' := ?_) #[true, true, true, true, true, true, true, true, false, false, false, false, true, false, false, false, false, false, false, false, false] rfl rfl (take_ofW HT_.out HW_.out (by kernel_rfl)) (fun _ _ _ h => h) (Or.inl ⟨by rfl, ?_⟩) hHeld ?_ ?_
         rotate_left
         ·rintro w' ⟨s0, s1, s2, s3, s4, s5, s6⟩
          go_simp
          with_reducible rfl
         rotate_left
         ·simp only [Act.put, zs1, zs2, zs3, i64_w, i32_w]
          rfl
         refine take_ (i := 8) (N := some 54) (v := ?_) (a' := ?_) #[true, true, true, true, true, true, true, true, true, false, false, false, true, false, false, false, false, false, false, false, false] rfl rfl (take_ofW HT_.out HW_.out (by kernel_rfl)) (fun _ _ _ h => h) (Or.inl ⟨by rfl, ?_⟩) hHeld ?_ ?_
         rotate_left
         ·rintro w' ⟨s0, s1, s2, s3, s4, s5, s6⟩
          go_simp
          with_reducible rfl
         rotate_left
         ·simp only [Act.put, zs1, zs2, zs3, i64_w, i32_w]
          rfl
         refine pure_ (i := 9) (N := some 55) (v := ?_) (a' := ?_) #[true, true, true, true, true, true, true, true, true, true, false, false, true, false, false, false, false, false, false, false, false] rfl rfl (any_of HT_.out (by kernel_rfl)) (fun _ _ _ h => h) (Or.inl ⟨by rfl, ?_⟩) ?_ ?_
         rotate_left
         ·intro w'
          go_simp
          with_reducible rfl
         rotate_left
         ·simp only [Act.put, zs1, zs2, zs3, i64_w, i32_w]
          rfl
         refine pure_ (i := 10) (N := some 56) (v := ?_) (a' := ?_) #[true, true, true, true, true, true, true, true, true, true, true, false, true, false, false, false, false, false, false, false, false] rfl rfl (any_of HT_.out (by kernel_rfl)) (fun _ _ _ h => h) (Or.inl ⟨by rfl, ?_⟩) ?_ ?_
         rotate_left
         ·intro w'
          go_simp
          with_reducible rfl
         rotate_left
         ·simp only [Act.put, zs1, zs2, zs3, i64_w, i32_w]
          rfl
         refine take_ (i := 11) (N := some 57) (v := ?_) (a' := ?_) #[true, true, true, true, true, true, true, true, true, true, true, true, true, false, false, false, false, false, false, false, false] rfl rfl (take_ofW HT_.out HW_.out (by kernel_rfl)) (fun _ _ _ h => h) (Or.inl ⟨by rfl, ?_⟩) hHeld ?_ ?_
         rotate_left
         ·rintro w' ⟨s0, s1, s2, s3, s4, s5, s6⟩
          go_simp
          with_reducible rfl
         rotate_left
         ·simp only [Act.put, zs1, zs2, zs3, i64_w, i32_w]
          rfl
         refine pure_ (i := 13) (N := some 59) (v := ?_) (a' := ?_) #[true, true, true, true, true, true, true, true, true, true, true, true, true, true, false, false, false, false, false, false, false] rfl rfl (any_of HT_.out (by kernel_rfl)) (fun _ _ _ h => h) (Or.inl ⟨by rfl, ?_⟩) ?_ ?_
         rotate_left
         ·intro w'
          go_simp
          with_reducible rfl
         rotate_left
         ·simp only [Act.put, zs1, zs2, zs3, i64_w, i32_w]
          rfl
         refine pure_ (i := 14) (N := some 60) (v := ?_) (a' := ?_) #[true, true, true, true, true, true, true, true, true, true, true, true, true, true, true, false, false, false, false, false, false] rfl rfl (any_of HT_.out (by kernel_rfl)) (fun _ _ _ h => h) (Or.inl ⟨by rfl, ?_⟩) ?_ ?_
         rotate_left
         ·intro w'
          go_simp
          with_reducible rfl
         rotate_left
         ·simp only [Act.put, zs1, zs2, zs3, i64_w, i32_w]
          rfl
         refine pure_ (i := 15) (N := some 61) (v := ?_) (a' := ?_) #[true, true, true, true, true, true, true, true, true, true, true, true, true, true, true, true, false, false, false, false, false] rfl rfl (any_of HT_.out (by kernel_rfl)) (fun _ _ _ h => h) (Or.inl ⟨by rfl, ?_⟩) ?_ ?_
         rotate_left
         ·intro w'
          go_simp
          with_reducible rfl
         rotate_left
         ·simp only [Act.put, zs1, zs2, zs3, i64_w, i32_w]
          rfl
         refine pure_ (i := 16) (N := some 62) (v := ?_) (a' := ?_) #[true, true, true, true, true, true, true, true, true, true, true, true, true, true, true, true, true, false, false, false, false] rfl rfl (any_of HT_.out (by kernel_rfl)) (fun _ _ _ h => h) (Or.inl ⟨by rfl, ?_⟩) ?_ ?_
         rotate_left
         ·intro w'
          go_simp
          with_reducible rfl
         rotate_left
         ·simp only [Act.put, zs1, zs2, zs3, i64_w, i32_w]
          rfl
         refine pure_ (i := 17) (N := some 63) (v := ?_) (a' := ?_) #[true, true, true, true, true, true, true, true, true, true, true, true, true, true, true, true, true, true, false, false, false] rfl rfl (any_of HT_.out (by kernel_rfl)) (fun _ _ _ h => h) (Or.inl ⟨by rfl, ?_⟩) ?_ ?_
         rotate_left
         ·intro w'
          go_simp
          with_reducible rfl
         rotate_left
         ·simp only [Act.put, zs1, zs2, zs3, i64_w, i32_w]
          rfl
         refine pure_ (i := 18) (N := some 64) (v := ?_) (a' := ?_) #[true, true, true, true, true, true, true, true, true, true, true, true, true, true, true, true, true, true, true, false, false] rfl rfl (any_of HT_.out (by kernel_rfl)) (fun _ _ _ h => h) (Or.inl ⟨by rfl, ?_⟩) ?_ ?_
         rotate_left
         ·intro w'
          go_simp
          with_reducible rfl
         rotate_left
         ·simp only [Act.put, zs1, zs2, zs3, i64_w, i32_w]
          rfl
         refine pure_ (i := 19) (N := some 65) (v := ?_) (a' := ?_) #[true, true, true, true, true, true, true, true, true, true, true, true, true, true, true, true, true, true, true, true, false] rfl rfl (any_of HT_.out (by kernel_rfl)) (fun _ _ _ h => h) (Or.inl ⟨by rfl, ?_⟩) ?_ ?_
         rotate_left
         ·intro w'
          go_simp
          with_reducible rfl
         rotate_left
         ·simp only [Act.put, zs1, zs2, zs3, i64_w, i32_w]
          rfl
         refine pure_ (i := 20) (N := some 66) (v := ?_) (a' := ?_) #[true, true, true, true, true, true, true, true, true, true, true, true, true, true, true, true, true, true, true, true, true] rfl rfl (any_of HT_.out (by kernel_rfl)) (fun _ _ _ h => h) (Or.inl ⟨by rfl, ?_⟩) ?_ ?_
         rotate_left
         ·intro w'
          go_simp
          with_reducible rfl
         rotate_left
         ·simp only [Act.put, zs1, zs2, zs3, i64_w, i32_w]
          rfl
         refine done_ (done_of HT_.out (by kernel_rfl)) ?_
         try go_wp2
         go_meet
         case rel => exact ⟨_, (((wrap64 (t179 - t178)) != a3)), (by first | rfl | (simp; done) | (simp [*]; done)), H', ⟨by have := HK1.out; first | omega | exact Nat.le_refl _⟩, ⟨by (with_reducible repeat (first | apply Kd.R_alloc | apply Kd.R_drewN | apply Kd.R_drew)); exact HO_13.out⟩, ⟨by (with_reducible repeat (first | refine zc3 ?_ _ | refine zc4 ?_ | refine zc2 ?_ _)); exact BK173.out⟩, ⟨by repeat (first | (with_reducible first | exact HB.out | apply zb3 | apply zb1 | apply zb2 | refine zb4 ?_ GE173.out) | exact HB.out)⟩⟩
        ·rw [if_neg c19] at H
         have c19b0 : (((rd_T44 l0_3 (rd t174 x14_1)).f1).toList == a2.toList) = false := beq_eq_false_iff_ne.mpr c19
         have c19b1 : (((rd_T44 l0_3 (rd t174 x14_1)).f1).toList != a2.toList) = true := bne_iff_ne.mpr c19
         have H' := zA H
         clear H
         try go_wp2
         have n0_ := zA (Kd.R_drew HO_13.out)
         have n1_ := zA (zc4 BK173.out)
         have n2_ := zA (zb2 HB.out)
         clear HO_13
         clear BK173
         clear HB
         have HO_13 := n0_
         have BK173 := n1_
         have HB := n2_
         clear n0_ n1_ n2_
         have p181 : 0 ≤ (x14_1 : Int) := zd3 (by first | (with_reducible assumption) | assumption)
         have q181 : x14_1 < (t174.length : Int) := zd3 (by first | (with_reducible assumption) | assumption)
         obtain ⟨ad181, e181, hx181_0⟩ := Kd.at_int (Kd.R_reads' HO_13.out).2.2 x14_1 p181 q181
         obtain rfl : ad177 = ad181 := (by injection e181)
         replace p181 := eq_true p181
         replace q181 := eq_true q181
         have p182 : 0 ≤ ((rd t174 x14_1) : Int) := zd3 (by first | (with_reducible assumption) | assumption)
         have q182 : (rd t174 x14_1) < (l0_3.length : Int) := zd3 (by first | (with_reducible assumption) | assumption)
         obtain ⟨ad182, e182, hx182_0, hx182_1⟩ := at_T44 HR0_3.out (rd t174 x14_1) p182 q182
         have hw182_1 := hx182_1
         have hw182_0 := hx182_0
         cases e182
         replace hx182_0 := (HB.out.cell (World.block_lt_of_cell? w _ hx182_0)).trans hx182_0
         replace hx182_1 := (HB.out.cell (World.block_lt_of_cell? w _ hx182_1)).trans hx182_1
         replace p182 := eq_true p182
         replace q182 := eq_true q182
         refine start_ (n := 21) (S := fun w' => w'.cell? ⟨g, 0, none⟩ = some (.int .i64 a0_0) ∧ w'.cell? ⟨g, 1, none⟩ = some (.int .i64 a0_1) ∧ w'.cell? ⟨g, 2, none⟩ = some (.int .i64 a0_2) ∧ w'.cell? ⟨g, 3, none⟩ = some (.slice (some ad182) l0_3.length c0_3) ∧ w'.cell? (ad177.add (x14_1).toNat) = some (.int .i64 (rd t174 x14_1)) ∧ w'.cell? (ad182.add (((rd t174 x14_1)).toNat * 2)) = some (.int .u32 ((rd_T44 l0_3 (rd t174 x14_1)).f0)) ∧ w'.cell? ⟨(ad182.add (((rd t174 x14_1)).toNat * 2)).block, (ad182.add (((rd t174 x14_1)).toNat * 2)).off + 1, none⟩ = some (.string ((rd_T44 l0_3 (rd t174 x14_1)).f1))) (ds := []) #[false, false, false, false, false, false, false, false, false, false, false, false, false, false, false, false, false, false, false, false, false] (by kernel_rfl) rfl rfl ⟨(zc1 BK173.out 0).trans rfl, (zc1 BK173.out 1).trans rfl, (zc1 BK173.out 2).trans rfl, (zc1 BK173.out 3).trans rfl, hx181_0, ((HB.out.cell (World.block_lt_of_cell? w _ hw182_0)).trans hw182_0), ((HB.out.cell (World.block_lt_of_cell? w _ hw182_1)).trans hw182_1)⟩ (fun hHeld => ?_); refine with_tabW remoraref07_Index_Pick.tab7 remoraref07_Index_Pick.bits7 (fun HT_ HW_ => ?_)
         generalize w16.drew = w21 at HO_13 BK173 HB hx181_0 hx182_0 hx182_1 hHeld ⊢
         refine pure_ (i := 0) (N := some 46) (v := ?_) (a' := ?_) #[true, false, false, false, false, false, false, false, false, false, false, false, false, false, false, false, false, false, false, false, false] rfl rfl (any_of HT_.out (by kernel_rfl)) (fun _ _ _ h => h) (Or.inl ⟨by rfl, ?_⟩) ?_ ?_
         rotate_left
         ·intro w'
          go_simp
          with_reducible rfl
         rotate_left
         ·simp only [Act.put, zs1, zs2, zs3, i64_w, i32_w]
          rfl
         refine pure_ (i := 1) (N := some 47) (v := ?_) (a' := ?_) #[true, true, false, false, false, false, false, false, false, false, false, false, false, false, false, false, false, false, false, false, false] rfl rfl (any_of HT_.out (by kernel_rfl)) (fun _ _ _ h => h) (Or.inl ⟨by rfl, ?_⟩) ?_ ?_
         rotate_left
         ·intro w'
          go_simp
          with_reducible rfl
         rotate_left
         ·simp only [Act.put, zs1, zs2, zs3, i64_w, i32_w]
          rfl
         refine pure_ (i := 2) (N := some 48) (v := ?_) (a' := ?_) #[true, true, true, false, false, false, false, false, false, false, false, false, false, false, false, false, false, false, false, false, false] rfl rfl (any_of HT_.out (by kernel_rfl)) (fun _ _ _ h => h) (Or.inl ⟨by rfl, ?_⟩) ?_ ?_
         rotate_left
         ·intro w'
          go_simp
          with_reducible rfl
         rotate_left
         ·simp only [Act.put, zs1, zs2, zs3, i64_w, i32_w]
          rfl
         refine pure_ (i := 3) (N := some 49) (v := ?_) (a' := ?_) #[true, true, true, true, false, false, false, false, false, false, false, false, false, false, false, false, false, false, false, false, false] rfl rfl (any_of HT_.out (by kernel_rfl)) (fun _ _ _ h => h) (Or.inl ⟨by rfl, ?_⟩) ?_ ?_
         rotate_left
         ·intro w'
          go_simp
          with_reducible rfl
         rotate_left
         ·simp only [Act.put, zs1, zs2, zs3, i64_w, i32_w]
          rfl
         refine pure_ (i := 5) (N := some 51) (v := ?_) (a' := ?_) #[true, true, true, true, false, true, false, false, false, false, false, false, false, false, false, false, false, false, false, false, false] rfl rfl (any_of HT_.out (by kernel_rfl)) (fun _ _ _ h => h) (Or.inl ⟨by rfl, ?_⟩) ?_ ?_
         rotate_left
         ·intro w'
          go_simp
          with_reducible rfl
         rotate_left
         ·simp only [Act.put, zs1, zs2, zs3, i64_w, i32_w]
          rfl
         refine pure_ (i := 6) (N := some 52) (v := ?_) (a' := ?_) #[true, true, true, true, false, true, true, false, false, false, false, false, false, false, false, false, false, false, false, false, false] rfl rfl (any_of HT_.out (by kernel_rfl)) (fun _ _ _ h => h) (Or.inl ⟨by rfl, ?_⟩) ?_ ?_
         rotate_left
         ·intro w'
          go_simp
          with_reducible rfl
         rotate_left
         ·simp only [Act.put, zs1, zs2, zs3, i64_w, i32_w]
          rfl
         refine pure_ (i := 7) (N := some 53) (v := ?_) (a' := ?_) #[true, true, true, true, false, true, true, true, false, false, false, false, false, false, false, false, false, false, false, false, false] rfl rfl (any_of HT_.out (by kernel_rfl)) (fun _ _ _ h => h) (Or.inl ⟨by rfl, ?_⟩) ?_ ?_
         rotate_left
         ·intro w'
          go_simp
          with_reducible rfl
         rotate_left
         ·simp only [Act.put, zs1, zs2, zs3, i64_w, i32_w]
          rfl
         refine pure_ (i := 12) (N := some 58) (v := ?_) (a' := ?_) #[true, true, true, true, false, true, true, true, false, false, false, false, true, false, false, false, false, false, false, false, false] rfl rfl (any_of HT_.out (by kernel_rfl)) (fun _ _ _ h => h) (Or.inl ⟨by rfl, ?_⟩) ?_ ?_
         rotate_left
         ·intro w'
          go_simp
          with_reducible rfl
         rotate_left
         ·simp only [Act.put, zs1, zs2, zs3, i64_w, i32_w]
          rfl
         refine take_ (i := 4) (N := some 50) (v := ?_) (a' := ?_) #[true, true, true, true, true, true, true, true, false, false, false, false, true, false, false, false, false, false, false, false, false] rfl rfl (take_ofW HT_.out HW_.out (by kernel_rfl)) (fun _ _ _ h => h) (Or.inl ⟨by rfl, ?_⟩) hHeld ?_ ?_
         rotate_left
         ·rintro w' ⟨s0, s1, s2, s3, s4, s5, s6⟩
          go_simp
          with_reducible rfl
         rotate_left
         ·simp only [Act.put, zs1, zs2, zs3, i64_w, i32_w]
          rfl
         refine take_ (i := 8) (N := some 54) (v := ?_) (a' := ?_) #[true, true, true, true, true, true, true, true, true, false, false, false, true, false, false, false, false, false, false, false, false] rfl rfl (take_ofW HT_.out HW_.out (by kernel_rfl)) (fun _ _ _ h => h) (Or.inl ⟨by rfl, ?_⟩) hHeld ?_ ?_
         rotate_left
         ·rintro w' ⟨s0, s1, s2, s3, s4, s5, s6⟩
          go_simp
          with_reducible rfl
         rotate_left
         ·simp only [Act.put, zs1, zs2, zs3, i64_w, i32_w]
          rfl
         refine pure_ (i := 9) (N := some 55) (v := ?_) (a' := ?_) #[true, true, true, true, true, true, true, true, true, true, false, false, true, false, false, false, false, false, false, false, false] rfl rfl (any_of HT_.out (by kernel_rfl)) (fun _ _ _ h => h) (Or.inl ⟨by rfl, ?_⟩) ?_ ?_
         rotate_left
         ·intro w'
          go_simp
          with_reducible rfl
         rotate_left
         ·simp only [Act.put, zs1, zs2, zs3, i64_w, i32_w]
          rfl
         refine pure_ (i := 10) (N := some 56) (v := ?_) (a' := ?_) #[true, true, true, true, true, true, true, true, true, true, true, false, true, false, false, false, false, false, false, false, false] rfl rfl (any_of HT_.out (by kernel_rfl)) (fun _ _ _ h => h) (Or.inl ⟨by rfl, ?_⟩) ?_ ?_
         rotate_left
         ·intro w'
          go_simp
          with_reducible rfl
         rotate_left
         ·simp only [Act.put, zs1, zs2, zs3, i64_w, i32_w]
          rfl
         refine take_ (i := 11) (N := some 57) (v := ?_) (a' := ?_) #[true, true, true, true, true, true, true, true, true, true, true, true, true, false, false, false, false, false, false, false, false] rfl rfl (take_ofW HT_.out HW_.out (by kernel_rfl)) (fun _ _ _ h => h) (Or.inl ⟨by rfl, ?_⟩) hHeld ?_ ?_
         rotate_left
         ·rintro w' ⟨s0, s1, s2, s3, s4, s5, s6⟩
          go_simp
          with_reducible rfl
         rotate_left
         ·simp only [Act.put, zs1, zs2, zs3, i64_w, i32_w]
          rfl
         refine pure_ (i := 13) (N := some 59) (v := ?_) (a' := ?_) #[true, true, true, true, true, true, true, true, true, true, true, true, true, true, false, false, false, false, false, false, false] rfl rfl (any_of HT_.out (by kernel_rfl)) (fun _ _ _ h => h) (Or.inl ⟨by rfl, ?_⟩) ?_ ?_
         rotate_left
         ·intro w'
          go_simp
          with_reducible rfl
         rotate_left
         ·simp only [Act.put, zs1, zs2, zs3, i64_w, i32_w]
          rfl
         refine pure_ (i := 14) (N := some 60) (v := ?_) (a' := ?_) #[true, true, true, true, true, true, true, true, true, true, true, true, true, true, true, false, false, false, false, false, false] rfl rfl (any_of HT_.out (by kernel_rfl)) (fun _ _ _ h => h) (Or.inl ⟨by rfl, ?_⟩) ?_ ?_
         rotate_left
         ·intro w'
          go_simp
          with_reducible rfl
         rotate_left
         ·simp only [Act.put, zs1, zs2, zs3, i64_w, i32_w]
          rfl
         refine pure_ (i := 15) (N := some 61) (v := undef) (a' := ?_) #[true, true, true, true, true, true, true, true, true, true, true, true, true, true, true, true, false, false, false, false, false] rfl rfl (any_of HT_.out (by kernel_rfl)) (fun _ _ _ h => h) (Or.inr ⟨by rfl, rfl⟩) ?_ ?_
         rotate_left
         ·simp only [Act.put, zs1, zs2, zs3, i64_w, i32_w]
          rfl
         refine pure_ (i := 16) (N := some 62) (v := undef) (a' := ?_) #[true, true, true, true, true, true, true, true, true, true, true, true, true, true, true, true, true, false, false, false, false] rfl rfl (any_of HT_.out (by kernel_rfl)) (fun _ _ _ h => h) (Or.inr ⟨by rfl, rfl⟩) ?_ ?_
         rotate_left
         ·simp only [Act.put, zs1, zs2, zs3, i64_w, i32_w]
          rfl
         refine pure_ (i := 17) (N := some 63) (v := undef) (a' := ?_) #[true, true, true, true, true, true, true, true, true, true, true, true, true, true, true, true, true, true, false, false, false] rfl rfl (any_of HT_.out (by kernel_rfl)) (fun _ _ _ h => h) (Or.inr ⟨by rfl, rfl⟩) ?_ ?_
         rotate_left
         ·simp only [Act.put, zs1, zs2, zs3, i64_w, i32_w]
          rfl
         refine pure_ (i := 18) (N := some 64) (v := undef) (a' := ?_) #[true, true, true, true, true, true, true, true, true, true, true, true, true, true, true, true, true, true, true, false, false] rfl rfl (any_of HT_.out (by kernel_rfl)) (fun _ _ _ h => h) (Or.inr ⟨by rfl, rfl⟩) ?_ ?_
         rotate_left
         ·simp only [Act.put, zs1, zs2, zs3, i64_w, i32_w]
          rfl
         refine pure_ (i := 19) (N := some 65) (v := undef) (a' := ?_) #[true, true, true, true, true, true, true, true, true, true, true, true, true, true, true, true, true, true, true, true, false] rfl rfl (any_of HT_.out (by kernel_rfl)) (fun _ _ _ h => h) (Or.inr ⟨by rfl, rfl⟩) ?_ ?_
         rotate_left
         ·simp only [Act.put, zs1, zs2, zs3, i64_w, i32_w]
          rfl
         refine pure_ (i := 20) (N := some 66) (v := ?_) (a' := ?_) #[true, true, true, true, true, true, true, true, true, true, true, true, true, true, true, true, true, true, true, true, true] rfl rfl (any_of HT_.out (by kernel_rfl)) (fun _ _ _ h => h) (Or.inl ⟨by rfl, ?_⟩) ?_ ?_
         rotate_left
         ·intro w'
          go_simp
          with_reducible rfl
         rotate_left
         ·simp only [Act.put, zs1, zs2, zs3, i64_w, i32_w]
          rfl
         refine done_ (done_of HT_.out (by kernel_rfl)) ?_
         try go_wp2
         go_meet
         case rel => exact ⟨_, (true), (by first | rfl | (simp; done) | (simp [*]; done)), H', ⟨by have := HK1.out; first | omega | exact Nat.le_refl _⟩, ⟨by (with_reducible repeat (first | apply Kd.R_alloc | apply Kd.R_drewN | apply Kd.R_drew)); exact HO_13.out⟩, ⟨by (with_reducible repeat (first | refine zc3 ?_ _ | refine zc4 ?_ | refine zc2 ?_ _)); exact BK173.out⟩, ⟨by repeat (first | (with_reducible first | exact HB.out | apply zb3 | apply zb1 | apply zb2 | refine zb4 ?_ GE173.out) | exact HB.out)⟩⟩
       ·rw [if_neg c18] at H
        exact absurd H (by simp)
      ·rw [if_neg c17] at H
       exact absurd H (by simp)
     case rest =>
      clear HC13
      try clear c1
      try clear p1
      try clear q1
      try clear hx1
      try clear c2
      try clear p2
      try clear p6
      try clear c17
      try clear c17b0
      try clear c18
      try clear c18b0
      try clear p18
      try clear q18
      try clear hx18
      try clear c19
      try clear c19b0
      try clear c19b1
      try clear hx181_0
      try clear hx182_0
      try clear hx182_1
      try clear p181
      try clear p182
      try clear q181
      try clear q182
      obtain ⟨kq, x66_12, rfl, HA, HJ12, HO_13, BK173, HB⟩ := hcut
      cases kq with
      | zero => exact absurd HA.out (by simp [remoraref07_Index_Pick.j1])
      | succ kj12 =>
       have H := HA.out
       clear HA
       simp only [remoraref07_Index_Pick.j1] at H
       by_cases c22 : x66_12 = true
       ·subst c22
        have H1 : (remoraref07_Index_Pick.l0 kj12 a2 a3 a4 x12_1 t174 (wrap64 (x14_1 + 1)) a0_0 a0_1 a0_2 l0_3) = some (r1, r2) := by rw [if_pos rfl] at H; exact H
        clear H
        have H := H1
        clear H1
        have H' := zA H
        clear H
        go_wp2
        go_roundg kj12
        case measure => have := HK1.out; have := HJ12.out; omega
        case rel => exact ⟨(x12_1), (wrap64 (x14_1 + 1)), (by first | rfl | (simp; done) | (simp [*]; done)), (by first | rfl | (simp; done) | (simp [*]; done)), H', ⟨by have := HK1.out; have := HJ12.out; omega⟩, ⟨by (with_reducible repeat (first | apply Kd.R_alloc | apply Kd.R_drewN | apply Kd.R_drew)); exact HO_13.out⟩, ⟨by (with_reducible repeat (first | refine zc3 ?_ _ | refine zc4 ?_ | refine zc2 ?_ _)); exact BK173.out⟩, ⟨by repeat (first | (with_reducible first | exact HB.out | apply zb3 | apply zb1 | apply zb2 | refine zb4 ?_ GE173.out) | exact HB.out)⟩⟩
       ·replace c22 := Bool.eq_false_iff.mpr c22
        subst c22
        have H1 : (if 0 ≤ x14_1 then (if x14_1 < (t174.length : Int) then (if (rd t174 x14_1) = a4 then (some (a4, true)) else (if x12_1 < 0 then (remoraref07_Index_Pick.l0 kj12 a2 a3 a4 (rd t174 x14_1) t174 (wrap64 (x14_1 + 1)) a0_0 a0_1 a0_2 l0_3) else (remoraref07_Index_Pick.l0 kj12 a2 a3 a4 x12_1 t174 (wrap64 (x14_1 + 1)) a0_0 a0_1 a0_2 l0_3))) else (none)) else (none)) = some (r1, r2) := by rw [if_neg (show ¬ (false = true) by decide)] at H; exact H
        clear H
        have H := H1
        clear H1
        by_cases c23 : 0 ≤ x14_1
        ·rw [if_pos c23] at H
         have c23b0 : decide (0 ≤ x14_1) = true := zd1 c23
         clear c23
         by_cases c24 : x14_1 < (t174.length : Int)
         ·rw [if_pos c24] at H
          have c24b0 : decide (x14_1 < (t174.length : Int)) = true := zd1 c24
          clear c24
          by_cases c25 : (rd t174 x14_1) = a4
          ·rw [if_pos c25] at H
           have c25b0 : ((rd t174 x14_1) == a4) = true := beq_iff_eq.mpr c25
           have c25b1 : ((rd t174 x14_1) != a4) = false := bne_eq_false_iff_eq.mpr c25
           clear c25
           simp only [Option.some.injEq, Prod.mk.injEq] at H
           obtain ⟨rfl, rfl⟩ := H
           have p183 : 0 ≤ (x14_1 : Int) := zd3 (by first | (with_reducible assumption) | assumption)
           have q183 : x14_1 < (t174.length : Int) := zd3 (by first | (with_reducible assumption) | assumption)
           obtain ⟨ad183, e183, hx183_0⟩ := Kd.at_int (Kd.R_reads' HO_13.out).2.2 x14_1 p183 q183
           obtain rfl : ad177 = ad183 := (by injection e183)
           replace p183 := eq_true p183
           replace q183 := eq_true q183
           go_wp2
           go_ret2
           exact ⟨by first | rfl | (simp [*] <;> rfl), by repeat (first | (with_reducible first | exact HB.out | apply zb3 | apply zb1 | apply zb2 | refine zb4 ?_ GE173.out) | exact HB.out)⟩
          ·rw [if_neg c25] at H
           have c25b0 : ((rd t174 x14_1) == a4) = false := beq_eq_false_iff_ne.mpr c25
           have c25b1 : ((rd t174 x14_1) != a4) = true := bne_iff_ne.mpr c25
           by_cases c26 : x12_1 < 0
           ·rw [if_pos c26] at H
            have c26b0 : decide (x12_1 < 0) = true := zd1 c26
            clear c26
            have H' := zA H
            clear H
            have p183 : 0 ≤ (x14_1 : Int) := zd3 (by first | (with_reducible assumption) | assumption)
            have q183 : x14_1 < (t174.length : Int) := zd3 (by first | (with_reducible assumption) | assumption)
            obtain ⟨ad183, e183, hx183_0⟩ := Kd.at_int (Kd.R_reads' HO_13.out).2.2 x14_1 p183 q183
            obtain rfl : ad177 = ad183 := (by injection e183)
            replace p183 := eq_true p183
            replace q183 := eq_true q183
            have p184 : 0 ≤ (x14_1 : Int) := zd3 (by first | (with_reducible assumption) | assumption)
            have q184 : x14_1 < (t174.length : Int) := zd3 (by first | (with_reducible assumption) | assumption)
            obtain ⟨ad184, e184, hx184_0⟩ := Kd.at_int (Kd.R_reads' HO_13.out).2.2 x14_1 p184 q184
            obtain rfl : ad177 = ad184 := (by injection e184)
            replace p184 := eq_true p184
            replace q184 := eq_true q184
            go_wp2
            go_roundg kj12
            case measure => have := HK1.out; have := HJ12.out; omega
            case rel => exact ⟨(rd t174 x14_1), (wrap64 (x14_1 + 1)), (by first | rfl | (simp; done) | (simp [*]; done)), (by first | rfl | (simp; done) | (simp [*]; done)), H', ⟨by have := HK1.out; have := HJ12.out; omega⟩, ⟨by (with_reducible repeat (first | apply Kd.R_alloc | apply Kd.R_drewN | apply Kd.R_drew)); exact HO_13.out⟩, ⟨by (with_reducible repeat (first | refine zc3 ?_ _ | refine zc4 ?_ | refine zc2 ?_ _)); exact BK173.out⟩, ⟨by repeat (first | (with_reducible first | exact HB.out | apply zb3 | apply zb1 | apply zb2 | refine zb4 ?_ GE173.out) | exact HB.out)⟩⟩
           ·rw [if_neg c26] at H
            have c26b0 : decide (x12_1 < 0) = false := zd2 c26
            clear c26
            have H' := zA H
            clear H
            have p183 : 0 ≤ (x14_1 : Int) := zd3 (by first | (with_reducible assumption) | assumption)
            have q183 : x14_1 < (t174.length : Int) := zd3 (by first | (with_reducible assumption) | assumption)
            obtain ⟨ad183, e183, hx183_0⟩ := Kd.at_int (Kd.R_reads' HO_13.out).2.2 x14_1 p183 q183
            obtain rfl : ad177 = ad183 := (by injection e183)
            replace p183 := eq_true p183
            replace q183 := eq_true q183
            go_wp2
            go_roundg kj12
            case measure => have := HK1.out; have := HJ12.out; omega
            case rel => exact ⟨(x12_1), (wrap64 (x14_1 + 1)), (by first | rfl | (simp; done) | (simp [*]; done)), (by first | rfl | (simp; done) | (simp [*]; done)), H', ⟨by have := HK1.out; have := HJ12.out; omega⟩, ⟨by (with_reducible repeat (first | apply Kd.R_alloc | apply Kd.R_drewN | apply Kd.R_drew)); exact HO_13.out⟩, ⟨by (with_reducible repeat (first | refine zc3 ?_ _ | refine zc4 ?_ | refine zc2 ?_ _)); exact BK173.out⟩, ⟨by repeat (first | (with_reducible first | exact HB.out | apply zb3 | apply zb1 | apply zb2 | refine zb4 ?_ GE173.out) | exact HB.out)⟩⟩
         ·rw [if_neg c24] at H
          exact absurd H (by simp)
        ·rw [if_neg c23] at H
         exact absurd H (by simp)
    ·rw [if_neg c11] at H
     exact absurd H (by simp)
   ·rw [if_neg c10] at H
    have c10b0 : decide (x14_1 < (t174.length : Int)) = false := zd2 c10
    clear c10
    obtain ⟨ji27, hji27⟩ : ∃ j_ : Int, (mx x12_1 0) = j_ := ⟨_, rfl⟩
    replace H : (some (ji27, decide (x12_1 ≥ 0))) = some (r1, r2) := by first | (rw [hji27] at H; exact H) | (simp only [hji27] at H ⊢; exact H)
    have hji27_ : (if x12_1 < 0 then 0 else x12_1) = ji27 := hji27
    simp only [Option.some.injEq, Prod.mk.injEq] at H
    obtain ⟨rfl, rfl⟩ := H
    obtain ⟨Ao28, co28, eo28⟩ := Kd.R_slice HO_13.out
    subst eo28
    go_wp2
    go_ret2
    exact ⟨by first | rfl | (simp [errW_none, errW_some] <;> rfl) | (simp only [← hji27]; first | rfl | (simp [errW_none, errW_some] <;> rfl)) | (simp [*, errW_none, errW_some] <;> rfl), by repeat (first | (with_reducible first | exact HB.out | apply zb3 | apply zb1 | apply zb2 | refine zb4 ?_ GE173.out) | exact HB.out)⟩

end Go.Proofs.Ytlndkemblbbfaaa.PIndexPicks
