-- Written by a program of this session (the kit's printer with hand-written contracts among its functions).
-- squeezed
import Derived.Test.YtlndkemblbbfaaaPIndexFindsx0
namespace Go.Proofs.Ytlndkemblbbfaaa.PIndexFinds
open Go.RowKit Go.Proofs.YtlndkemblbbfaaaW.PrintWords Go.Proofs.YtlndkemblbbfaaaW.PrintLast Go.Proofs.YtlndkemblbbfaaaW.PrintMore
attribute [local go_sem] max2_int min2_int max_two min_two max_three min_three max_four min_four   -- for this text's walks alone
set_option linter.unusedVariables false
set_option linter.unusedSimpArgs false

/-! ### remoraref07_Index_Find: function 19 -/
def remoraref07_Index_Find.l0 : Nat → Int → List Int → Int → Int → Int → Int → List (S44) → Option (List Int)
 | 0, _, _, _, _, _, _, _ => none
 | k + 1, x1, x5, x6, x168000, x168001, x168002, x168003 => if x6 < (x168003.length : Int) then (if 0 ≤ x6 then (if ((rd_T44 x168003 x6).f0) = x1 then (if x5.length < 17592186044416 then (remoraref07_Index_Find.l0 k x1 (x5 ++ [x6]) (wrap64 (x6 + 1)) x168000 x168001 x168002 x168003) else (none)) else (remoraref07_Index_Find.l0 k x1 x5 (wrap64 (x6 + 1)) x168000 x168001 x168002 x168003)) else (none)) else (some x5)
def remoraref07_Index_Find.f (k : Nat) (a0_0 : Int) (a0_1 : Int) (a0_2 : Int) (l0_3 : List (S44)) (a1 : Int) : Option (List Int) := remoraref07_Index_Find.l0 k a1 ([] : List Int) 0 a0_0 a0_1 a0_2 l0_3
theorem remoraref07_Index_Find.mono_l : ∀ k, (∀ y0 y1 y2 y3 y4 y5 y6, LeO (remoraref07_Index_Find.l0 k y0 y1 y2 y3 y4 y5 y6) (remoraref07_Index_Find.l0 (k + 1) y0 y1 y2 y3 y4 y5 y6))
 | 0 => fun _ _ _ _ _ _ _ r h => by simp [remoraref07_Index_Find.l0] at h
 | k + 1 => by
  have ih0 := remoraref07_Index_Find.mono_l k
  ·intro y0 y1 y2 y3 y4 y5 y6
   unfold remoraref07_Index_Find.l0
   repeat' first
   | (with_reducible exact ih0 _ _ _ _ _ _ _)
   | (with_reducible exact LeO.refl _)
   | (with_reducible exact LeO.none _)
   | (with_reducible refine LeO.ite ?_ ?_)
   | (with_reducible refine LeO.bind ?_ (fun _ => ?_))
   | exact ih0 _ _ _ _ _ _ _
   | exact LeO.none _
   | refine LeO.ite ?_ ?_
   | refine LeO.bind ?_ (fun _ => ?_)
theorem remoraref07_Index_Find.mono : ∀ a0 a1 a2 a3 a4 k, LeO (remoraref07_Index_Find.f k a0 a1 a2 a3 a4) (remoraref07_Index_Find.f (k + 1) a0 a1 a2 a3 a4) := by
 intro a0 a1 a2 a3 a4 k
 have ih0 := remoraref07_Index_Find.mono_l k
 unfold remoraref07_Index_Find.f
 repeat' first
     | (with_reducible exact ih0 _ _ _ _ _ _ _)
     | (with_reducible exact LeO.refl _)
     | (with_reducible exact LeO.none _)
     | (with_reducible refine LeO.ite ?_ ?_)
     | (with_reducible refine LeO.bind ?_ (fun _ => ?_))
     | exact ih0 _ _ _ _ _ _ _
     | exact LeO.none _
     | refine LeO.ite ?_ ?_
     | refine LeO.bind ?_ (fun _ => ?_)
set_option maxHeartbeats 8000000 in
set_option maxRecDepth 100000 in
theorem remoraref07_Index_Find.calls (g : Nat) (k : Nat) (a0_0 : Int) (a0_1 : Int) (a0_2 : Int) (A0_3 : Option Addr) (c0_3 : Nat) (l0_3 : List (S44)) (a1 : Int) (r : List Int) (w : World) (hr0_3 : Kd.C k44 w A0_3 l0_3.length l0_3) (hc0_3 : l0_3.length ≤ c0_3) (hx : w.heap[g]? = some (.cells #[.int .i64 a0_0, .int .i64 a0_1, .int .i64 a0_2, .slice A0_3 l0_3.length c0_3] 64 (0, 0))) (h : remoraref07_Index_Find.f k a0_0 a0_1 a0_2 l0_3 a1 = some r) :
    Calls Try.prog 19 #[.pointer (some ⟨g, 0, none⟩), .int .u32 a1] w fun e w' => ∃ v0_ : Value, e = .returned (v0_) ∧ Kd.R (Kd.int .i64) 3 w' w.heap.size (fun _ => True) v0_ r ∧ Below w.heap.size w w' := by
 have hu64 := Try.underlying64
 have HR0_3 := zA hr0_3
 have HC0_3 := zA hc0_3
 clear hr0_3 hc0_3
 have HB := zA (Below.refl w.heap.size w)
 have H : (remoraref07_Index_Find.l0 k a1 ([] : List Int) 0 a0_0 a0_1 a0_2 l0_3) = some r := h
 clear h
 have H' := zA H
 clear H
 go_enter Try.func19, Try.ntmps19
 have BK167 := zA hx
 go_wp2_with (first | fail)
 go_loopg [5, 6] k (fun kq v5 v6 w' => ∃ (x5_1 : List Int) (x6_1 : Int), v6 = .int .i64 x6_1 ∧ Aside0 (remoraref07_Index_Find.l0 kq a1 x5_1 x6_1 a0_0 a0_1 a0_2 l0_3 = some r) ∧ Aside0 (kq ≤ k) ∧ Aside0 (Kd.R (Kd.int .i64) 3 w' w.heap.size (fun _ => True) v5 x5_1) ∧ Aside0 (w'.heap[g]? = some (.cells #[.int .i64 a0_0, .int .i64 a0_1, .int .i64 a0_2, (.slice A0_3 l0_3.length c0_3)] 64 (0, 0))) ∧ Aside0 (Below w.heap.size w w'))
 case atStart => exact ⟨(([] : List Int)), (0), (by first | rfl | (simp; done) | (simp [*]; done)), H', ⟨Nat.le_refl _⟩, ⟨by first | exact Kd.R_nil _ _ _ _ _ | exact Kd.N_nil _ _ _ _ _ | exact Kd.V_nil _ _ _ _ _ | exact Kd.Q_nil _ _ _ _ _ | exact Kd.S_nil _ _ _ _ _⟩, ⟨by (with_reducible repeat (first | refine zc3 ?_ _ | refine zc4 ?_ | refine zc2 ?_ _)); exact BK167.out⟩, ⟨by repeat (first | (with_reducible first | exact HB.out | apply zb3 | apply zb1 | apply zb2 | refine zb4 ?_ GE167.out) | exact HB.out)⟩⟩
 case round =>
  clear H'
  try clear c1
  try clear p2
  obtain ⟨x5_1, x6_1, rfl, HA, HK1, HO_5, BK167, HB⟩ := hrel
  cases gk with
  | zero => exact absurd HA.out (by simp [remoraref07_Index_Find.l0])
  | succ k1 =>
   have H := HA.out
   clear HA
   simp only [remoraref07_Index_Find.l0] at H
   by_cases c4 : x6_1 < (l0_3.length : Int)
   ·rw [if_pos c4] at H
    have c4b0 : decide (x6_1 < (l0_3.length : Int)) = true := zd1 c4
    clear c4
    by_cases c5 : 0 ≤ x6_1
    ·rw [if_pos c5] at H
     have c5b0 : decide (0 ≤ x6_1) = true := zd1 c5
     clear c5
     by_cases c6 : ((rd_T44 l0_3 x6_1).f0) = a1
     ·rw [if_pos c6] at H
      have c6b0 : (((rd_T44 l0_3 x6_1).f0) == a1) = true := beq_iff_eq.mpr c6
      have c6b1 : (((rd_T44 l0_3 x6_1).f0) != a1) = false := bne_eq_false_iff_eq.mpr c6
      clear c6
      by_cases c7 : x5_1.length < 17592186044416
      ·rw [if_pos c7] at H
       have LMc7 := zA c7
       clear c7
       obtain ⟨y169, hy169⟩ : ∃ y_ : List Int, y_ = (x5_1 ++ [x6_1]) := ⟨_, rfl⟩
       replace H : (remoraref07_Index_Find.l0 k1 a1 y169 (wrap64 (x6_1 + 1)) a0_0 a0_1 a0_2 l0_3) = some r := by first | (rw [hy169]; with_reducible exact H) | (have H2_ := (Option.bind_some _ _).symm.trans H; rw [hy169]; with_reducible exact H2_) | (have H2_ := (Option.bind_some _ _).symm.trans H; with_reducible exact H2_) | with_reducible exact H | (rw [hy169]; exact H) | exact H
       have Ny169 := zA hy169
       clear hy169
       have H' := zA H
       clear H
       have hcz8_0 : wr.cell? ⟨g, 0, none⟩ = some (.int .i64 a0_0) := (zc1 BK167.out 0).trans rfl
       have hcz8_1 : wr.cell? ⟨g, 1, none⟩ = some (.int .i64 a0_1) := (zc1 BK167.out 1).trans rfl
       have hcz8_2 : wr.cell? ⟨g, 2, none⟩ = some (.int .i64 a0_2) := (zc1 BK167.out 2).trans rfl
       have hcz8_3 : wr.cell? ⟨g, 3, none⟩ = some (.slice A0_3 l0_3.length c0_3) := (zc1 BK167.out 3).trans rfl
       have hfz8_0 := zc5 BK167.out 0
       have hfz8_1 := zc5 BK167.out 1
       have hfz8_2 := zc5 BK167.out 2
       have hfz8_3 := zc5 BK167.out 3
       have p168 : 0 ≤ (x6_1 : Int) := zd3 (by first | (with_reducible assumption) | assumption)
       have q168 : x6_1 < (l0_3.length : Int) := zd3 (by first | (with_reducible assumption) | assumption)
       obtain ⟨ad168, e168, hx168_0, hx168_1⟩ := at_T44 HR0_3.out x6_1 p168 q168
       cases e168
       replace hx168_0 := (HB.out.cell (World.block_lt_of_cell? w _ hx168_0)).trans hx168_0
       replace hx168_1 := (HB.out.cell (World.block_lt_of_cell? w _ hx168_1)).trans hx168_1
       replace p168 := eq_true p168
       replace q168 := eq_true q168
       go_wp2_with (first | ((with_reducible refine gate_builtin (b := .append) (xs := #[.tmp 30, .tmp 32]) rfl ?_); at_builtin; refine Kd.R_append (Kd.int .i64) (w0 := w) w.heap.size rfl (.tmp 30) (.tmp 32) 47 3 (.int .i64 0) 8 rfl Try.underlying47 info3 rfl (by decide) (by omega) u5 x5_1 x6_1 [.int .i64 x6_1] (fun _ => True) (fun _ => False) rfl rfl ?aP (fun _ hk => hk.elim) ?aF ?aO ?aB ?aS ?aL ?_; (case aP => exact rfl); (case aB => exact (by repeat (first | (with_reducible first | exact HB.out | apply zb3 | apply zb1 | apply zb2 | refine zb4 ?_ GE167.out) | exact HB.out))); (case aF => exact (fun _ _ => trivial)); (case aO => exact (by (with_reducible repeat (first | apply Kd.R_alloc | apply Kd.R_drewN | apply Kd.R_drew)); exact HO_5.out)); (case aS => exact (zb6 (by repeat (first | (with_reducible first | exact HB.out | apply zb3 | apply zb1 | apply zb2 | refine zb4 ?_ GE167.out) | exact HB.out)))); (case aL => have := LMc7.out; omega); intro v170 w9 ho hb hg hat; rw [← Ny169.out] at ho; have n0_ := zA (blk_grown (g := g) (o := .cells #[.int .i64 a0_0, .int .i64 a0_1, .int .i64 a0_2, .slice (some ad168) l0_3.length c0_3] 64 (0, 0)) (by (with_reducible repeat (first | refine zc3 ?_ _ | refine zc4 ?_ | refine zc2 ?_ _)); exact BK167.out) hg (Kd.R_ne HO_5.out BK167.out (by decide))); have n1_ := zA (hb); have n2_ := zA (ho); clear BK167; clear HB; clear HO_5; have BK167 := n0_; have HB := n1_; have HO171 := n2_; clear n0_ n1_ n2_; clear ho hb hg hat))
       go_roundg k1
       case measure => have := HK1.out; omega
       case rel => exact ⟨(y169), (wrap64 (x6_1 + 1)), (by first | rfl | (simp; done) | (simp [*]; done)), H', ⟨by have := HK1.out; omega⟩, ⟨by (with_reducible repeat (first | apply Kd.R_alloc | apply Kd.R_drewN | apply Kd.R_drew)); exact HO171.out⟩, ⟨by (with_reducible repeat (first | refine zc3 ?_ _ | refine zc4 ?_ | refine zc2 ?_ _)); exact BK167.out⟩, ⟨by repeat (first | (with_reducible first | exact HB.out | apply zb3 | apply zb1 | apply zb2 | refine zb4 ?_ GE167.out) | exact HB.out)⟩⟩
      ·rw [if_neg c7] at H
       exact absurd H (by simp)
     ·rw [if_neg c6] at H
      have c6b0 : (((rd_T44 l0_3 x6_1).f0) == a1) = false := beq_eq_false_iff_ne.mpr c6
      have c6b1 : (((rd_T44 l0_3 x6_1).f0) != a1) = true := bne_iff_ne.mpr c6
      have H' := zA H
      clear H
      have hcz10_0 : wr.cell? ⟨g, 0, none⟩ = some (.int .i64 a0_0) := (zc1 BK167.out 0).trans rfl
      have hcz10_1 : wr.cell? ⟨g, 1, none⟩ = some (.int .i64 a0_1) := (zc1 BK167.out 1).trans rfl
      have hcz10_2 : wr.cell? ⟨g, 2, none⟩ = some (.int .i64 a0_2) := (zc1 BK167.out 2).trans rfl
      have hcz10_3 : wr.cell? ⟨g, 3, none⟩ = some (.slice A0_3 l0_3.length c0_3) := (zc1 BK167.out 3).trans rfl
      have hfz10_0 := zc5 BK167.out 0
      have hfz10_1 := zc5 BK167.out 1
      have hfz10_2 := zc5 BK167.out 2
      have hfz10_3 := zc5 BK167.out 3
      have p168 : 0 ≤ (x6_1 : Int) := zd3 (by first | (with_reducible assumption) | assumption)
      have q168 : x6_1 < (l0_3.length : Int) := zd3 (by first | (with_reducible assumption) | assumption)
      obtain ⟨ad168, e168, hx168_0, hx168_1⟩ := at_T44 HR0_3.out x6_1 p168 q168
      cases e168
      replace hx168_0 := (HB.out.cell (World.block_lt_of_cell? w _ hx168_0)).trans hx168_0
      replace hx168_1 := (HB.out.cell (World.block_lt_of_cell? w _ hx168_1)).trans hx168_1
      replace p168 := eq_true p168
      replace q168 := eq_true q168
      go_wp2
      go_roundg k1
      case measure => have := HK1.out; omega
      case rel => exact ⟨(x5_1), (wrap64 (x6_1 + 1)), (by first | rfl | (simp; done) | (simp [*]; done)), H', ⟨by have := HK1.out; omega⟩, ⟨by (with_reducible repeat (first | apply Kd.R_alloc | apply Kd.R_drewN | apply Kd.R_drew)); exact HO_5.out⟩, ⟨by (with_reducible repeat (first | refine zc3 ?_ _ | refine zc4 ?_ | refine zc2 ?_ _)); exact BK167.out⟩, ⟨by repeat (first | (with_reducible first | exact HB.out | apply zb3 | apply zb1 | apply zb2 | refine zb4 ?_ GE167.out) | exact HB.out)⟩⟩
    ·rw [if_neg c5] at H
     exact absurd H (by simp)
   ·rw [if_neg c4] at H
    have c4b0 : decide (x6_1 < (l0_3.length : Int)) = false := zd2 c4
    clear c4
    obtain rfl := Option.some.inj H
    have hcz11_0 : wr.cell? ⟨g, 0, none⟩ = some (.int .i64 a0_0) := (zc1 BK167.out 0).trans rfl
    have hcz11_1 : wr.cell? ⟨g, 1, none⟩ = some (.int .i64 a0_1) := (zc1 BK167.out 1).trans rfl
    have hcz11_2 : wr.cell? ⟨g, 2, none⟩ = some (.int .i64 a0_2) := (zc1 BK167.out 2).trans rfl
    have hcz11_3 : wr.cell? ⟨g, 3, none⟩ = some (.slice A0_3 l0_3.length c0_3) := (zc1 BK167.out 3).trans rfl
    have hfz11_0 := zc5 BK167.out 0
    have hfz11_1 := zc5 BK167.out 1
    have hfz11_2 := zc5 BK167.out 2
    have hfz11_3 := zc5 BK167.out 3
    go_wp2
    go_ret
    exact ⟨_, by first | rfl | (simp [*] <;> rfl), by (with_reducible repeat (first | apply Kd.R_alloc | apply Kd.R_drewN | apply Kd.R_drew)); exact HO_5.out, by repeat (first | (with_reducible first | exact HB.out | apply zb3 | apply zb1 | apply zb2 | refine zb4 ?_ GE167.out) | exact HB.out)⟩

/-! ### index_Index_Len: function 20 -/
def index_Index_Len.f (l0_0 : List (S44)) (a0_1 : Int) (a0_2 : Int) (l0_3 : List (List Int)) : Option (Int) := some (l0_0.length : Int)
set_option maxHeartbeats 8000000 in
set_option maxRecDepth 100000 in
theorem index_Index_Len.calls (g : Nat) (A0_0 : Option Addr) (c0_0 : Nat) (l0_0 : List (S44)) (a0_1 : Int) (a0_2 : Int) (A0_3 : Option Addr) (c0_3 : Nat) (l0_3 : List (List Int)) (r : Int) (w : World) (hr0_0 : Kd.C k44 w A0_0 l0_0.length l0_0) (hc0_0 : l0_0.length ≤ c0_0) (hr0_3 : Kd.C (Kd.slice 3 (Kd.int .i64)) w A0_3 l0_3.length l0_3) (hc0_3 : l0_3.length ≤ c0_3) (hx : w.heap[g]? = some (.cells #[.slice A0_0 l0_0.length c0_0, .int .i64 a0_1, .int .i64 a0_2, .slice A0_3 l0_3.length c0_3] 61 (0, 0))) (h : index_Index_Len.f l0_0 a0_1 a0_2 l0_3 = some r) :
    Calls Try.prog 20 #[.pointer (some ⟨g, 0, none⟩)] w fun e w' => e = .returned (.int .i64 r) ∧ Below w.heap.size w w' := by
 have hu61 := Try.underlying61
 have HR0_0 := zA hr0_0
 have HC0_0 := zA hc0_0
 clear hr0_0 hc0_0
 have HR0_3 := zA hr0_3
 have HC0_3 := zA hc0_3
 clear hr0_3 hc0_3
 have HB := zA (Below.refl w.heap.size w)
 have H : (some (l0_0.length : Int)) = some r := h
 clear h
 obtain rfl := Option.some.inj H
 go_enter Try.func20, Try.ntmps20
 have BK172 := zA hx
 have hcz3_0 : w.cell? ⟨g, 0, none⟩ = some (.slice A0_0 l0_0.length c0_0) := (zc1 BK172.out 0).trans rfl
 have hcz3_1 : w.cell? ⟨g, 1, none⟩ = some (.int .i64 a0_1) := (zc1 BK172.out 1).trans rfl
 have hcz3_2 : w.cell? ⟨g, 2, none⟩ = some (.int .i64 a0_2) := (zc1 BK172.out 2).trans rfl
 have hcz3_3 : w.cell? ⟨g, 3, none⟩ = some (.slice A0_3 l0_3.length c0_3) := (zc1 BK172.out 3).trans rfl
 have hfz3_0 := zc5 BK172.out 0
 have hfz3_1 := zc5 BK172.out 1
 have hfz3_2 := zc5 BK172.out 2
 have hfz3_3 := zc5 BK172.out 3
 go_wp2_with (first | fail)
 go_ret
 exact ⟨by first | rfl | (simp [*] <;> rfl), by repeat (first | (with_reducible first | exact HB.out | apply zb3 | apply zb1 | apply zb2 | refine zb4 ?_ GE172.out) | exact HB.out)⟩

/-! ### remoraref07_Index_Len: function 21 -/
def remoraref07_Index_Len.f (a0_0 : Int) (a0_1 : Int) (a0_2 : Int) (l0_3 : List (S44)) : Option (Int) := some (l0_3.length : Int)
set_option maxHeartbeats 8000000 in
set_option maxRecDepth 100000 in
theorem remoraref07_Index_Len.calls (g : Nat) (a0_0 : Int) (a0_1 : Int) (a0_2 : Int) (A0_3 : Option Addr) (c0_3 : Nat) (l0_3 : List (S44)) (r : Int) (w : World) (hr0_3 : Kd.C k44 w A0_3 l0_3.length l0_3) (hc0_3 : l0_3.length ≤ c0_3) (hx : w.heap[g]? = some (.cells #[.int .i64 a0_0, .int .i64 a0_1, .int .i64 a0_2, .slice A0_3 l0_3.length c0_3] 64 (0, 0))) (h : remoraref07_Index_Len.f a0_0 a0_1 a0_2 l0_3 = some r) :
    Calls Try.prog 21 #[.pointer (some ⟨g, 0, none⟩)] w fun e w' => e = .returned (.int .i64 r) ∧ Below w.heap.size w w' := by
 have hu64 := Try.underlying64
 have HR0_3 := zA hr0_3
 have HC0_3 := zA hc0_3
 clear hr0_3 hc0_3
 have HB := zA (Below.refl w.heap.size w)
 have H : (some (l0_3.length : Int)) = some r := h
 clear h
 obtain rfl := Option.some.inj H
 go_enter Try.func21, Try.ntmps21
 have BK173 := zA hx
 have hcz3_0 : w.cell? ⟨g, 0, none⟩ = some (.int .i64 a0_0) := (zc1 BK173.out 0).trans rfl
 have hcz3_1 : w.cell? ⟨g, 1, none⟩ = some (.int .i64 a0_1) := (zc1 BK173.out 1).trans rfl
 have hcz3_2 : w.cell? ⟨g, 2, none⟩ = some (.int .i64 a0_2) := (zc1 BK173.out 2).trans rfl
 have hcz3_3 : w.cell? ⟨g, 3, none⟩ = some (.slice A0_3 l0_3.length c0_3) := (zc1 BK173.out 3).trans rfl
 have hfz3_0 := zc5 BK173.out 0
 have hfz3_1 := zc5 BK173.out 1
 have hfz3_2 := zc5 BK173.out 2
 have hfz3_3 := zc5 BK173.out 3
 go_wp2_with (first | fail)
 go_ret
 exact ⟨by first | rfl | (simp [*] <;> rfl), by repeat (first | (with_reducible first | exact HB.out | apply zb3 | apply zb1 | apply zb2 | refine zb4 ?_ GE173.out) | exact HB.out)⟩

/-! ### remoraref07_Heads: function 35 -/
def remoraref07_Heads.l0 : Nat → Int → Int → Option (Int)
 | 0, _, _ => none
 | k + 1, x0, x3 => if x3 < x0 then (remoraref07_Heads.l0 k x0 (wrap64 (2 * x3))) else (some x3)
def remoraref07_Heads.f (k : Nat) (a0 : Int) : Option (Int) := remoraref07_Heads.l0 k a0 1
theorem remoraref07_Heads.mono_l : ∀ k, (∀ y0 y1, LeO (remoraref07_Heads.l0 k y0 y1) (remoraref07_Heads.l0 (k + 1) y0 y1))
 | 0 => fun _ _ r h => by simp [remoraref07_Heads.l0] at h
 | k + 1 => by
  have ih0 := remoraref07_Heads.mono_l k
  ·intro y0 y1
   unfold remoraref07_Heads.l0
   repeat' first
   | (with_reducible exact ih0 _ _)
   | (with_reducible exact LeO.refl _)
   | (with_reducible exact LeO.none _)
   | (with_reducible refine LeO.ite ?_ ?_)
   | (with_reducible refine LeO.bind ?_ (fun _ => ?_))
   | exact ih0 _ _
   | exact LeO.none _
   | refine LeO.ite ?_ ?_
   | refine LeO.bind ?_ (fun _ => ?_)
theorem remoraref07_Heads.mono : ∀ a0 k, LeO (remoraref07_Heads.f k a0) (remoraref07_Heads.f (k + 1) a0) := by
 intro a0 k
 have ih0 := remoraref07_Heads.mono_l k
 unfold remoraref07_Heads.f
 repeat' first
     | (with_reducible exact ih0 _ _)
     | (with_reducible exact LeO.refl _)
     | (with_reducible exact LeO.none _)
     | (with_reducible refine LeO.ite ?_ ?_)
     | (with_reducible refine LeO.bind ?_ (fun _ => ?_))
     | exact ih0 _ _
     | exact LeO.none _
     | refine LeO.ite ?_ ?_
     | refine LeO.bind ?_ (fun _ => ?_)
set_option maxHeartbeats 8000000 in
set_option maxRecDepth 100000 in
theorem remoraref07_Heads.calls (k : Nat) (a0 : Int) (r : Int) (w : World) (h : remoraref07_Heads.f k a0 = some r) :
    Calls Try.prog 35 #[.int .i64 a0] w fun e w' => e = .returned (.int .i64 r) ∧ Drawn0 w w' := by
 have H : (remoraref07_Heads.l0 k a0 1) = some r := h
 clear h
 have H' := zA H
 clear H
 go_enter Try.func35, Try.ntmps35
 go_wp2
 go_loopg [3] k (fun kq v3 w' => ∃ (x3_1 : Int), v3 = .int .i64 x3_1 ∧ Aside0 (remoraref07_Heads.l0 kq a0 x3_1 = some r) ∧ Aside0 (kq ≤ k) ∧ Drawn0 w w')
 case atStart => exact ⟨(1), (by first | rfl | (simp; done) | (simp [*]; done)), H', ⟨Nat.le_refl _⟩, by repeat (first | exact Drawn0.refl _ | apply Drawn0.step)⟩
 case round =>
  clear H'
  obtain ⟨x3_1, rfl, HA, HK1, ⟨m1, rfl⟩⟩ := hrel
  cases gk with
  | zero => exact absurd HA.out (by simp [remoraref07_Heads.l0])
  | succ k1 =>
   have H := HA.out
   clear HA
   simp only [remoraref07_Heads.l0] at H
   by_cases c2 : x3_1 < a0
   ·rw [if_pos c2] at H
    have c2b0 : decide (x3_1 < a0) = true := zd1 c2
    clear c2
    have H' := zA H
    clear H
    go_wp2
    go_roundg k1
    case measure => have := HK1.out; omega
    case rel => exact ⟨(wrap64 (2 * x3_1)), (by first | rfl | (simp; done) | (simp [*]; done)), H', ⟨by have := HK1.out; omega⟩, by repeat (first | exact Drawn0.refl _ | apply Drawn0.step)⟩
   ·rw [if_neg c2] at H
    have c2b0 : decide (x3_1 < a0) = false := zd2 c2
    clear c2
    obtain rfl := Option.some.inj H
    go_wp2
    go_ret
    exact ⟨by first | rfl | (simp; done) | (simp [*]; done), by repeat (first | exact Drawn0.refl _ | apply Drawn0.step)⟩

/-! ### remoraref07_Index_Loads: function 23 -/
mutual
def remoraref07_Index_Loads.l0 : Nat → List Int → Int → Int → Int → Int → Int → List (S44) → Option (List Int)
 | 0, _, _, _, _, _, _, _ => none
 | k + 1, x3, x4, x5, x175000, x175001, x175002, x175003 => if x5 < (x175003.length : Int) then (if 0 ≤ x5 then (if (x3.length : Int) = 0 then (none) else (if 0 ≤ (Int.tmod (wrap64 (Go.bits .xor .u32 ((rd_T44 x175003 x5).f0) ((Int.tdiv ((rd_T44 x175003 x5).f0) 65536) % 4294967296))) (x3.length : Int)) then (if (Int.tmod (wrap64 (Go.bits .xor .u32 ((rd_T44 x175003 x5).f0) ((Int.tdiv ((rd_T44 x175003 x5).f0) 65536) % 4294967296))) (x3.length : Int)) < (x3.length : Int) then ((some (x3.set ((Int.tmod (wrap64 (Go.bits .xor .u32 ((rd_T44 x175003 x5).f0) ((Int.tdiv ((rd_T44 x175003 x5).f0) 65536) % 4294967296))) (x3.length : Int)) : Int).toNat (wrap64 ((rd x3 (Int.tmod (wrap64 (Go.bits .xor .u32 ((rd_T44 x175003 x5).f0) ((Int.tdiv ((rd_T44 x175003 x5).f0) 65536) % 4294967296))) (x3.length : Int))) + 1)) : List Int)).bind fun y181 => (remoraref07_Index_Loads.l0 k y181 (mx x4 (rd y181 (Int.tmod (wrap64 (Go.bits .xor .u32 ((rd_T44 x175003 x5).f0) ((Int.tdiv ((rd_T44 x175003 x5).f0) 65536) % 4294967296))) (x3.length : Int)))) (wrap64 (x5 + 1)) x175000 x175001 x175002 x175003)) else (none)) else (none))) else (none)) else (if 0 ≤ (wrap64 (x4 + 1)) then (if (wrap64 (x4 + 1) : Int).toNat ≤ 35184372088832 then (remoraref07_Index_Loads.l1 k x3 (List.replicate (wrap64 (x4 + 1) : Int).toNat 0) 0) else (none)) else (none))
def remoraref07_Index_Loads.l1 : Nat → List Int → List Int → Int → Option (List Int)
 | 0, _, _, _ => none
 | k + 1, x3, x8, x9 => if x9 < (x3.length : Int) then (if 0 ≤ x9 then (if 0 ≤ (rd x3 x9) then (if (rd x3 x9) < (x8.length : Int) then (remoraref07_Index_Loads.l1 k x3 (x8.set ((rd x3 x9) : Int).toNat (wrap64 ((rd x8 (rd x3 x9)) + 1))) (wrap64 (x9 + 1))) else (none)) else (none)) else (none)) else (some x8)
end
def remoraref07_Index_Loads.f (k : Nat) (a0_0 : Int) (a0_1 : Int) (a0_2 : Int) (l0_3 : List (S44)) : Option (List Int) := (remoraref07_Heads.f k (l0_3.length : Int)).bind fun t175 => (if 0 ≤ t175 then (if (t175 : Int).toNat ≤ 35184372088832 then (remoraref07_Index_Loads.l0 k (List.replicate (t175 : Int).toNat 0) 0 0 a0_0 a0_1 a0_2 l0_3) else (none)) else (none))
theorem remoraref07_Index_Loads.mono_l : ∀ k, (∀ y0 y1 y2 y3 y4 y5 y6, LeO (remoraref07_Index_Loads.l0 k y0 y1 y2 y3 y4 y5 y6) (remoraref07_Index_Loads.l0 (k + 1) y0 y1 y2 y3 y4 y5 y6)) ∧ (∀ y0 y1 y2, LeO (remoraref07_Index_Loads.l1 k y0 y1 y2) (remoraref07_Index_Loads.l1 (k + 1) y0 y1 y2))
 | 0 => ⟨fun _ _ _ _ _ _ _ r h => by simp [remoraref07_Index_Loads.l0] at h, fun _ _ _ r h => by simp [remoraref07_Index_Loads.l1] at h⟩
 | k + 1 => by
  obtain ⟨ih0, ih1⟩ := remoraref07_Index_Loads.mono_l k
  refine ⟨?_, ?_⟩
  ·intro y0 y1 y2 y3 y4 y5 y6
   unfold remoraref07_Index_Loads.l0
   repeat' first
   | (with_reducible exact ih0 _ _ _ _ _ _ _)
   | (with_reducible exact ih1 _ _ _)
   | (with_reducible exact remoraref07_Heads.mono _ _)
   | (with_reducible exact LeO.refl _)
   | (with_reducible exact LeO.none _)
   | (with_reducible refine LeO.ite ?_ ?_)
   | (with_reducible refine LeO.bind ?_ (fun _ => ?_))
   | exact ih0 _ _ _ _ _ _ _
   | exact ih1 _ _ _
   | exact remoraref07_Heads.mono _ _
   | exact LeO.none _
   | refine LeO.ite ?_ ?_
   | refine LeO.bind ?_ (fun _ => ?_)
  ·intro y0 y1 y2
   unfold remoraref07_Index_Loads.l1
   repeat' first
   | (with_reducible exact ih0 _ _ _ _ _ _ _)
   | (with_reducible exact ih1 _ _ _)
   | (with_reducible exact remoraref07_Heads.mono _ _)
   | (with_reducible exact LeO.refl _)
   | (with_reducible exact LeO.none _)
   | (with_reducible refine LeO.ite ?_ ?_)
   | (with_reducible refine LeO.bind ?_ (fun _ => ?_))
   | exact ih0 _ _ _ _ _ _ _
   | exact ih1 _ _ _
   | exact remoraref07_Heads.mono _ _
   | exact LeO.none _
   | refine LeO.ite ?_ ?_
   | refine LeO.bind ?_ (fun _ => ?_)
theorem remoraref07_Index_Loads.mono : ∀ a0 a1 a2 a3 k, LeO (remoraref07_Index_Loads.f k a0 a1 a2 a3) (remoraref07_Index_Loads.f (k + 1) a0 a1 a2 a3) := by
 intro a0 a1 a2 a3 k
 obtain ⟨ih0, ih1⟩ := remoraref07_Index_Loads.mono_l k
 unfold remoraref07_Index_Loads.f
 repeat' first
     | (with_reducible exact ih0 _ _ _ _ _ _ _)
     | (with_reducible exact ih1 _ _ _)
     | (with_reducible exact remoraref07_Heads.mono _ _)
     | (with_reducible exact LeO.refl _)
     | (with_reducible exact LeO.none _)
     | (with_reducible refine LeO.ite ?_ ?_)
     | (with_reducible refine LeO.bind ?_ (fun _ => ?_))
     | exact ih0 _ _ _ _ _ _ _
     | exact ih1 _ _ _
     | exact remoraref07_Heads.mono _ _
     | exact LeO.none _
     | refine LeO.ite ?_ ?_
     | refine LeO.bind ?_ (fun _ => ?_)
def remoraref07_Index_Loads.T16 : Bool × List (List Nat × List Nat) := (true, [([], []), ([], []), ([], []), ([1, 2], [1, 2]), ([3], [3]), ([], []), ([], []), ([], []), ([6, 7], [6, 7]), ([8], [8]), ([5, 9], [5, 9]), ([10], [10]), ([11], [11]), ([0, 4, 0, 1, 2, 3, 4, 5, 6, 7, 8, 9, 10, 11, 12], [0, 4]), ([13, 12, 0, 1, 2, 3, 4, 5, 6, 7, 8, 9, 10, 11, 12], [12, 13])])
def remoraref07_Index_Loads.B16 : List Nat := [0, 0, 0, 6, 14, 0, 0, 0, 192, 448, 992, 2016, 4064, 8191, 16383]
theorem remoraref07_Index_Loads.tab16 : rtab .any (opsOf Try.f23 16) = remoraref07_Index_Loads.T16 := by kernel_rfl
theorem remoraref07_Index_Loads.bits16 : waitsOk remoraref07_Index_Loads.T16.2 remoraref07_Index_Loads.B16 = true := by kernel_rfl
set_option maxHeartbeats 8000000 in
set_option maxRecDepth 100000 in
theorem remoraref07_Index_Loads.calls (g : Nat) (k : Nat) (a0_0 : Int) (a0_1 : Int) (a0_2 : Int) (A0_3 : Option Addr) (c0_3 : Nat) (l0_3 : List (S44)) (r : List Int) (w : World) (hr0_3 : Kd.C k44 w A0_3 l0_3.length l0_3) (hc0_3 : l0_3.length ≤ c0_3) (hx : w.heap[g]? = some (.cells #[.int .i64 a0_0, .int .i64 a0_1, .int .i64 a0_2, .slice A0_3 l0_3.length c0_3] 64 (0, 0))) (h : remoraref07_Index_Loads.f k a0_0 a0_1 a0_2 l0_3 = some r) :
    Calls Try.prog 23 #[.pointer (some ⟨g, 0, none⟩)] w fun e w' => ∃ v0_ : Value, e = .returned (v0_) ∧ Kd.R (Kd.int .i64) 3 w' w.heap.size (fun _ => True) v0_ r ∧ Below w.heap.size w w' := by
 have hu64 := Try.underlying64
 have HR0_3 := zA hr0_3
 have HC0_3 := zA hc0_3
 clear hr0_3 hc0_3
 have HB := zA (Below.refl w.heap.size w)
 have H : ((remoraref07_Heads.f k (l0_3.length : Int)).bind fun t175 => (if 0 ≤ t175 then (if (t175 : Int).toNat ≤ 35184372088832 then (remoraref07_Index_Loads.l0 k (List.replicate (t175 : Int).toNat 0) 0 0 a0_0 a0_1 a0_2 l0_3) else (none)) else (none))) = some r := h
 clear h
 replace H := Option.bind_eq_some_iff.mp H
 obtain ⟨t175, A20, H⟩ := H
 replace H : (if 0 ≤ t175 then (if (t175 : Int).toNat ≤ 35184372088832 then (remoraref07_Index_Loads.l0 k (List.replicate (t175 : Int).toNat 0) 0 0 a0_0 a0_1 a0_2 l0_3) else (none)) else (none)) = some r := H
 have A2 := zA A20
 clear A20
 by_cases c3 : 0 ≤ t175
 ·rw [if_pos c3] at H
  have c3b0 := eq_true c3
  have c3b1 : decide (0 ≤ t175) = true := zd1 c3
  clear c3
  by_cases c4 : (t175 : Int).toNat ≤ 35184372088832
  ·rw [if_pos c4] at H
   have c4b0 := eq_true c4
   have c4b1 : decide ((t175 : Int).toNat ≤ 35184372088832) = true := zd1 c4
   clear c4
   obtain ⟨y176, hy176⟩ : ∃ y_ : List Int, y_ = (List.replicate (t175 : Int).toNat 0) := ⟨_, rfl⟩
   replace H : (remoraref07_Index_Loads.l0 k y176 0 0 a0_0 a0_1 a0_2 l0_3) = some r := by first | (rw [hy176]; with_reducible exact H) | (have H2_ := (Option.bind_some _ _).symm.trans H; rw [hy176]; with_reducible exact H2_) | (have H2_ := (Option.bind_some _ _).symm.trans H; with_reducible exact H2_) | with_reducible exact H | (rw [hy176]; exact H) | exact H
   have Ny176 := zA hy176
   clear hy176
   have H' := zA H
   clear H
   go_enter Try.func23, Try.ntmps23
   have BK174 := zA hx
   have hcz6_0 : w.cell? ⟨g, 0, none⟩ = some (.int .i64 a0_0) := (zc1 BK174.out 0).trans rfl
   have hcz6_1 : w.cell? ⟨g, 1, none⟩ = some (.int .i64 a0_1) := (zc1 BK174.out 1).trans rfl
   have hcz6_2 : w.cell? ⟨g, 2, none⟩ = some (.int .i64 a0_2) := (zc1 BK174.out 2).trans rfl
   have hcz6_3 : w.cell? ⟨g, 3, none⟩ = some (.slice A0_3 l0_3.length c0_3) := (zc1 BK174.out 3).trans rfl
   have hfz6_0 := zc5 BK174.out 0
   have hfz6_1 := zc5 BK174.out 1
   have hfz6_2 := zc5 BK174.out 2
   have hfz6_3 := zc5 BK174.out 3
   go_wp2_with (first | ((with_reducible refine gate_callee (f := 35) rfl ?_); refine goesL_ (some 18) rfl rfl Try.func35 (by kernel_rfl) rfl #[.int .i64 (l0_3.length : Int)] rfl (by (try simp only [zm1, zm2, zm3]); first | done | rfl | (simp only [List.length_drop, List.length_take]; rfl) | (simp only [Int.emod_add_emod, Int.add_emod_emod]; rfl)) ?_; (with_reducible refine (remoraref07_Heads.calls k (l0_3.length : Int) t175 _ A2.out).mono ?_); rintro e w' ⟨rfl, ⟨nd, rfl⟩⟩; refine ⟨_, rfl, ?_⟩) | ((with_reducible refine gate_dst (N := 19) rfl ?_); refine Kd.R_make (Kd.int .i64) _ 3 rfl (N := 19) rfl 47 _ _ rfl t175 rfl rfl Try.underlying47 (.int .i64 0) 8 info3 rfl (by decide) (by omega) 0 (ok := fun _ => True) (okp := fun _ => True) rfl (fun _ hk => hk) trivial (zd3 (by first | (with_reducible assumption) | assumption)) (Nat.le_trans (Nat.mul_le_mul_right _ (zd3 (by first | (with_reducible assumption) | assumption) : t175.toNat ≤ 35184372088832)) (by omega)) (Below.refl _ _) (Nat.le_refl _) ?_; intro v177 w7 ho8 hb hg_ hnew_; clear hg_ hnew_; (first | rw [← Ny176.out] at ho8 | (simp only [Int.reduceToNat] at ho8; rw [← Ny176.out] at ho8)); have n0_ := zA (Kd.R_lower ho8 (zb6 (by repeat (first | (with_reducible first | exact HB.out | apply zb3 | apply zb1 | apply zb2 | refine zb4 ?_ GE174.out) | exact HB.out)))); have n1_ := zA (zc6 (g := g) (o := .cells #[.int .i64 a0_0, .int .i64 a0_1, .int .i64 a0_2, .slice A0_3 l0_3.length c0_3] 64 (0, 0)) (by (with_reducible repeat (first | refine zc3 ?_ _ | refine zc4 ?_ | refine zc2 ?_ _)); exact BK174.out) hb); have n2_ := zA (zb5 (by repeat (first | (with_reducible first | exact HB.out | apply zb3 | apply zb1 | apply zb2 | refine zb4 ?_ GE174.out) | exact HB.out)) hb); clear BK174; clear HB; have HO178 := n0_; have BK174 := n1_; have HB := n2_; clear n0_ n1_ n2_; clear hb ho8))
   go_loopg [4, 5] k (fun kq v4 v5 w' => ∃ (x3_1 : List Int) (x4_1 : Int) (x5_1 : Int), v4 = .int .i64 x4_1 ∧ v5 = .int .i64 x5_1 ∧ Aside0 (remoraref07_Index_Loads.l0 kq x3_1 x4_1 x5_1 a0_0 a0_1 a0_2 l0_3 = some r) ∧ Aside0 (kq ≤ k) ∧ Aside0 (Kd.R (Kd.int .i64) 3 w' w.heap.size (fun _ => True) v177 x3_1) ∧ Aside0 (w'.heap[g]? = some (.cells #[.int .i64 a0_0, .int .i64 a0_1, .int .i64 a0_2, (.slice A0_3 l0_3.length c0_3)] 64 (0, 0))) ∧ Aside0 (Below w.heap.size w w'))
   case atStart => exact ⟨(y176), (0), (0), (by first | rfl | (simp; done) | (simp [*]; done)), (by first | rfl | (simp; done) | (simp [*]; done)), H', ⟨Nat.le_refl _⟩, ⟨by (with_reducible repeat (first | apply Kd.R_alloc | apply Kd.R_drewN | apply Kd.R_drew)); exact HO178.out⟩, ⟨by (with_reducible repeat (first | refine zc3 ?_ _ | refine zc4 ?_ | refine zc2 ?_ _)); exact BK174.out⟩, ⟨by repeat (first | (with_reducible first | exact HB.out | apply zb3 | apply zb1 | apply zb2 | refine zb4 ?_ GE174.out) | exact HB.out)⟩⟩
   case round =>
    clear H'
    try clear c2
    try clear p2
    try clear c3
    try clear c3b0
    try clear c3b1
    try clear c4
    try clear c4b0
    try clear c4b1
    try clear hcz6_0
    try clear hcz6_1
    try clear hcz6_2
    try clear hcz6_3
    try clear hfz6_0
    try clear hfz6_1
    try clear hfz6_2
    try clear hfz6_3
    obtain ⟨x3_1, x4_1, x5_1, rfl, rfl, HA, HK1, HO_3, BK174, HB⟩ := hrel
    cases gk with
    | zero => exact absurd HA.out (by simp [remoraref07_Index_Loads.l0])
    | succ k1 =>
     have H := HA.out
     clear HA
     simp only [remoraref07_Index_Loads.l0] at H
     by_cases c9 : x5_1 < (l0_3.length : Int)
     ·rw [if_pos c9] at H
      have c9b0 : decide (x5_1 < (l0_3.length : Int)) = true := zd1 c9
      clear c9
      by_cases c10 : 0 ≤ x5_1
      ·rw [if_pos c10] at H
       have c10b0 : decide (0 ≤ x5_1) = true := zd1 c10
       clear c10
       by_cases c11 : (x3_1.length : Int) = 0
       ·rw [if_pos c11] at H
        exact absurd H (by simp)
       ·rw [if_neg c11] at H
        have c11b0 : ((x3_1.length : Int) == 0) = false := beq_eq_false_iff_ne.mpr c11
        have c11b1 : ((x3_1.length : Int) != 0) = true := bne_iff_ne.mpr c11
        have c11b2 : ¬ (x3_1 = []) := fun h_ => c11 (by rw [h_]; rfl)
        obtain ⟨ji12, hji12⟩ : ∃ j_ : Int, (Int.tmod (wrap64 (Go.bits .xor .u32 ((rd_T44 l0_3 x5_1).f0) ((Int.tdiv ((rd_T44 l0_3 x5_1).f0) 65536) % 4294967296))) (x3_1.length : Int)) = j_ := ⟨_, rfl⟩
        replace H : (if 0 ≤ (ji12) then (if (ji12) < (x3_1.length : Int) then ((some (x3_1.set ((ji12) : Int).toNat (wrap64 ((rd x3_1 (ji12)) + 1)) : List Int)).bind fun y181 => (remoraref07_Index_Loads.l0 k1 y181 (mx x4_1 (rd y181 (ji12))) (wrap64 (x5_1 + 1)) a0_0 a0_1 a0_2 l0_3)) else (none)) else (none)) = some r := by first | (rw [hji12] at H; exact H) | (simp only [hji12] at H ⊢; exact H)
        by_cases c13 : 0 ≤ (ji12)
        ·rw [if_pos c13] at H
         have c13b0 : decide (0 ≤ (ji12)) = true := zd1 c13
         clear c13
         by_cases c14 : (ji12) < (x3_1.length : Int)
         ·rw [if_pos c14] at H
          have c14b0 : decide ((ji12) < (x3_1.length : Int)) = true := zd1 c14
          clear c14
          obtain ⟨y181, hy181⟩ : ∃ y_ : List Int, y_ = (x3_1.set ((ji12) : Int).toNat (wrap64 ((rd x3_1 (ji12)) + 1))) := ⟨_, rfl⟩
          replace H : (remoraref07_Index_Loads.l0 k1 y181 (mx x4_1 (rd y181 (ji12))) (wrap64 (x5_1 + 1)) a0_0 a0_1 a0_2 l0_3) = some r := by first | (rw [hy181]; with_reducible exact H) | (have H2_ := (Option.bind_some _ _).symm.trans H; rw [hy181]; with_reducible exact H2_) | (have H2_ := (Option.bind_some _ _).symm.trans H; with_reducible exact H2_) | with_reducible exact H | (rw [hy181]; exact H) | exact H
          have Ny181 := zA hy181
          clear hy181
          obtain ⟨ji16, hji16⟩ : ∃ j_ : Int, (mx x4_1 (rd y181 (ji12))) = j_ := ⟨_, rfl⟩
          replace H : (remoraref07_Index_Loads.l0 k1 y181 ji16 (wrap64 (x5_1 + 1)) a0_0 a0_1 a0_2 l0_3) = some r := by first | (rw [hji16] at H; exact H) | (simp only [hji16] at H ⊢; exact H)
          have hji16_ : (if x4_1 < (rd y181 (ji12)) then (rd y181 (ji12)) else x4_1) = ji16 := hji16
          have H' := zA H
          clear H
          have hcz17_0 : wr.cell? ⟨g, 0, none⟩ = some (.int .i64 a0_0) := (zc1 BK174.out 0).trans rfl
          have hcz17_1 : wr.cell? ⟨g, 1, none⟩ = some (.int .i64 a0_1) := (zc1 BK174.out 1).trans rfl
          have hcz17_2 : wr.cell? ⟨g, 2, none⟩ = some (.int .i64 a0_2) := (zc1 BK174.out 2).trans rfl
          have hcz17_3 : wr.cell? ⟨g, 3, none⟩ = some (.slice A0_3 l0_3.length c0_3) := (zc1 BK174.out 3).trans rfl
          have hfz17_0 := zc5 BK174.out 0
          have hfz17_1 := zc5 BK174.out 1
          have hfz17_2 := zc5 BK174.out 2
          have hfz17_3 := zc5 BK174.out 3
          have p179 : 0 ≤ (x5_1 : Int) := zd3 (by first | (with_reducible assumption) | assumption)
          have q179 : x5_1 < (l0_3.length : Int) := zd3 (by first | (with_reducible assumption) | assumption)
          obtain ⟨ad179, e179, hx179_0, hx179_1⟩ := at_T44 HR0_3.out x5_1 p179 q179
          cases e179
          replace hx179_0 := (HB.out.cell (World.block_lt_of_cell? w _ hx179_0)).trans hx179_0
          replace hx179_1 := (HB.out.cell (World.block_lt_of_cell? w _ hx179_1)).trans hx179_1
          replace p179 := eq_true p179
          replace q179 := eq_true q179
          obtain ⟨Ao18, co18, eo18⟩ := Kd.R_slice HO_3.out
          subst eo18
          have p180 : 0 ≤ ((ji12) : Int) := zd3 (by first | (with_reducible assumption) | assumption)
          have q180 : (ji12) < (x3_1.length : Int) := zd3 (by first | (with_reducible assumption) | assumption)
          obtain ⟨ad180, e180, hx180_0⟩ := Kd.at_int (Kd.R_reads' HO_3.out).2.2 (ji12) p180 q180
          cases e180
          replace p180 := eq_true p180
          replace q180 := eq_true q180
          have p15 : 0 ≤ ((ji12) : Int) := zd3 (by first | (with_reducible assumption) | assumption)
          have q15 : ((ji12) : Int) < ((x3_1.length : Int) : Int) := zd3 (by first | (with_reducible assumption) | assumption)
          obtain ⟨go15, co15, eo15, gb15, gl15, cl15, HG15⟩ := Kd.R_form HO_3.out (by omega)
          (first | cases eo15 | (injection eo15 with ea_ en_ ec_; (first | subst ea_ | (injection ea_ with ea_; subst ea_)); subst ec_; clear en_))
          have GB15 := zA gb15
          have GG15 := zA HG15
          clear gb15 gl15 HG15
          (first | simp only [add_plain] at hx180_0 | skip)
          obtain ⟨hx15_0, hf15_0⟩ := Kd.R_celln 0 HO_3.out ((ji12) : Int) p15 q15
          (try simp only [Int.toNat_natCast] at hx15_0)
          (try simp only [Int.toNat_natCast] at hf15_0)
          replace p15 := eq_true p15
          replace q15 := eq_true q15
          have HP19 := Kd.R_putg HO_3.out ((ji12) : Int) (wrap64 ((rd x3_1 (ji12)) + 1))
          go_wp2_with (first | ((with_reducible refine gate_store (t := 3) (p := 54) rfl ?_); refine store_event (t := 3) (p := 54) (v := ?vo_w20) (w1 := (wr.setCell ⟨go15, ((ji12) : Int).toNat, none⟩ (.int .i64 (wrap64 ((rd x3_1 (ji12)) + 1))))) ?hg ?ho ?hn ?hr ?_; (case ho => rfl); (case hg => rfl); (case hn => rfl); (case hr => first | (go_simp; done) | (go_simp; rfl)); intro w20 hw; have hg : wr.grownBy w20 (some go15) := (by rw [hw]; exact HP19.2); have hp_ : Kd.R (Kd.int .i64) 3 w20 w.heap.size (fun _ => True) (.slice (some ⟨go15, 0, none⟩) x3_1.length co18) y181 := (by rw [hw, Ny181.out]; exact HP19.1); clear HP19; have n0_ := zA (hp_); have n1_ := zA (blk_grown (g := g) (o := .cells #[.int .i64 a0_0, .int .i64 a0_1, .int .i64 a0_2, .slice (some ad179) l0_3.length c0_3] 64 (0, 0)) (by (with_reducible repeat (first | refine zc3 ?_ _ | refine zc4 ?_ | refine zc2 ?_ _)); exact BK174.out) hg (Kd.R_ne HO_3.out BK174.out (by decide))); have n2_ := zA ((by rw [hw]; exact zb4 (HB.out) GB15.out : Below w.heap.size w w20)); clear HO_3; clear BK174; clear HB; have HO_3 := n0_; have BK174 := n1_; have HB := n2_; clear n0_ n1_ n2_; clear hg hw hp_; have p182 : 0 ≤ ((ji12) : Int) := zd3 (by first | (with_reducible assumption) | assumption); have q182 : (ji12) < (y181.length : Int) := (by have h_ : ((ji12) : Int) < ((x3_1.length : Int) : Int) := zd3 (by first | (with_reducible assumption) | assumption); first | (have e_ := (Kd.R_reads' HO_3.out).1; omega) | simpa only [Ny181.out, List.length_set] using h_); have ql182 : (((ji12) : Int) < ((x3_1.length : Int) : Int)) = True := eq_true (zd3 (by first | (with_reducible assumption) | assumption)); obtain ⟨ad182, e182, hx182_0⟩ := Kd.at_int (Kd.R_reads' HO_3.out).2.2 (ji12) p182 q182; obtain rfl : (⟨go15, 0, none⟩ : Addr) = ad182 := (by injection e182); (first | simp only [add_plain] at hx182_0 | simp only [add_at] at hx182_0 | simp only [Addr.add, Nat.zero_add] at hx182_0 | skip); replace p182 := eq_true p182; replace q182 := eq_true q182))
          go_roundg k1
          case measure => have := HK1.out; omega
          case rel => exact ⟨(y181), (ji16), (wrap64 (x5_1 + 1)), (by first | rfl | (simp; done) | (simp only [← hji16] <;> (first | rfl | simp)) | (simp [*]; done)), (by first | rfl | (simp; done) | (simp [*]; done)), H', ⟨by have := HK1.out; omega⟩, ⟨by (with_reducible repeat (first | apply Kd.R_alloc | apply Kd.R_drewN | apply Kd.R_drew)); exact HO_3.out⟩, ⟨by (with_reducible repeat (first | refine zc3 ?_ _ | refine zc4 ?_ | refine zc2 ?_ _)); exact BK174.out⟩, ⟨by repeat (first | (with_reducible first | exact HB.out | apply zb3 | apply zb1 | apply zb2 | refine zb4 ?_ GE174.out) | exact HB.out)⟩⟩
         ·rw [if_neg c14] at H
          exact absurd H (by simp)
        ·rw [if_neg c13] at H
         exact absurd H (by simp)
      ·rw [if_neg c10] at H
       exact absurd H (by simp)
     ·rw [if_neg c9] at H
      have c9b0 : decide (x5_1 < (l0_3.length : Int)) = false := zd2 c9
      clear c9
      obtain ⟨ji21, hji21⟩ : ∃ j_ : Int, (wrap64 (x4_1 + 1)) = j_ := ⟨_, rfl⟩
      replace H : (if 0 ≤ (ji21) then (if (ji21 : Int).toNat ≤ 35184372088832 then (remoraref07_Index_Loads.l1 k1 x3_1 (List.replicate (ji21 : Int).toNat 0) 0) else (none)) else (none)) = some r := by first | (rw [hji21] at H; exact H) | (simp only [hji21] at H ⊢; exact H)
      have hji21w : (IntKind.i64.wrap (x4_1 + 1)) = ji21 := (i64_w _).trans hji21
      by_cases c22 : 0 ≤ (ji21)
      ·rw [if_pos c22] at H
       have c22b0 := eq_true c22
       have c22b1 : decide (0 ≤ (ji21)) = true := zd1 c22
       clear c22
       by_cases c23 : (ji21 : Int).toNat ≤ 35184372088832
       ·rw [if_pos c23] at H
        have c23b0 := eq_true c23
        have c23b1 : decide ((ji21 : Int).toNat ≤ 35184372088832) = true := zd1 c23
        clear c23
        obtain ⟨y183, hy183⟩ : ∃ y_ : List Int, y_ = (List.replicate (ji21 : Int).toNat 0) := ⟨_, rfl⟩
        replace H : (remoraref07_Index_Loads.l1 k1 x3_1 y183 0) = some r := by first | (rw [hy183]; with_reducible exact H) | (have H2_ := (Option.bind_some _ _).symm.trans H; rw [hy183]; with_reducible exact H2_) | (have H2_ := (Option.bind_some _ _).symm.trans H; with_reducible exact H2_) | with_reducible exact H | (rw [hy183]; exact H) | exact H
        have Ny183 := zA hy183
        clear hy183
        have H' := zA H
        clear H
        have hcz24_0 : wr.cell? ⟨g, 0, none⟩ = some (.int .i64 a0_0) := (zc1 BK174.out 0).trans rfl
        have hcz24_1 : wr.cell? ⟨g, 1, none⟩ = some (.int .i64 a0_1) := (zc1 BK174.out 1).trans rfl
        have hcz24_2 : wr.cell? ⟨g, 2, none⟩ = some (.int .i64 a0_2) := (zc1 BK174.out 2).trans rfl
        have hcz24_3 : wr.cell? ⟨g, 3, none⟩ = some (.slice A0_3 l0_3.length c0_3) := (zc1 BK174.out 3).trans rfl
        have hfz24_0 := zc5 BK174.out 0
        have hfz24_1 := zc5 BK174.out 1
        have hfz24_2 := zc5 BK174.out 2
        have hfz24_3 := zc5 BK174.out 3
        go_wp2_with (first | ((with_reducible refine gate_dst (N := 63) rfl ?_); refine Kd.R_make (Kd.int .i64) _ 3 rfl (N := 63) rfl 47 _ _ rfl ji21 rfl rfl Try.underlying47 (.int .i64 0) 8 info3 rfl (by decide) (by omega) 0 (ok := fun _ => True) (okp := fun _ => True) rfl (fun _ hk => hk) trivial (zd3 (by first | (with_reducible assumption) | assumption)) (Nat.le_trans (Nat.mul_le_mul_right _ (zd3 (by first | (with_reducible assumption) | assumption) : ji21.toNat ≤ 35184372088832)) (by omega)) (Below.refl _ _) (Nat.le_refl _) ?_; intro v184 w25 ho26 hb hg_ hnew_; clear hg_ hnew_; (first | rw [← Ny183.out] at ho26 | (simp only [Int.reduceToNat] at ho26; rw [← Ny183.out] at ho26)); have n0_ := zA (Kd.R_elder' (by (with_reducible repeat (first | apply Kd.R_alloc | apply Kd.R_drewN | apply Kd.R_drew)); exact HO_3.out) (Kd.R_base ho26) hb); have n1_ := zA (Kd.R_lower (Kd.R_new' ho26 (Kd.R_lt (by (with_reducible repeat (first | apply Kd.R_alloc | apply Kd.R_drewN | apply Kd.R_drew)); exact HO_3.out))) (zb6 (by repeat (first | (with_reducible first | exact HB.out | apply zb3 | apply zb1 | apply zb2 | refine zb4 ?_ GE174.out) | exact HB.out)))); have n2_ := zA (zc6 (g := g) (o := .cells #[.int .i64 a0_0, .int .i64 a0_1, .int .i64 a0_2, .slice A0_3 l0_3.length c0_3] 64 (0, 0)) (by (with_reducible repeat (first | refine zc3 ?_ _ | refine zc4 ?_ | refine zc2 ?_ _)); exact BK174.out) hb); have n3_ := zA (zb5 (by repeat (first | (with_reducible first | exact HB.out | apply zb3 | apply zb1 | apply zb2 | refine zb4 ?_ GE174.out) | exact HB.out)) hb); clear HO_3; clear BK174; clear HB; have HO_3 := n0_; have HO185 := n1_; have BK174 := n2_; have HB := n3_; clear n0_ n1_ n2_ n3_; clear hb ho26))
        go_loopg [9] k1 (fun kq v9 w' => ∃ (x8_2 : List Int) (x9_2 : Int), v9 = .int .i64 x9_2 ∧ Aside0 (remoraref07_Index_Loads.l1 kq x3_1 x8_2 x9_2 = some r) ∧ Aside0 (kq ≤ k1) ∧ Aside0 (Kd.R (Kd.int .i64) 3 w' w.heap.size (fun k_ => some k_ ≠ (v184 : Value).ownBlock) v177 x3_1) ∧ Aside0 (Kd.R (Kd.int .i64) 3 w' w.heap.size (fun k_ => some k_ ≠ (v177 : Value).ownBlock) v184 x8_2) ∧ Aside0 (w'.heap[g]? = some (.cells #[.int .i64 a0_0, .int .i64 a0_1, .int .i64 a0_2, (.slice A0_3 l0_3.length c0_3)] 64 (0, 0))) ∧ Aside0 (Below w.heap.size w w'))
        case atStart => exact ⟨(y183), (0), (by first | rfl | (simp; done) | (simp [*]; done)), H', ⟨Nat.le_refl _⟩, ⟨by (with_reducible repeat (first | apply Kd.R_alloc | apply Kd.R_drewN | apply Kd.R_drew)); exact Kd.R_mono HO_3.out (fun _ hk => hk.2)⟩, ⟨by (with_reducible repeat (first | apply Kd.R_alloc | apply Kd.R_drewN | apply Kd.R_drew)); exact Kd.R_mono HO185.out (fun _ hk => hk.2)⟩, ⟨by (with_reducible repeat (first | refine zc3 ?_ _ | refine zc4 ?_ | refine zc2 ?_ _)); exact BK174.out⟩, ⟨by repeat (first | (with_reducible first | exact HB.out | apply zb3 | apply zb1 | apply zb2 | refine zb4 ?_ GE174.out) | exact HB.out)⟩⟩
        case round =>
         clear H'
         try clear c1
         try clear p1
         try clear q1
         try clear hx1
         try clear hf1
         try clear c2
         try clear p2
         try clear c3
         try clear c3b0
         try clear c3b1
         try clear c4
         try clear c4b0
         try clear c4b1
         try clear p6
         try clear c9
         try clear c9b0
         try clear c10
         try clear c10b0
         try clear c11
         try clear c11b0
         try clear c11b1
         try clear c11b2
         try clear c13
         try clear c13b0
         try clear c14
         try clear c14b0
         try clear p15
         try clear q15
         try clear hx15
         try clear hf15
         try clear p17
         try clear q17
         try clear hx17
         try clear p18
         try clear q18
         try clear hx18
         try clear c22
         try clear c22b0
         try clear c22b1
         try clear c23
         try clear c23b0
         try clear c23b1
         try clear hcz17_0
         try clear hcz17_1
         try clear hcz17_2
         try clear hcz17_3
         try clear hcz24_0
         try clear hcz24_1
         try clear hcz24_2
         try clear hcz24_3
         try clear hcz6_0
         try clear hcz6_1
         try clear hcz6_2
         try clear hcz6_3
         try clear hfz17_0
         try clear hfz17_1
         try clear hfz17_2
         try clear hfz17_3
         try clear hfz24_0
         try clear hfz24_1
         try clear hfz24_2
         try clear hfz24_3
         try clear hfz6_0
         try clear hfz6_1
         try clear hfz6_2
         try clear hfz6_3
         try clear hx15_0
         try clear hx179_0
         try clear hx179_1
         try clear hx180_0
         try clear hx182_0
         try clear p15
         try clear p179
         try clear p180
         try clear p182
         try clear p2
         try clear q15
         try clear q179
         try clear q180
         try clear q182
         obtain ⟨x8_2, x9_2, rfl, HA, HK2, HO_3, HO_8, BK174, HB⟩ := hrel
         cases gk with
         | zero => exact absurd HA.out (by simp [remoraref07_Index_Loads.l1])
         | succ k2 =>
          have H := HA.out
          clear HA
          simp only [remoraref07_Index_Loads.l1] at H
          by_cases c27 : x9_2 < (x3_1.length : Int)
          ·rw [if_pos c27] at H
           have c27b0 : decide (x9_2 < (x3_1.length : Int)) = true := zd1 c27
           clear c27
           by_cases c28 : 0 ≤ x9_2
           ·rw [if_pos c28] at H
            have c28b0 : decide (0 ≤ x9_2) = true := zd1 c28
            clear c28
            by_cases c29 : 0 ≤ (rd x3_1 x9_2)
            ·rw [if_pos c29] at H
             have c29b0 : decide (0 ≤ (rd x3_1 x9_2)) = true := zd1 c29
             clear c29
             by_cases c30 : (rd x3_1 x9_2) < (x8_2.length : Int)
             ·rw [if_pos c30] at H
              have c30b0 : decide ((rd x3_1 x9_2) < (x8_2.length : Int)) = true := zd1 c30
              clear c30
              obtain ⟨y189, hy189⟩ : ∃ y_ : List Int, y_ = (x8_2.set ((rd x3_1 x9_2) : Int).toNat (wrap64 ((rd x8_2 (rd x3_1 x9_2)) + 1))) := ⟨_, rfl⟩
              replace H : (remoraref07_Index_Loads.l1 k2 x3_1 y189 (wrap64 (x9_2 + 1))) = some r := by first | (rw [hy189]; with_reducible exact H) | (have H2_ := (Option.bind_some _ _).symm.trans H; rw [hy189]; with_reducible exact H2_) | (have H2_ := (Option.bind_some _ _).symm.trans H; with_reducible exact H2_) | with_reducible exact H | (rw [hy189]; exact H) | exact H
              have Ny189 := zA hy189
              clear hy189
              have H' := zA H
              clear H
              obtain ⟨Ao32, co32, eo32⟩ := Kd.R_slice HO_3.out
              subst eo32
              try go_wp2
              have n0_ := zA (Kd.R_drew HO_3.out)
              have n1_ := zA (Kd.R_drew HO_8.out)
              have n2_ := zA (zc4 BK174.out)
              have n3_ := zA (zb2 HB.out)
              clear HO_3
              clear HO_8
              clear BK174
              clear HB
              have HO_3 := n0_
              have HO_8 := n1_
              have BK174 := n2_
              have HB := n3_
              clear n0_ n1_ n2_ n3_
              have p186 : 0 ≤ (x9_2 : Int) := zd3 (by first | (with_reducible assumption) | assumption)
              have q186 : x9_2 < (x3_1.length : Int) := zd3 (by first | (with_reducible assumption) | assumption)
              obtain ⟨ad186, e186, hx186_0⟩ := Kd.at_int (Kd.R_reads' HO_3.out).2.2 x9_2 p186 q186
              cases e186
              replace p186 := eq_true p186
              replace q186 := eq_true q186
              have p187 : 0 ≤ (x9_2 : Int) := zd3 (by first | (with_reducible assumption) | assumption)
              have q187 : x9_2 < (x3_1.length : Int) := zd3 (by first | (with_reducible assumption) | assumption)
              obtain ⟨ad187, e187, hx187_0⟩ := Kd.at_int (Kd.R_reads' HO_3.out).2.2 x9_2 p187 q187
              obtain rfl : ad186 = ad187 := (by injection e187)
              replace p187 := eq_true p187
              replace q187 := eq_true q187
              obtain ⟨Ao34, co34, eo34⟩ := Kd.R_slice HO_8.out
              (first | subst eo34 | (injection eo34 with f1_ f2_ f3_; have f4_ := f1_.symm; have f5_ := f3_.symm; clear f1_ f2_ f3_; subst f4_; subst f5_))
              have p188 : 0 ≤ ((rd x3_1 x9_2) : Int) := zd3 (by first | (with_reducible assumption) | assumption)
              have q188 : (rd x3_1 x9_2) < (x8_2.length : Int) := zd3 (by first | (with_reducible assumption) | assumption)
              obtain ⟨ad188, e188, hx188_0⟩ := Kd.at_int (Kd.R_reads' HO_8.out).2.2 (rd x3_1 x9_2) p188 q188
              cases e188
              replace p188 := eq_true p188
              replace q188 := eq_true q188
              have p31 : 0 ≤ ((rd x3_1 x9_2) : Int) := zd3 (by first | (with_reducible assumption) | assumption)
              have q31 : ((rd x3_1 x9_2) : Int) < ((x8_2.length : Int) : Int) := zd3 (by first | (with_reducible assumption) | assumption)
              obtain ⟨go31, co31, eo31, gb31, gl31, cl31, HG31⟩ := Kd.R_form HO_8.out (by omega)
              (first | cases eo31 | (injection eo31 with ea_ en_ ec_; (first | subst ea_ | (injection ea_ with ea_; subst ea_)); subst ec_; clear en_))
              have GB31 := zA gb31
              have GG31 := zA HG31
              clear gb31 gl31 HG31
              (first | simp only [add_plain] at hx188_0 | skip)
              obtain ⟨hx31_0, hf31_0⟩ := Kd.R_celln 0 HO_8.out ((rd x3_1 x9_2) : Int) p31 q31
              (try simp only [Int.toNat_natCast] at hx31_0)
              (try simp only [Int.toNat_natCast] at hf31_0)
              replace p31 := eq_true p31
              replace q31 := eq_true q31
              have HP35 := Kd.R_putn HO_8.out ((rd x3_1 x9_2) : Int) (wrap64 ((rd x8_2 (rd x3_1 x9_2)) + 1))
              rw [← Ny189.out] at HP35
              have HQ35 := zA HP35
              clear HP35
              refine start_ (n := 15) (S := fun w' => w'.cell? (ad186.add (x9_2).toNat) = some (.int .i64 (rd x3_1 x9_2)) ∧ w'.cell? (ad186.add (x9_2).toNat) = some (.int .i64 (rd x3_1 x9_2)) ∧ w'.cell? ⟨go31, ((rd x3_1 x9_2)).toNat, none⟩ = some (.int .i64 (rd x8_2 (rd x3_1 x9_2)))) (ds := [14]) #[false, false, false, false, false, false, false, false, false, false, false, false, false, false, false] (by kernel_rfl) rfl rfl ⟨hx186_0, hx187_0, hx188_0⟩ (fun hHeld => ?_); refine with_tabW remoraref07_Index_Loads.tab16 remoraref07_Index_Loads.bits16 (fun HT_ HW_ => ?_)
              generalize wr.drew = w33 at HO_3 HO_8 BK174 HB GG31 HQ35 hf31_0 hx186_0 hx187_0 hx188_0 hx31_0 hHeld ⊢
              refine pure_ (i := 0) (N := some 70) (v := ?_) (a' := ?_) #[true, false, false, false, false, false, false, false, false, false, false, false, false, false, false] rfl rfl (any_of HT_.out (by kernel_rfl)) (fun _ _ _ h => h) (Or.inl ⟨by rfl, ?_⟩) ?_ ?_
              rotate_left
              ·intro w'
               go_simp
               with_reducible rfl
              rotate_left
              ·simp only [Act.put, zs1, zs2, zs3, i64_w, i32_w]
               rfl
              refine pure_ (i := 1) (N := some 71) (v := ?_) (a' := ?_) #[true, true, false, false, false, false, false, false, false, false, false, false, false, false, false] rfl rfl (any_of HT_.out (by kernel_rfl)) (fun _ _ _ h => h) (Or.inl ⟨by rfl, ?_⟩) ?_ ?_
              rotate_left
              ·intro w'
               go_simp
               with_reducible rfl
              rotate_left
              ·simp only [Act.put, zs1, zs2, zs3, i64_w, i32_w]
               rfl
              refine pure_ (i := 2) (N := some 72) (v := ?_) (a' := ?_) #[true, true, true, false, false, false, false, false, false, false, false, false, false, false, false] rfl rfl (any_of HT_.out (by kernel_rfl)) (fun _ _ _ h => h) (Or.inl ⟨by rfl, ?_⟩) ?_ ?_
              rotate_left
              ·intro w'
               go_simp
               with_reducible rfl
              rotate_left
              ·simp only [Act.put, zs1, zs2, zs3, i64_w, i32_w]
               rfl
              refine pure_ (i := 3) (N := some 73) (v := ?_) (a' := ?_) #[true, true, true, true, false, false, false, false, false, false, false, false, false, false, false] rfl rfl (any_of HT_.out (by kernel_rfl)) (fun _ _ _ h => h) (Or.inl ⟨by rfl, ?_⟩) ?_ ?_
              rotate_left
              ·intro w'
               go_simp
               with_reducible rfl
              rotate_left
              ·simp only [Act.put, zs1, zs2, zs3, i64_w, i32_w]
               rfl
              refine pure_ (i := 5) (N := some 75) (v := ?_) (a' := ?_) #[true, true, true, true, false, true, false, false, false, false, false, false, false, false, false] rfl rfl (any_of HT_.out (by kernel_rfl)) (fun _ _ _ h => h) (Or.inl ⟨by rfl, ?_⟩) ?_ ?_
              rotate_left
              ·intro w'
               go_simp
               with_reducible rfl
              rotate_left
              ·simp only [Act.put, zs1, zs2, zs3, i64_w, i32_w]
               rfl
              refine pure_ (i := 6) (N := some 76) (v := ?_) (a' := ?_) #[true, true, true, true, false, true, true, false, false, false, false, false, false, false, false] rfl rfl (any_of HT_.out (by kernel_rfl)) (fun _ _ _ h => h) (Or.inl ⟨by rfl, ?_⟩) ?_ ?_
              rotate_left
              ·intro w'
               go_simp
               with_reducible rfl
              rotate_left
              ·simp only [Act.put, zs1, zs2, zs3, i64_w, i32_w]
               rfl
              refine pure_ (i := 7) (N := some 77) (v := ?_) (a' := ?_) #[true, true, true, true, false, true, true, true, false, false, false, false, false, false, false] rfl rfl (any_of HT_.out (by kernel_rfl)) (fun _ _ _ h => h) (Or.inl ⟨by rfl, ?_⟩) ?_ ?_
              rotate_left
              ·intro w'
               go_simp
               with_reducible rfl
              rotate_left
              ·simp only [Act.put, zs1, zs2, zs3, i64_w, i32_w]
               rfl
              refine pure_ (i := 8) (N := some 78) (v := ?_) (a' := ?_) #[true, true, true, true, false, true, true, true, true, false, false, false, false, false, false] rfl rfl (any_of HT_.out (by kernel_rfl)) (fun _ _ _ h => h) (Or.inl ⟨by rfl, ?_⟩) ?_ ?_
              rotate_left
              ·intro w'
               go_simp
               with_reducible rfl
              rotate_left
              ·simp only [Act.put, zs1, zs2, zs3, i64_w, i32_w]
               rfl
              refine take_ (i := 4) (N := some 74) (v := ?_) (a' := ?_) #[true, true, true, true, true, true, true, true, true, false, false, false, false, false, false] rfl rfl (take_ofW HT_.out HW_.out (by kernel_rfl)) (fun _ _ _ h => h) (Or.inl ⟨by rfl, ?_⟩) hHeld ?_ ?_
              rotate_left
              ·rintro w' ⟨s0, s1, s2⟩
               go_simp
               with_reducible rfl
              rotate_left
              ·simp only [Act.put, zs1, zs2, zs3, i64_w, i32_w]
               rfl
              refine take_ (i := 9) (N := some 79) (v := ?_) (a' := ?_) #[true, true, true, true, true, true, true, true, true, true, false, false, false, false, false] rfl rfl (take_ofW HT_.out HW_.out (by kernel_rfl)) (fun _ _ _ h => h) (Or.inl ⟨by rfl, ?_⟩) hHeld ?_ ?_
              rotate_left
              ·rintro w' ⟨s0, s1, s2⟩
               go_simp
               with_reducible rfl
              rotate_left
              ·simp only [Act.put, zs1, zs2, zs3, i64_w, i32_w]
               rfl
              refine pure_ (i := 10) (N := some 80) (v := ?_) (a' := ?_) #[true, true, true, true, true, true, true, true, true, true, true, false, false, false, false] rfl rfl (any_of HT_.out (by kernel_rfl)) (fun _ _ _ h => h) (Or.inl ⟨by rfl, ?_⟩) ?_ ?_
              rotate_left
              ·intro w'
               go_simp
               with_reducible rfl
              rotate_left
              ·simp only [Act.put, zs1, zs2, zs3, i64_w, i32_w]
               rfl
              refine take_ (i := 11) (N := some 81) (v := ?_) (a' := ?_) #[true, true, true, true, true, true, true, true, true, true, true, true, false, false, false] rfl rfl (take_ofW HT_.out HW_.out (by kernel_rfl)) (fun _ _ _ h => h) (Or.inl ⟨by rfl, ?_⟩) hHeld ?_ ?_
              rotate_left
              ·rintro w' ⟨s0, s1, s2⟩
               go_simp
               with_reducible rfl
              rotate_left
              ·simp only [Act.put, zs1, zs2, zs3, i64_w, i32_w]
               rfl
              refine pure_ (i := 12) (N := some 82) (v := ?_) (a' := ?_) #[true, true, true, true, true, true, true, true, true, true, true, true, true, false, false] rfl rfl (any_of HT_.out (by kernel_rfl)) (fun _ _ _ h => h) (Or.inl ⟨by rfl, ?_⟩) ?_ ?_
              rotate_left
              ·intro w'
               go_simp
               with_reducible rfl
              rotate_left
              ·simp only [Act.put, zs1, zs2, zs3, i64_w, i32_w]
               rfl
              refine pure_ (i := 13) (N := some 83) (v := ?_) (a' := ?_) #[true, true, true, true, true, true, true, true, true, true, true, true, true, true, false] rfl rfl (any_of HT_.out (by kernel_rfl)) (fun _ _ _ h => h) (Or.inl ⟨by rfl, ?_⟩) ?_ ?_
              rotate_left
              ·intro w'
               go_simp
               with_reducible rfl
              rotate_left
              ·simp only [Act.put, zs1, zs2, zs3, i64_w, i32_w]
               rfl
              refine last_ (i := 14) (N := none) #[true, true, true, true, true, true, true, true, true, true, true, true, true, true, true] rfl rfl (one_of HT_.out (by kernel_rfl)) (by decide) (fun K hK => ?_)
              refine skip_ (w1 := ?_) (by rfl) rfl ?_ ?_
              rotate_left
              ·go_simp
               rfl
              refine hK.out _ _ ?_
              clear hK K
              refine done_ (done_of HT_.out (by kernel_rfl)) ?_
              try go_wp2
              go_roundg k2
              case measure => have := HK1.out; have := HK2.out; omega
              case rel => exact ⟨(y189), (wrap64 (x9_2 + 1)), (by first | rfl | (simp; done) | (simp [*]; done)), H', ⟨by have := HK1.out; have := HK2.out; omega⟩, ⟨by (with_reducible repeat (first | apply Kd.R_alloc | apply Kd.R_drewN | apply Kd.R_drew)); exact Kd.R_mono (Kd.R_far (p := ⟨go31, ((rd x3_1 x9_2) : Int).toNat, none⟩) (Kd.R_mono HO_3.out (fun k_ hk => (⟨hk, fun e_ => hk (by rw [e_]; rfl)⟩ : _ ∧ k_ ≠ go31))) (fun _ hk => hk.2) (.int .i64 (wrap64 ((rd x8_2 (rd x3_1 x9_2)) + 1)))) (fun _ hk => hk.1)⟩, ⟨by (with_reducible repeat (first | apply Kd.R_alloc | apply Kd.R_drewN | apply Kd.R_drew)); first | exact HQ35.out | (have h9_ := HQ35.out; simp only [Int.emod_add_emod, Int.add_emod_emod] at h9_; exact h9_)⟩, ⟨by (with_reducible repeat (first | refine zc3 ?_ _ | refine zc4 ?_ | refine zc2 ?_ _)); refine zc7 ?_ (by have h_ := Kd.R_ne HO_8.out BK174.out (by decide); intro e_; exact h_ (by rw [e_]; rfl)) _; (with_reducible repeat (first | refine zc3 ?_ _ | refine zc4 ?_ | refine zc2 ?_ _)); exact BK174.out⟩, ⟨by repeat (first | (with_reducible first | exact HB.out | apply zb3 | apply zb1 | apply zb2 | refine zb4 ?_ GB31.out | refine zb4 ?_ GE174.out) | exact HB.out)⟩⟩
             ·rw [if_neg c30] at H
              exact absurd H (by simp)
            ·rw [if_neg c29] at H
             exact absurd H (by simp)
           ·rw [if_neg c28] at H
            exact absurd H (by simp)
          ·rw [if_neg c27] at H
           have c27b0 : decide (x9_2 < (x3_1.length : Int)) = false := zd2 c27
           clear c27
           obtain rfl := Option.some.inj H
           obtain ⟨Ao36, co36, eo36⟩ := Kd.R_slice HO_3.out
           subst eo36
           go_wp2
           go_ret
           exact ⟨_, by first | rfl | (simp [errW_none, errW_some] <;> rfl) | (simp only [← hji21]; first | rfl | (simp [errW_none, errW_some] <;> rfl)) | (simp [*, errW_none, errW_some] <;> rfl), by (with_reducible repeat (first | apply Kd.R_alloc | apply Kd.R_drewN | apply Kd.R_drew)); exact Kd.R_mono HO_8.out (fun _ hk => trivial), by repeat (first | (with_reducible first | exact HB.out | apply zb3 | apply zb1 | apply zb2 | refine zb4 ?_ GE174.out) | exact HB.out)⟩
       ·rw [if_neg c23] at H
        exact absurd H (by simp)
      ·rw [if_neg c22] at H
       exact absurd H (by simp)
  ·rw [if_neg c4] at H
   exact absurd H (by simp)
 ·rw [if_neg c3] at H
  exact absurd H (by simp)

end Go.Proofs.Ytlndkemblbbfaaa.PIndexFinds
