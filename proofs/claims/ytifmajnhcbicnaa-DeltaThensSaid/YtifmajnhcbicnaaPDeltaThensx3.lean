-- Written by a program of this session (the kit's printer with hand-written contracts among its functions).
-- slim
import Derived.Test.YtifmajnhcbicnaaPDeltaThensx0
import Derived.Test.YtifmajnhcbicnaaPDeltaThensx1
import Derived.Test.YtifmajnhcbicnaaPDeltaThensx2
namespace Go.Proofs.Ytifmajnhcbicnaa.PDeltaThens
open Go.RowKit Go.Proofs.YtifmajnhcbicnaaW.PrintWords Go.Proofs.YtifmajnhcbicnaaW.PrintLast Go.Proofs.YtifmajnhcbicnaaW.PrintMore
attribute [local go_sem] max2_int min2_int max_two min_two max_three min_three max_four min_four   -- for this text's walks alone
set_option linter.unusedVariables false
set_option linter.unusedSimpArgs false

/-! ### delta_Part: function 27 -/
mutual
def delta_Part.j0 : Nat → List (S40) → Int → Int → Bool → Option ((List (S40)) × Int)
 | 0, _, _, _, _ => none
 | k + 1, x0, x1, x2, x33 => if x33 = true then (some (([] : List (S40)), 3)) else (delta_Part.l0 k x1 x2 ([] : List (S40)) 0 x0 (x0.length : Int) 0)
def delta_Part.l0 : Nat → Int → Int → List (S40) → Int → List (S40) → Int → Int → Option ((List (S40)) × Int)
 | 0, _, _, _, _, _, _, _ => none
 | k + 1, x1, x2, x9, x10, x34, x35, x36 => if x36 < x35 then (if 0 ≤ x36 then (if x36 < (x34.length : Int) then ((delta_length.f ((rd_T40 x34 x36).f0) ((rd_T40 x34 x36).f1) ((rd_T40 x34 x36).f2)).bind fun t139 => (if (mx (wrap64 (x1 - x10)) 0) ≥ (mn (wrap64 (x2 - x10)) t139) then (delta_Part.l0 k x1 x2 x9 (wrap64 (x10 + t139)) x34 x35 (wrap64 (x36 + 1))) else ((delta_told.f ((rd_T40 x34 x36).f0) ((rd_T40 x34 x36).f1) ((rd_T40 x34 x36).f2)).bind fun t140 => (if t140 = true then (if 0 ≤ (mx (wrap64 (x1 - x10)) 0) then (if (mx (wrap64 (x1 - x10)) 0) ≤ (mn (wrap64 (x2 - x10)) t139) then (if (mn (wrap64 (x2 - x10)) t139) ≤ (((rd_T40 x34 x36).f2).length : Int) then ((bytes_Clone.f ((((rd_T40 x34 x36).f2).take ((mn (wrap64 (x2 - x10)) t139) : Int).toNat).drop ((mx (wrap64 (x1 - x10)) 0) : Int).toNat)).bind fun t142 => (if x9.length < 3518437208883 then (delta_Part.l0 k x1 x2 (x9 ++ [(⟨0, 0, t142⟩ : S40)]) (wrap64 (x10 + t139)) x34 x35 (wrap64 (x36 + 1))) else (none))) else (none)) else (none)) else (none)) else (if x9.length < 3518437208883 then (delta_Part.l0 k x1 x2 (x9 ++ [(⟨wrap64 (((rd_T40 x34 x36).f0) + (mx (wrap64 (x1 - x10)) 0)), wrap64 ((mn (wrap64 (x2 - x10)) t139) - (mx (wrap64 (x1 - x10)) 0)), ([] : List Int)⟩ : S40)]) (wrap64 (x10 + t139)) x34 x35 (wrap64 (x36 + 1))) else (none)))))) else (none)) else (none)) else (some (x9, 0))
end
def delta_Part.f (k : Nat) (l0 : List (S40)) (a1 : Int) (a2 : Int) : Option ((List (S40)) × Int) := (delta_Check.f k l0 131072).bind fun t135 => (if t135 = 0 then (if a1 < 0 then (delta_Part.j0 k l0 a1 a2 true) else (if a1 > a2 then (delta_Part.j0 k l0 a1 a2 true) else ((delta_Size.f k l0).bind fun t136 => (delta_Part.j0 k l0 a1 a2 (decide (a2 > t136)))))) else (some (([] : List (S40)), t135)))
theorem delta_Part.mono_l : ∀ k, (∀ y0 y1 y2 y3, LeO (delta_Part.j0 k y0 y1 y2 y3) (delta_Part.j0 (k + 1) y0 y1 y2 y3)) ∧ (∀ y0 y1 y2 y3 y4 y5 y6, LeO (delta_Part.l0 k y0 y1 y2 y3 y4 y5 y6) (delta_Part.l0 (k + 1) y0 y1 y2 y3 y4 y5 y6))
 | 0 => ⟨fun _ _ _ _ r h => by simp [delta_Part.j0] at h, fun _ _ _ _ _ _ _ r h => by simp [delta_Part.l0] at h⟩
 | k + 1 => by
  obtain ⟨ih0, ih1⟩ := delta_Part.mono_l k
  refine ⟨?_, ?_⟩
  ·intro y0 y1 y2 y3
   unfold delta_Part.j0
   repeat' first
   | (with_reducible exact ih0 _ _ _ _)
   | (with_reducible exact ih1 _ _ _ _ _ _ _)
   | (with_reducible exact delta_Check.mono _ _ _)
   | (with_reducible exact delta_Size.mono _ _)
   | (with_reducible exact LeO.refl _)
   | (with_reducible exact LeO.none _)
   | (with_reducible refine LeO.ite ?_ ?_)
   | (with_reducible refine LeO.bind ?_ (fun _ => ?_))
   | exact ih0 _ _ _ _
   | exact ih1 _ _ _ _ _ _ _
   | exact delta_Check.mono _ _ _
   | exact delta_Size.mono _ _
   | exact LeO.none _
   | refine LeO.ite ?_ ?_
   | refine LeO.bind ?_ (fun _ => ?_)
  ·intro y0 y1 y2 y3 y4 y5 y6
   unfold delta_Part.l0
   repeat' first
   | (with_reducible exact ih0 _ _ _ _)
   | (with_reducible exact ih1 _ _ _ _ _ _ _)
   | (with_reducible exact delta_Check.mono _ _ _)
   | (with_reducible exact delta_Size.mono _ _)
   | (with_reducible exact LeO.refl _)
   | (with_reducible exact LeO.none _)
   | (with_reducible refine LeO.ite ?_ ?_)
   | (with_reducible refine LeO.bind ?_ (fun _ => ?_))
   | exact ih0 _ _ _ _
   | exact ih1 _ _ _ _ _ _ _
   | exact delta_Check.mono _ _ _
   | exact delta_Size.mono _ _
   | exact LeO.none _
   | refine LeO.ite ?_ ?_
   | refine LeO.bind ?_ (fun _ => ?_)
theorem delta_Part.mono : ∀ a0 a1 a2 k, LeO (delta_Part.f k a0 a1 a2) (delta_Part.f (k + 1) a0 a1 a2) := by
 intro a0 a1 a2 k
 obtain ⟨ih0, ih1⟩ := delta_Part.mono_l k
 unfold delta_Part.f
 repeat' first
   | (with_reducible exact ih0 _ _ _ _)
   | (with_reducible exact ih1 _ _ _ _ _ _ _)
   | (with_reducible exact delta_Check.mono _ _ _)
   | (with_reducible exact delta_Size.mono _ _)
   | (with_reducible exact LeO.refl _)
   | (with_reducible exact LeO.none _)
   | (with_reducible refine LeO.ite ?_ ?_)
   | (with_reducible refine LeO.bind ?_ (fun _ => ?_))
   | exact ih0 _ _ _ _
   | exact ih1 _ _ _ _ _ _ _
   | exact delta_Check.mono _ _ _
   | exact delta_Size.mono _ _
   | exact LeO.none _
   | refine LeO.ite ?_ ?_
   | refine LeO.bind ?_ (fun _ => ?_)
set_option maxHeartbeats 8000000 in
set_option maxRecDepth 100000 in
theorem delta_Part.calls (k : Nat) (A0 : Option Addr) (c0 : Nat) (l0 : List (S40)) (a1 : Int) (a2 : Int) (r1 : List (S40)) (r2 : Int) (w : World) (hr0 : Kd.C k40 w A0 l0.length l0) (hc0 : l0.length ≤ c0) (h : delta_Part.f k l0 a1 a2 = some (r1, r2)) :
  Calls Try.prog 27 #[.slice A0 l0.length c0, .int .i64 a1, .int .i64 a2] w fun e w' => ∃ v0_ : Value, e = .returned (.tuple #[v0_, .int .i64 r2]) ∧ Kd.S k40 40 w' w.heap.size (fun _ => True) v0_ r1 ∧ Below w.heap.size w w' := by
 have hu40 := Try.underlying40
 have HR0 := Aside0.mk hr0
 have HC0 := Aside0.mk hc0
 clear hr0 hc0
 have HB := Aside0.mk (Below.refl w.heap.size w)
 have H : ((delta_Check.f k l0 131072).bind fun t135 => (if t135 = 0 then (if a1 < 0 then (delta_Part.j0 k l0 a1 a2 true) else (if a1 > a2 then (delta_Part.j0 k l0 a1 a2 true) else ((delta_Size.f k l0).bind fun t136 => (delta_Part.j0 k l0 a1 a2 (decide (a2 > t136)))))) else (some (([] : List (S40)), t135)))) = some (r1, r2) := h
 clear h
 replace H := Option.bind_eq_some_iff.mp H
 obtain ⟨t135, A40, H⟩ := H
 replace H : (if t135 = 0 then (if a1 < 0 then (delta_Part.j0 k l0 a1 a2 true) else (if a1 > a2 then (delta_Part.j0 k l0 a1 a2 true) else ((delta_Size.f k l0).bind fun t136 => (delta_Part.j0 k l0 a1 a2 (decide (a2 > t136)))))) else (some (([] : List (S40)), t135))) = some (r1, r2) := H
 have A4 := Aside0.mk A40
 clear A40
 by_cases c5 : t135 = 0
 ·rw [if_pos c5] at H
  have c5b0 : (t135 == 0) = true := beq_iff_eq.mpr c5
  have c5b1 : (t135 != 0) = false := bne_eq_false_iff_eq.mpr c5
  clear c5
  have HC6 := Aside0.mk H
  clear H
  go_enter Try.func27, Try.ntmps27
  go_upto_region 4 with (first | ((with_reducible refine gate_callee (f := 14) rfl ?_); refine goesL_ (some 17) rfl rfl Try.func14 (by kernel_rfl) rfl #[.slice A0 l0.length c0, .int .i64 131072] rfl (by (try simp only [List.map_toArray, List.map_cons, List.map_nil]); first | done | rfl | (simp only [List.length_drop, List.length_take]; rfl)) ?_; (with_reducible refine (delta_Check.calls k _ _ l0 131072 t135 _ ?side1 ?side2 A4.out).mono ?_); (case side1 => repeat (first | exact HR0.out | (with_reducible refine Kd.C_alloc ?_ _) | (with_reducible refine Kd.C_drewN ?_ _) | (with_reducible refine Kd.C_drew ?_))); (case side2 => exact HC0.out); rintro e w7 ⟨rfl, hb⟩; refine ⟨_, rfl, ?_⟩; have n0_ := Aside0.mk (below_step (by repeat (first | exact HB.out | apply b1 | apply b2 | apply b3)) hb); clear HB; have HB := n0_; clear n0_; (try clear hb); (try clear hb2); (try clear hk); (try clear hi)))
  (try simp only [Act.put, List.setIfInBounds_toArray, List.set_cons_zero, List.set_cons_succ])
  go_cut [33] (fun v33 wc => ∃ (kq : Nat) (x33_5 : Bool), v33 = .bool x33_5 ∧ Aside0 (delta_Part.j0 kq l0 a1 a2 x33_5 = some (r1, r2)) ∧ Aside0 (kq ≤ k) ∧ Aside0 (Below w.heap.size w wc))
  case first =>
   have H := HC6.out
   clear HC6
   by_cases c8 : a1 < 0
   ·rw [if_pos c8] at H
    have c8b0 : decide (a1 < 0) = true := decide_eq_true c8
    clear c8
    (first | rw [c8b0] | (simp only [i64_w, i32_w]; rw [c8b0]) | skip)
    have H' := Aside0.mk H
    clear H
    go_wp2
    go_meet
    case rel => exact ⟨_, (true), (by first | rfl | (simp; done) | (simp [*]; done)), H', ⟨by first | omega | exact Nat.le_refl _⟩, ⟨by repeat (first | exact HB.out | apply b1 | apply b2 | apply b3)⟩⟩
   ·rw [if_neg c8] at H
    have c8b0 : decide (a1 < 0) = false := decide_eq_false c8
    clear c8
    (first | rw [c8b0] | (simp only [i64_w, i32_w]; rw [c8b0]) | skip)
    by_cases c9 : a1 > a2
    ·rw [if_pos c9] at H
     have c9b0 : decide (a2 < a1) = true := decide_eq_true c9
     clear c9
     have H' := Aside0.mk H
     clear H
     go_wp2
     go_meet
     case rel => exact ⟨_, (true), (by first | rfl | (simp; done) | (simp [*]; done)), H', ⟨by first | omega | exact Nat.le_refl _⟩, ⟨by repeat (first | exact HB.out | apply b1 | apply b2 | apply b3)⟩⟩
    ·rw [if_neg c9] at H
     have c9b0 : decide (a2 < a1) = false := decide_eq_false c9
     clear c9
     replace H := Option.bind_eq_some_iff.mp H
     obtain ⟨t136, A100, H⟩ := H
     replace H : (delta_Part.j0 k l0 a1 a2 (decide (a2 > t136))) = some (r1, r2) := H
     have A10 := Aside0.mk A100
     clear A100
     have H' := Aside0.mk H
     clear H
     go_wp2_with (first | (go_at_call 16; (with_reducible refine (delta_Size.calls k _ _ l0 t136 _ ?side1 ?side2 A10.out).mono ?_); (case side1 => repeat (first | exact (Kd.C_below HR0.out HB.out) | (with_reducible refine Kd.C_alloc ?_ _) | (with_reducible refine Kd.C_drewN ?_ _) | (with_reducible refine Kd.C_drew ?_))); (case side2 => exact HC0.out); rintro e w11 ⟨rfl, hb⟩; have n0_ := Aside0.mk (below_step (by repeat (first | exact HB.out | apply b1 | apply b2 | apply b3)) hb); clear HB; have HB := n0_; clear n0_; (try clear hb); (try clear hb2); (try clear hk); (try clear hi)))
     go_meet
     case rel => exact ⟨_, (decide (a2 > t136)), (by first | rfl | (simp; done) | (simp [*]; done)), H', ⟨by first | omega | exact Nat.le_refl _⟩, ⟨by repeat (first | exact HB.out | apply b1 | apply b2 | apply b3)⟩⟩
  case rest =>
   clear HC6
   try clear c1
   try clear c2
   try clear p2
   try clear c5
   try clear c5b0
   try clear c5b1
   try clear c8
   try clear c8b0
   try clear c9
   try clear c9b0
   obtain ⟨kq, x33_5, rfl, HA, HJ5, HB⟩ := hcut
   cases kq with
   | zero => exact absurd HA.out (by simp [delta_Part.j0])
   | succ kj5 =>
    have H := HA.out
    clear HA
    simp only [delta_Part.j0] at H
    by_cases c12 : x33_5 = true
    ·subst c12
     have H1 : (some (([] : List (S40)), 3)) = some (r1, r2) := by rw [if_pos rfl] at H; exact H
     clear H
     have H := H1
     clear H1
     simp only [Option.some.injEq, Prod.mk.injEq] at H
     obtain ⟨rfl, rfl⟩ := H
     go_wp2
     go_ret2
     exact ⟨_, by first | rfl | (simp [*] <;> rfl), by first | exact Kd.S_nil _ _ _ _ _ | exact Kd.N_nil _ _ _ _ _ | exact Kd.V_nil _ _ _ _ _ | exact Kd.Q_nil _ _ _ _ _ | exact Kd.R_nil _ _ _ _ _, by repeat (first | exact HB.out | apply b1 | apply b2 | apply b3)⟩
    ·replace c12 := Bool.eq_false_iff.mpr c12
     subst c12
     have H1 : (delta_Part.l0 kj5 a1 a2 ([] : List (S40)) 0 l0 (l0.length : Int) 0) = some (r1, r2) := by rw [if_neg (show ¬ (false = true) by decide)] at H; exact H
     clear H
     have H := H1
     clear H1
     have H' := Aside0.mk H
     clear H
     go_wp2
     go_loopg [9, 10, 36] kj5 (fun kq v9 v10 v36 w' => ∃ (x9_2 : List (S40)) (x10_2 : Int) (x36_2 : Int), v10 = .int .i64 x10_2 ∧ v36 = .int .i64 x36_2 ∧ Aside0 (delta_Part.l0 kq a1 a2 x9_2 x10_2 l0 (l0.length : Int) x36_2 = some (r1, r2)) ∧ Aside0 (kq ≤ kj5) ∧ Aside0 (Kd.S k40 40 w' w.heap.size (fun _ => True) v9 x9_2) ∧ Aside0 (Below w.heap.size w w'))
     case atStart => exact ⟨(([] : List (S40))), (0), (0), (by first | rfl | (simp; done) | (simp [*]; done)), (by first | rfl | (simp; done) | (simp [*]; done)), H', ⟨Nat.le_refl _⟩, ⟨by first | exact Kd.S_nil _ _ _ _ _ | exact Kd.N_nil _ _ _ _ _ | exact Kd.V_nil _ _ _ _ _ | exact Kd.Q_nil _ _ _ _ _ | exact Kd.R_nil _ _ _ _ _⟩, ⟨by repeat (first | exact HB.out | apply b1 | apply b2 | apply b3)⟩⟩
     case round =>
      clear H'
      try clear c1
      try clear c2
      try clear p2
      try clear c5
      try clear c5b0
      try clear c5b1
      try clear c8
      try clear c8b0
      try clear c9
      try clear c9b0
      try clear c12
      try clear p2
      obtain ⟨x9_2, x10_2, x36_2, rfl, rfl, HA, HK2, HO_9, HB⟩ := hrel
      cases gk with
      | zero => exact absurd HA.out (by simp [delta_Part.l0])
      | succ k2 =>
       have H := HA.out
       clear HA
       simp only [delta_Part.l0] at H
       by_cases c13 : x36_2 < (l0.length : Int)
       ·rw [if_pos c13] at H
        have c13b0 : decide (x36_2 < (l0.length : Int)) = true := decide_eq_true c13
        clear c13
        by_cases c14 : 0 ≤ x36_2
        ·rw [if_pos c14] at H
         have c14b0 : decide (0 ≤ x36_2) = true := decide_eq_true c14
         clear c14
         by_cases c15 : x36_2 < (l0.length : Int)
         ·rw [if_pos c15] at H
          have c15b0 : decide (x36_2 < (l0.length : Int)) = true := decide_eq_true c15
          clear c15
          replace H := Option.bind_eq_some_iff.mp H
          obtain ⟨t139, A160, H⟩ := H
          replace H : (if (mx (wrap64 (a1 - x10_2)) 0) ≥ (mn (wrap64 (a2 - x10_2)) t139) then (delta_Part.l0 k2 a1 a2 x9_2 (wrap64 (x10_2 + t139)) l0 (l0.length : Int) (wrap64 (x36_2 + 1))) else ((delta_told.f ((rd_T40 l0 x36_2).f0) ((rd_T40 l0 x36_2).f1) ((rd_T40 l0 x36_2).f2)).bind fun t140 => (if t140 = true then (if 0 ≤ (mx (wrap64 (a1 - x10_2)) 0) then (if (mx (wrap64 (a1 - x10_2)) 0) ≤ (mn (wrap64 (a2 - x10_2)) t139) then (if (mn (wrap64 (a2 - x10_2)) t139) ≤ (((rd_T40 l0 x36_2).f2).length : Int) then ((bytes_Clone.f ((((rd_T40 l0 x36_2).f2).take ((mn (wrap64 (a2 - x10_2)) t139) : Int).toNat).drop ((mx (wrap64 (a1 - x10_2)) 0) : Int).toNat)).bind fun t142 => (if x9_2.length < 3518437208883 then (delta_Part.l0 k2 a1 a2 (x9_2 ++ [(⟨0, 0, t142⟩ : S40)]) (wrap64 (x10_2 + t139)) l0 (l0.length : Int) (wrap64 (x36_2 + 1))) else (none))) else (none)) else (none)) else (none)) else (if x9_2.length < 3518437208883 then (delta_Part.l0 k2 a1 a2 (x9_2 ++ [(⟨wrap64 (((rd_T40 l0 x36_2).f0) + (mx (wrap64 (a1 - x10_2)) 0)), wrap64 ((mn (wrap64 (a2 - x10_2)) t139) - (mx (wrap64 (a1 - x10_2)) 0)), ([] : List Int)⟩ : S40)]) (wrap64 (x10_2 + t139)) l0 (l0.length : Int) (wrap64 (x36_2 + 1))) else (none))))) = some (r1, r2) := H
          have A16 := Aside0.mk A160
          clear A160
          obtain ⟨ji17, hji17⟩ : ∃ j_ : Int, (mx (wrap64 (a1 - x10_2)) 0) = j_ := ⟨_, rfl⟩
          replace H : (if (ji17) ≥ (mn (wrap64 (a2 - x10_2)) t139) then (delta_Part.l0 k2 a1 a2 x9_2 (wrap64 (x10_2 + t139)) l0 (l0.length : Int) (wrap64 (x36_2 + 1))) else ((delta_told.f ((rd_T40 l0 x36_2).f0) ((rd_T40 l0 x36_2).f1) ((rd_T40 l0 x36_2).f2)).bind fun t140 => (if t140 = true then (if 0 ≤ (ji17) then (if (ji17) ≤ (mn (wrap64 (a2 - x10_2)) t139) then (if (mn (wrap64 (a2 - x10_2)) t139) ≤ (((rd_T40 l0 x36_2).f2).length : Int) then ((bytes_Clone.f ((((rd_T40 l0 x36_2).f2).take ((mn (wrap64 (a2 - x10_2)) t139) : Int).toNat).drop ((ji17) : Int).toNat)).bind fun t142 => (if x9_2.length < 3518437208883 then (delta_Part.l0 k2 a1 a2 (x9_2 ++ [(⟨0, 0, t142⟩ : S40)]) (wrap64 (x10_2 + t139)) l0 (l0.length : Int) (wrap64 (x36_2 + 1))) else (none))) else (none)) else (none)) else (none)) else (if x9_2.length < 3518437208883 then (delta_Part.l0 k2 a1 a2 (x9_2 ++ [(⟨wrap64 (((rd_T40 l0 x36_2).f0) + (ji17)), wrap64 ((mn (wrap64 (a2 - x10_2)) t139) - (ji17)), ([] : List Int)⟩ : S40)]) (wrap64 (x10_2 + t139)) l0 (l0.length : Int) (wrap64 (x36_2 + 1))) else (none))))) = some (r1, r2) := by first | (rw [hji17] at H; exact H) | (simp only [hji17] at H ⊢; exact H)
          (try rw [hji17] at A16)
          have hji17_ : (if (wrap64 (a1 - x10_2)) < 0 then 0 else (wrap64 (a1 - x10_2))) = ji17 := hji17
          obtain ⟨ji18, hji18⟩ : ∃ j_ : Int, (mn (wrap64 (a2 - x10_2)) t139) = j_ := ⟨_, rfl⟩
          replace H : (if (ji17) ≥ (ji18) then (delta_Part.l0 k2 a1 a2 x9_2 (wrap64 (x10_2 + t139)) l0 (l0.length : Int) (wrap64 (x36_2 + 1))) else ((delta_told.f ((rd_T40 l0 x36_2).f0) ((rd_T40 l0 x36_2).f1) ((rd_T40 l0 x36_2).f2)).bind fun t140 => (if t140 = true then (if 0 ≤ (ji17) then (if (ji17) ≤ (ji18) then (if (ji18) ≤ (((rd_T40 l0 x36_2).f2).length : Int) then ((bytes_Clone.f ((((rd_T40 l0 x36_2).f2).take ((ji18) : Int).toNat).drop ((ji17) : Int).toNat)).bind fun t142 => (if x9_2.length < 3518437208883 then (delta_Part.l0 k2 a1 a2 (x9_2 ++ [(⟨0, 0, t142⟩ : S40)]) (wrap64 (x10_2 + t139)) l0 (l0.length : Int) (wrap64 (x36_2 + 1))) else (none))) else (none)) else (none)) else (none)) else (if x9_2.length < 3518437208883 then (delta_Part.l0 k2 a1 a2 (x9_2 ++ [(⟨wrap64 (((rd_T40 l0 x36_2).f0) + (ji17)), wrap64 ((ji18) - (ji17)), ([] : List Int)⟩ : S40)]) (wrap64 (x10_2 + t139)) l0 (l0.length : Int) (wrap64 (x36_2 + 1))) else (none))))) = some (r1, r2) := by first | (rw [hji18] at H; exact H) | (simp only [hji18] at H ⊢; exact H)
          (try rw [hji18] at A16)
          have hji18_ : (if t139 < (wrap64 (a2 - x10_2)) then t139 else (wrap64 (a2 - x10_2))) = ji18 := hji18
          by_cases c19 : (ji17) ≥ (ji18)
          ·rw [if_pos c19] at H
           have c19b0 : decide ((ji18) ≤ (ji17)) = true := decide_eq_true c19
           clear c19
           have H' := Aside0.mk H
           clear H
           have p137 : 0 ≤ (x36_2 : Int) := of_decide_eq_true (by assumption)
           have q137 : x36_2 < (l0.length : Int) := of_decide_eq_true (by assumption)
           obtain ⟨ad137, A137_2, c137_2, e137, hx137_0, hx137_1, hx137_2, hl137_2, hi137_2⟩ := at_T40 HR0.out x36_2 p137 q137
           cases e137
           replace hx137_0 := (HB.out.cell (World.block_lt_of_cell? w _ hx137_0)).trans hx137_0
           replace hx137_1 := (HB.out.cell (World.block_lt_of_cell? w _ hx137_1)).trans hx137_1
           replace hx137_2 := (HB.out.cell (World.block_lt_of_cell? w _ hx137_2)).trans hx137_2
           have HR137_2 := Aside0.mk hi137_2
           have HC137_2 := Aside0.mk hl137_2
           clear hi137_2 hl137_2
           replace p137 := eq_true p137
           replace q137 := eq_true q137
           go_wp2_with (first | ((with_reducible refine gate_dst (N := 12) rfl ?_); refine box_event ?hg (N := 12) ?hd (cs := #[.int .i64 0, .int .i64 0, .slice none 0 0]) (t := 40) ?hr ?_; (case hd => rfl); (case hg => rfl); (case hr => first | (go_simp; done) | (go_simp; rfl)); intro gb138 hg w20 hbox hb; have n0_ := Aside0.mk (Kd.S_below (Kd.S_elderB (by (with_reducible repeat (first | apply Kd.S_alloc | apply Kd.S_drewN | apply Kd.S_drew)); exact HO_9.out) gb138 (Nat.le_of_eq hg.symm)) hb); have n1_ := Aside0.mk (below_step (by repeat (first | exact HB.out | apply b1 | apply b2 | apply b3)) hb); have n2_ := Aside0.mk (hbox); have n3_ := Aside0.mk ((by rw [hg]; exact (below_size (by repeat (first | exact HB.out | apply b1 | apply b2 | apply b3))) : w.heap.size ≤ gb138)); have n4_ := Aside0.mk ((by rw [hg]; exact (below_size (by repeat (first | exact HB.out | apply b1 | apply b2 | apply b3))) : w.heap.size ≤ gb138)); clear HO_9; clear HB; have HO_9 := n0_; have HB := n1_; have BK138 := n2_; have GW138 := n3_; have GE138 := n4_; clear n0_ n1_ n2_ n3_ n4_; clear hb hbox hg; have hcz21_0 : w20.cell? ⟨gb138, 0, none⟩ = some (.int .i64 0) := (blk_cell BK138.out 0).trans rfl; have hcz21_1 : w20.cell? ⟨gb138, 1, none⟩ = some (.int .i64 0) := (blk_cell BK138.out 1).trans rfl; have hcz21_2 : w20.cell? ⟨gb138, 2, none⟩ = some (.slice none 0 0) := (blk_cell BK138.out 2).trans rfl; have hfz21_0 := blk_frozen BK138.out 0; have hfz21_1 := blk_frozen BK138.out 1; have hfz21_2 := blk_frozen BK138.out 2) | ((with_reducible refine gate_callee (f := 32) rfl ?_); refine goesL_ (some 41) rfl rfl Try.func32 (by kernel_rfl) rfl #[.agg #[.int .i64 ((rd_T40 l0 x36_2).f0), .int .i64 ((rd_T40 l0 x36_2).f1), .slice A137_2 ((rd_T40 l0 x36_2).f2).length c137_2]] rfl (by (try simp only [List.map_toArray, List.map_cons, List.map_nil]); first | done | rfl | (simp only [List.length_drop, List.length_take]; rfl)) ?_; (with_reducible refine (delta_length.calls ((rd_T40 l0 x36_2).f0) ((rd_T40 l0 x36_2).f1) _ _ ((rd_T40 l0 x36_2).f2) t139 _ ?side1 ?side2 A16.out).mono ?_); (case side1 => exact Kd.C_below HR137_2.out (by repeat (first | (with_reducible first | exact HB.out | apply b1 | apply b2 | apply b3 | refine below_set ?_ GE138.out) | exact HB.out))); (case side2 => exact HC137_2.out); rintro e w22 ⟨rfl, hb⟩; refine ⟨_, rfl, ?_⟩; have n0_ := Aside0.mk (Kd.S_below (by (with_reducible repeat (first | apply Kd.S_alloc | apply Kd.S_drewN | apply Kd.S_drew)); exact (Kd.S_mono (Kd.S_far (p := ⟨gb138, 2, none⟩) (Kd.S_far (p := ⟨gb138, 1, none⟩) (Kd.S_far (p := ⟨gb138, 0, none⟩) (Kd.S_mono HO_9.out (fun k_ hk => (⟨hk, hk.2⟩ : _ ∧ k_ ≠ gb138))) (fun _ hk => hk.2) (.int .i64 ((rd_T40 l0 x36_2).f0))) (fun _ hk => hk.2) (.int .i64 ((rd_T40 l0 x36_2).f1))) (fun _ hk => hk.2) (.slice A137_2 ((rd_T40 l0 x36_2).f2).length c137_2)) (fun _ h_ => h_.1))) hb); have n1_ := Aside0.mk (blk_below (g := gb138) (o := .cells #[.int .i64 ((rd_T40 l0 x36_2).f0), .int .i64 ((rd_T40 l0 x36_2).f1), .slice A137_2 ((rd_T40 l0 x36_2).f2).length c137_2] 40 (0, 0)) (by (with_reducible repeat (first | refine blk_drewN ?_ _ | refine blk_drew ?_ | refine blk_alloc ?_ _)); refine blk_put (cs := #[.int .i64 ((rd_T40 l0 x36_2).f0), .int .i64 ((rd_T40 l0 x36_2).f1), .slice none 0 0]) ?_ 2 _ rfl; (with_reducible repeat (first | refine blk_drewN ?_ _ | refine blk_drew ?_ | refine blk_alloc ?_ _)); refine blk_put (cs := #[.int .i64 ((rd_T40 l0 x36_2).f0), .int .i64 0, .slice none 0 0]) ?_ 1 _ rfl; (with_reducible repeat (first | refine blk_drewN ?_ _ | refine blk_drew ?_ | refine blk_alloc ?_ _)); refine blk_put (cs := #[.int .i64 0, .int .i64 0, .slice none 0 0]) ?_ 0 _ rfl; (with_reducible repeat (first | refine blk_drewN ?_ _ | refine blk_drew ?_ | refine blk_alloc ?_ _)); exact BK138.out) hb); have n2_ := Aside0.mk (below_step (by repeat (first | (with_reducible first | exact HB.out | apply b1 | apply b2 | apply b3 | refine below_set ?_ GE138.out) | exact HB.out)) hb); clear HO_9; clear BK138; clear HB; have HO_9 := n0_; have BK138 := n1_; have HB := n2_; clear n0_ n1_ n2_; (try clear hb); (try clear hb2); (try clear hk); (try clear hi)))
           go_roundg k2
           case measure => have := HJ5.out; have := HK2.out; omega
           case rel => exact ⟨(x9_2), (wrap64 (x10_2 + t139)), (wrap64 (x36_2 + 1)), (by first | rfl | (simp; done) | (simp [*]; done)), (by first | rfl | (simp; done) | (simp [*]; done)), H', ⟨by have := HJ5.out; have := HK2.out; omega⟩, ⟨by (with_reducible repeat (first | apply Kd.S_alloc | apply Kd.S_drewN | apply Kd.S_drew)); exact Kd.S_mono HO_9.out (fun _ hk => trivial)⟩, ⟨by repeat (first | (with_reducible first | exact HB.out | apply b1 | apply b2 | apply b3 | refine below_set ?_ GE138.out) | exact HB.out)⟩⟩
          ·rw [if_neg c19] at H
           have c19b0 : decide ((ji18) ≤ (ji17)) = false := decide_eq_false c19
           clear c19
           replace H := Option.bind_eq_some_iff.mp H
           obtain ⟨t140, A230, H⟩ := H
           replace H : (if t140 = true then (if 0 ≤ (ji17) then (if (ji17) ≤ (ji18) then (if (ji18) ≤ (((rd_T40 l0 x36_2).f2).length : Int) then ((bytes_Clone.f ((((rd_T40 l0 x36_2).f2).take ((ji18) : Int).toNat).drop ((ji17) : Int).toNat)).bind fun t142 => (if x9_2.length < 3518437208883 then (delta_Part.l0 k2 a1 a2 (x9_2 ++ [(⟨0, 0, t142⟩ : S40)]) (wrap64 (x10_2 + t139)) l0 (l0.length : Int) (wrap64 (x36_2 + 1))) else (none))) else (none)) else (none)) else (none)) else (if x9_2.length < 3518437208883 then (delta_Part.l0 k2 a1 a2 (x9_2 ++ [(⟨wrap64 (((rd_T40 l0 x36_2).f0) + (ji17)), wrap64 ((ji18) - (ji17)), ([] : List Int)⟩ : S40)]) (wrap64 (x10_2 + t139)) l0 (l0.length : Int) (wrap64 (x36_2 + 1))) else (none))) = some (r1, r2) := H
           have A23 := Aside0.mk A230
           clear A230
           by_cases c24 : t140 = true
           ·subst c24
            have H1 : (if 0 ≤ (ji17) then (if (ji17) ≤ (ji18) then (if (ji18) ≤ (((rd_T40 l0 x36_2).f2).length : Int) then ((bytes_Clone.f ((((rd_T40 l0 x36_2).f2).take ((ji18) : Int).toNat).drop ((ji17) : Int).toNat)).bind fun t142 => (if x9_2.length < 3518437208883 then (delta_Part.l0 k2 a1 a2 (x9_2 ++ [(⟨0, 0, t142⟩ : S40)]) (wrap64 (x10_2 + t139)) l0 (l0.length : Int) (wrap64 (x36_2 + 1))) else (none))) else (none)) else (none)) else (none)) = some (r1, r2) := by rw [if_pos rfl] at H; exact H
            clear H
            have H := H1
            clear H1
            by_cases c25 : 0 ≤ (ji17)
            ·rw [if_pos c25] at H
             have c25b0 := eq_true c25
             have c25b1 : decide (0 ≤ (ji17)) = true := decide_eq_true c25
             clear c25
             by_cases c26 : (ji17) ≤ (ji18)
             ·rw [if_pos c26] at H
              have c26b0 := eq_true c26
              have c26b1 : decide ((ji17) ≤ (ji18)) = true := decide_eq_true c26
              clear c26
              by_cases c27 : (ji18) ≤ (((rd_T40 l0 x36_2).f2).length : Int)
              ·rw [if_pos c27] at H
               have c27b0 := eq_true c27
               have c27b1 : decide ((ji18) ≤ (((rd_T40 l0 x36_2).f2).length : Int)) = true := decide_eq_true c27
               clear c27
               replace H := Option.bind_eq_some_iff.mp H
               obtain ⟨t142, A280, H⟩ := H
               replace H : (if x9_2.length < 3518437208883 then (delta_Part.l0 k2 a1 a2 (x9_2 ++ [(⟨0, 0, t142⟩ : S40)]) (wrap64 (x10_2 + t139)) l0 (l0.length : Int) (wrap64 (x36_2 + 1))) else (none)) = some (r1, r2) := H
               have A28 := Aside0.mk A280
               clear A280
               by_cases c29 : x9_2.length < 3518437208883
               ·rw [if_pos c29] at H
                have LMc29 := Aside0.mk c29
                clear c29
                obtain ⟨y145, hy145⟩ : ∃ y_ : List (S40), y_ = (x9_2 ++ [(⟨0, 0, t142⟩ : S40)]) := ⟨_, rfl⟩
                replace H : (delta_Part.l0 k2 a1 a2 y145 (wrap64 (x10_2 + t139)) l0 (l0.length : Int) (wrap64 (x36_2 + 1))) = some (r1, r2) := by first | (rw [hy145]; with_reducible exact H) | (have H2_ := (Option.bind_some _ _).symm.trans H; rw [hy145]; with_reducible exact H2_) | (have H2_ := (Option.bind_some _ _).symm.trans H; with_reducible exact H2_) | with_reducible exact H | (rw [hy145]; exact H) | exact H
                have Ny145 := Aside0.mk hy145
                clear hy145
                have H' := Aside0.mk H
                clear H
                have p137 : 0 ≤ (x36_2 : Int) := of_decide_eq_true (by assumption)
                have q137 : x36_2 < (l0.length : Int) := of_decide_eq_true (by assumption)
                obtain ⟨ad137, A137_2, c137_2, e137, hx137_0, hx137_1, hx137_2, hl137_2, hi137_2⟩ := at_T40 HR0.out x36_2 p137 q137
                cases e137
                replace hx137_0 := (HB.out.cell (World.block_lt_of_cell? w _ hx137_0)).trans hx137_0
                replace hx137_1 := (HB.out.cell (World.block_lt_of_cell? w _ hx137_1)).trans hx137_1
                replace hx137_2 := (HB.out.cell (World.block_lt_of_cell? w _ hx137_2)).trans hx137_2
                have HR137_2 := Aside0.mk hi137_2
                have HC137_2 := Aside0.mk hl137_2
                clear hi137_2 hl137_2
                replace p137 := eq_true p137
                replace q137 := eq_true q137
                go_wp2_with (first | ((with_reducible refine gate_dst (N := 12) rfl ?_); refine box_event ?hg (N := 12) ?hd (cs := #[.int .i64 0, .int .i64 0, .slice none 0 0]) (t := 40) ?hr ?_; (case hd => rfl); (case hg => rfl); (case hr => first | (go_simp; done) | (go_simp; rfl)); intro gb138 hg w30 hbox hb; have n0_ := Aside0.mk (Kd.S_below (Kd.S_elderB (by (with_reducible repeat (first | apply Kd.S_alloc | apply Kd.S_drewN | apply Kd.S_drew)); exact HO_9.out) gb138 (Nat.le_of_eq hg.symm)) hb); have n1_ := Aside0.mk (below_step (by repeat (first | exact HB.out | apply b1 | apply b2 | apply b3)) hb); have n2_ := Aside0.mk (hbox); have n3_ := Aside0.mk ((by rw [hg]; exact (below_size (by repeat (first | exact HB.out | apply b1 | apply b2 | apply b3))) : w.heap.size ≤ gb138)); have n4_ := Aside0.mk ((by rw [hg]; exact (below_size (by repeat (first | exact HB.out | apply b1 | apply b2 | apply b3))) : w.heap.size ≤ gb138)); clear HO_9; clear HB; have HO_9 := n0_; have HB := n1_; have BK138 := n2_; have GW138 := n3_; have GE138 := n4_; clear n0_ n1_ n2_ n3_ n4_; clear hb hbox hg; have hcz31_0 : w30.cell? ⟨gb138, 0, none⟩ = some (.int .i64 0) := (blk_cell BK138.out 0).trans rfl; have hcz31_1 : w30.cell? ⟨gb138, 1, none⟩ = some (.int .i64 0) := (blk_cell BK138.out 1).trans rfl; have hcz31_2 : w30.cell? ⟨gb138, 2, none⟩ = some (.slice none 0 0) := (blk_cell BK138.out 2).trans rfl; have hfz31_0 := blk_frozen BK138.out 0; have hfz31_1 := blk_frozen BK138.out 1; have hfz31_2 := blk_frozen BK138.out 2) | ((with_reducible refine gate_callee (f := 32) rfl ?_); refine goesL_ (some 41) rfl rfl Try.func32 (by kernel_rfl) rfl #[.agg #[.int .i64 ((rd_T40 l0 x36_2).f0), .int .i64 ((rd_T40 l0 x36_2).f1), .slice A137_2 ((rd_T40 l0 x36_2).f2).length c137_2]] rfl (by (try simp only [List.map_toArray, List.map_cons, List.map_nil]); first | done | rfl | (simp only [List.length_drop, List.length_take]; rfl)) ?_; (with_reducible refine (delta_length.calls ((rd_T40 l0 x36_2).f0) ((rd_T40 l0 x36_2).f1) _ _ ((rd_T40 l0 x36_2).f2) t139 _ ?side1 ?side2 A16.out).mono ?_); (case side1 => exact Kd.C_below HR137_2.out (by repeat (first | (with_reducible first | exact HB.out | apply b1 | apply b2 | apply b3 | refine below_set ?_ GE138.out) | exact HB.out))); (case side2 => exact HC137_2.out); rintro e w32 ⟨rfl, hb⟩; refine ⟨_, rfl, ?_⟩; have n0_ := Aside0.mk (Kd.S_below (by (with_reducible repeat (first | apply Kd.S_alloc | apply Kd.S_drewN | apply Kd.S_drew)); exact (Kd.S_mono (Kd.S_far (p := ⟨gb138, 2, none⟩) (Kd.S_far (p := ⟨gb138, 1, none⟩) (Kd.S_far (p := ⟨gb138, 0, none⟩) (Kd.S_mono HO_9.out (fun k_ hk => (⟨hk, hk.2⟩ : _ ∧ k_ ≠ gb138))) (fun _ hk => hk.2) (.int .i64 ((rd_T40 l0 x36_2).f0))) (fun _ hk => hk.2) (.int .i64 ((rd_T40 l0 x36_2).f1))) (fun _ hk => hk.2) (.slice A137_2 ((rd_T40 l0 x36_2).f2).length c137_2)) (fun _ h_ => h_.1))) hb); have n1_ := Aside0.mk (blk_below (g := gb138) (o := .cells #[.int .i64 ((rd_T40 l0 x36_2).f0), .int .i64 ((rd_T40 l0 x36_2).f1), .slice A137_2 ((rd_T40 l0 x36_2).f2).length c137_2] 40 (0, 0)) (by (with_reducible repeat (first | refine blk_drewN ?_ _ | refine blk_drew ?_ | refine blk_alloc ?_ _)); refine blk_put (cs := #[.int .i64 ((rd_T40 l0 x36_2).f0), .int .i64 ((rd_T40 l0 x36_2).f1), .slice none 0 0]) ?_ 2 _ rfl; (with_reducible repeat (first | refine blk_drewN ?_ _ | refine blk_drew ?_ | refine blk_alloc ?_ _)); refine blk_put (cs := #[.int .i64 ((rd_T40 l0 x36_2).f0), .int .i64 0, .slice none 0 0]) ?_ 1 _ rfl; (with_reducible repeat (first | refine blk_drewN ?_ _ | refine blk_drew ?_ | refine blk_alloc ?_ _)); refine blk_put (cs := #[.int .i64 0, .int .i64 0, .slice none 0 0]) ?_ 0 _ rfl; (with_reducible repeat (first | refine blk_drewN ?_ _ | refine blk_drew ?_ | refine blk_alloc ?_ _)); exact BK138.out) hb); have n2_ := Aside0.mk (below_step (by repeat (first | (with_reducible first | exact HB.out | apply b1 | apply b2 | apply b3 | refine below_set ?_ GE138.out) | exact HB.out)) hb); clear HO_9; clear BK138; clear HB; have HO_9 := n0_; have BK138 := n1_; have HB := n2_; clear n0_ n1_ n2_; (try clear hb); (try clear hb2); (try clear hk); (try clear hi); have hcz33_0 : w32.cell? ⟨gb138, 0, none⟩ = some (.int .i64 ((rd_T40 l0 x36_2).f0)) := (blk_cell BK138.out 0).trans rfl; have hcz33_1 : w32.cell? ⟨gb138, 1, none⟩ = some (.int .i64 ((rd_T40 l0 x36_2).f1)) := (blk_cell BK138.out 1).trans rfl; have hcz33_2 : w32.cell? ⟨gb138, 2, none⟩ = some (.slice A137_2 ((rd_T40 l0 x36_2).f2).length c137_2) := (blk_cell BK138.out 2).trans rfl; have hfz33_0 := blk_frozen BK138.out 0; have hfz33_1 := blk_frozen BK138.out 1; have hfz33_2 := blk_frozen BK138.out 2) | ((with_reducible refine gate_callee (f := 31) rfl ?_); refine goesL_ (some 58) rfl rfl Try.func31 (by kernel_rfl) rfl #[.agg #[.int .i64 ((rd_T40 l0 x36_2).f0), .int .i64 ((rd_T40 l0 x36_2).f1), .slice A137_2 ((rd_T40 l0 x36_2).f2).length c137_2]] rfl (by (try simp only [List.map_toArray, List.map_cons, List.map_nil]); first | done | rfl | (simp only [List.length_drop, List.length_take]; rfl)) ?_; (with_reducible refine (delta_told.calls ((rd_T40 l0 x36_2).f0) ((rd_T40 l0 x36_2).f1) _ _ ((rd_T40 l0 x36_2).f2) true _ ?side1 ?side2 A23.out).mono ?_); (case side1 => repeat (first | exact (Kd.C_below HR137_2.out HB.out) | (with_reducible refine Kd.C_alloc ?_ _) | (with_reducible refine Kd.C_drewN ?_ _) | (with_reducible refine Kd.C_drew ?_))); (case side2 => exact HC137_2.out); rintro e w34 ⟨rfl, hb⟩; refine ⟨_, rfl, ?_⟩; have n0_ := Aside0.mk (Kd.S_below (by (with_reducible repeat (first | apply Kd.S_alloc | apply Kd.S_drewN | apply Kd.S_drew)); exact HO_9.out) hb); have n1_ := Aside0.mk (blk_below (g := gb138) (o := .cells #[.int .i64 ((rd_T40 l0 x36_2).f0), .int .i64 ((rd_T40 l0 x36_2).f1), .slice A137_2 ((rd_T40 l0 x36_2).f2).length c137_2] 40 (0, 0)) (by (with_reducible repeat (first | refine blk_drewN ?_ _ | refine blk_drew ?_ | refine blk_alloc ?_ _)); exact BK138.out) hb); have n2_ := Aside0.mk (below_step (by repeat (first | (with_reducible first | exact HB.out | apply b1 | apply b2 | apply b3 | refine below_set ?_ GE138.out) | exact HB.out)) hb); clear HO_9; clear BK138; clear HB; have HO_9 := n0_; have BK138 := n1_; have HB := n2_; clear n0_ n1_ n2_; (try clear hb); (try clear hb2); (try clear hk); (try clear hi); have hcz35_0 : w34.cell? ⟨gb138, 0, none⟩ = some (.int .i64 ((rd_T40 l0 x36_2).f0)) := (blk_cell BK138.out 0).trans rfl; have hcz35_1 : w34.cell? ⟨gb138, 1, none⟩ = some (.int .i64 ((rd_T40 l0 x36_2).f1)) := (blk_cell BK138.out 1).trans rfl; have hcz35_2 : w34.cell? ⟨gb138, 2, none⟩ = some (.slice A137_2 ((rd_T40 l0 x36_2).f2).length c137_2) := (blk_cell BK138.out 2).trans rfl; have hfz35_0 := blk_frozen BK138.out 0; have hfz35_1 := blk_frozen BK138.out 1; have hfz35_2 := blk_frozen BK138.out 2; obtain ⟨i036, hi036, _, hsz36, _⟩ := info_parts info5; obtain ⟨A36, hcut36, hA36, hC36⟩ := print_mid_of (P := Try.prog) (Value.int .u8) 0 31 5 .i64 .i64 Try.underlying31 hi036 hsz36 A137_2 c137_2 ((rd_T40 l0 x36_2).f2) (ji17) (ji18) (of_decide_eq_true (by assumption)) (by first | omega | exact of_decide_eq_true (by assumption)) (of_decide_eq_true (by assumption)) HC137_2.out; have HR141 := Aside0.mk (Kd.C_of_reads (h1 := fun _ => rfl) (hA36 _ (Kd.reads_of_C HR137_2.out))); have HC141 := Aside0.mk hC36; clear hA36 hC36 hi036 hsz36) | ((with_reducible refine gate_callee (f := 37) rfl ?_); refine goesL_ (some 65) rfl rfl Try.func37 (by kernel_rfl) rfl #[.slice A36 ((((rd_T40 l0 x36_2).f2).take ((ji18) : Int).toNat).drop ((ji17) : Int).toNat).length (c137_2 - (ji17).toNat)] rfl (by (try simp only [List.map_toArray, List.map_cons, List.map_nil]); first | done | (rw [show ((((rd_T40 l0 x36_2).f2).take ((ji18) : Int).toNat).drop ((ji17) : Int).toNat).length = ((ji18).toNat - (ji17).toNat) from (by rw [List.length_drop, List.length_take]; have h_ : ((ji18) : Int) ≤ (((rd_T40 l0 x36_2).f2).length : Int) := of_decide_eq_true (by assumption); omega)] <;> rfl) | (simp only [hji17, hji18]; rfl) | rfl | (simp only [List.length_drop, List.length_take]; rfl)) ?_; (with_reducible refine (bytes_Clone.calls _ _ ((((rd_T40 l0 x36_2).f2).take ((ji18) : Int).toNat).drop ((ji17) : Int).toNat) t142 _ ?side1 ?side2 A28.out).mono ?_); (case side1 => repeat (first | exact (Kd.C_below HR141.out HB.out) | (with_reducible refine Kd.C_alloc ?_ _) | (with_reducible refine Kd.C_drewN ?_ _) | (with_reducible refine Kd.C_drew ?_))); (case side2 => exact HC141.out); rintro e w37 ⟨v143, rfl, ho0, hb⟩; refine ⟨_, rfl, ?_⟩; have n0_ := Aside0.mk (Kd.S_elder' (by (with_reducible repeat (first | apply Kd.S_alloc | apply Kd.S_drewN | apply Kd.S_drew)); exact HO_9.out) (Kd.R_base ho0) hb); have n1_ := Aside0.mk (Kd.R_lower ho0 (below_size (by repeat (first | (with_reducible first | exact HB.out | apply b1 | apply b2 | apply b3 | refine below_set ?_ GE138.out) | exact HB.out)))); have n2_ := Aside0.mk (blk_below (g := gb138) (o := .cells #[.int .i64 ((rd_T40 l0 x36_2).f0), .int .i64 ((rd_T40 l0 x36_2).f1), .slice A137_2 ((rd_T40 l0 x36_2).f2).length c137_2] 40 (0, 0)) (by (with_reducible repeat (first | refine blk_drewN ?_ _ | refine blk_drew ?_ | refine blk_alloc ?_ _)); exact BK138.out) hb); have n3_ := Aside0.mk (below_step (by repeat (first | (with_reducible first | exact HB.out | apply b1 | apply b2 | apply b3 | refine below_set ?_ GE138.out) | exact HB.out)) hb); clear HO_9; clear BK138; clear HB; have HO_9 := n0_; have HO144 := n1_; have BK138 := n2_; have HB := n3_; clear n0_ n1_ n2_ n3_; (try clear hb); (try clear hb2); (try clear hk); (try clear hi); (try clear ho0); obtain ⟨Ao38, co38, eo38⟩ := Kd.R_slice HO144.out; subst eo38) | ((with_reducible refine gate_builtin (b := .append) (xs := #[.tmp 59, .tmp 67]) rfl ?_); at_builtin; refine Kd.S_append k40 (w0 := w) w.heap.size rfl (.tmp 59) (.tmp 67) 22 40 (.agg #[(.int .i64 0), (.int .i64 0), (.slice none 0 0)]) 40 rfl Try.underlying22 info40 rfl (by decide) (by omega) u9 x9_2 (⟨0, 0, t142⟩ : S40) [.int .i64 0, .int .i64 0, .slice Ao38 t142.length co38] (fun k_ => k_ ≠ gb138) (fun k_ => some k_ = (.slice Ao38 t142.length co38 : Value).ownBlock) rfl rfl ?aP (fun k_ hk_ => ((Kd.R_mono (ok' := fun k_ => ((fun k_ => k_ ≠ gb138)) k_ ∧ some k_ ≠ (u9 : Value).ownBlock) (Kd.R_types (Kd.R_apart' (HO144.out) (Kd.S_typed HO_9.out) (by decide)) BK138.out (by decide)) (fun k_ hk => ⟨hk.2, hk.1.2⟩))).1 k_ hk_.symm) ?aF ?aO ?aB ?aS ?aL ?_; (case aP => exact k40_mkM _ _ _ (⟨0, 0, t142⟩ : S40) (Kd.R_mono (Kd.R_tight rfl (Kd.R_mono (ok' := fun k_ => ((fun k_ => k_ ≠ gb138)) k_ ∧ some k_ ≠ (u9 : Value).ownBlock) (Kd.R_types (Kd.R_apart' (HO144.out) (Kd.S_typed HO_9.out) (by decide)) BK138.out (by decide)) (fun k_ hk => ⟨hk.2, hk.1.2⟩))) (fun _ h_ => h_))); (case aB => exact (by repeat (first | (with_reducible first | exact HB.out | apply b1 | apply b2 | apply b3 | refine below_set ?_ GE138.out) | exact HB.out))); (case aF => exact (fun k_ hk => Kd.freshB (g := gb138) (o := .cells #[.int .i64 ((rd_T40 l0 x36_2).f0), .int .i64 ((rd_T40 l0 x36_2).f1), .slice A137_2 ((rd_T40 l0 x36_2).f2).length c137_2] 40 (0, 0)) (by (with_reducible repeat (first | refine blk_drewN ?_ _ | refine blk_drew ?_ | refine blk_alloc ?_ _)); exact BK138.out) k_ hk)); (case aO => exact (by (with_reducible repeat (first | apply Kd.S_alloc | apply Kd.S_drewN | apply Kd.S_drew)); exact Kd.S_mono HO_9.out (fun k_ hk => ⟨hk.1.2, fun e_ => hk.2 e_⟩))); (case aS => exact (below_size (by repeat (first | (with_reducible first | exact HB.out | apply b1 | apply b2 | apply b3 | refine below_set ?_ GE138.out) | exact HB.out)))); (case aL => have := LMc29.out; omega); intro v146 w39 ho hb hg hat; rw [← Ny145.out] at ho; have n0_ := Aside0.mk (blk_grown (g := gb138) (o := .cells #[.int .i64 ((rd_T40 l0 x36_2).f0), .int .i64 ((rd_T40 l0 x36_2).f1), .slice A137_2 ((rd_T40 l0 x36_2).f2).length c137_2] 40 (0, 0)) (by (with_reducible repeat (first | refine blk_drewN ?_ _ | refine blk_drew ?_ | refine blk_alloc ?_ _)); exact BK138.out) hg (Kd.S_away HO_9.out (fun _ hk => hk.1.2))); have n1_ := Aside0.mk (hb); have n2_ := Aside0.mk (ho); clear BK138; clear HB; clear HO_9; clear HO144; have BK138 := n0_; have HB := n1_; have HO147 := n2_; clear n0_ n1_ n2_; clear ho hb hg hat))
                go_roundg k2
                case measure => have := HJ5.out; have := HK2.out; omega
                case rel => exact ⟨(y145), (wrap64 (x10_2 + t139)), (wrap64 (x36_2 + 1)), (by first | rfl | (simp; done) | (simp [*]; done)), (by first | rfl | (simp; done) | (simp [*]; done)), H', ⟨by have := HJ5.out; have := HK2.out; omega⟩, ⟨by (with_reducible repeat (first | apply Kd.S_alloc | apply Kd.S_drewN | apply Kd.S_drew)); exact Kd.S_mono HO147.out (fun _ hk => trivial)⟩, ⟨by repeat (first | (with_reducible first | exact HB.out | apply b1 | apply b2 | apply b3 | refine below_set ?_ GE138.out) | exact HB.out)⟩⟩
               ·rw [if_neg c29] at H
                exact absurd H (by simp)
              ·rw [if_neg c27] at H
               exact absurd H (by simp)
             ·rw [if_neg c26] at H
              exact absurd H (by simp)
            ·rw [if_neg c25] at H
             exact absurd H (by simp)
           ·replace c24 := Bool.eq_false_iff.mpr c24
            subst c24
            have H1 : (if x9_2.length < 3518437208883 then (delta_Part.l0 k2 a1 a2 (x9_2 ++ [(⟨wrap64 (((rd_T40 l0 x36_2).f0) + (ji17)), wrap64 ((ji18) - (ji17)), ([] : List Int)⟩ : S40)]) (wrap64 (x10_2 + t139)) l0 (l0.length : Int) (wrap64 (x36_2 + 1))) else (none)) = some (r1, r2) := by rw [if_neg (show ¬ (false = true) by decide)] at H; exact H
            clear H
            have H := H1
            clear H1
            by_cases c40 : x9_2.length < 3518437208883
            ·rw [if_pos c40] at H
             have LMc40 := Aside0.mk c40
             clear c40
             obtain ⟨y148, hy148⟩ : ∃ y_ : List (S40), y_ = (x9_2 ++ [(⟨wrap64 (((rd_T40 l0 x36_2).f0) + (ji17)), wrap64 ((ji18) - (ji17)), ([] : List Int)⟩ : S40)]) := ⟨_, rfl⟩
             replace H : (delta_Part.l0 k2 a1 a2 y148 (wrap64 (x10_2 + t139)) l0 (l0.length : Int) (wrap64 (x36_2 + 1))) = some (r1, r2) := by first | (rw [hy148]; with_reducible exact H) | (have H2_ := (Option.bind_some _ _).symm.trans H; rw [hy148]; with_reducible exact H2_) | (have H2_ := (Option.bind_some _ _).symm.trans H; with_reducible exact H2_) | with_reducible exact H | (rw [hy148]; exact H) | exact H
             have Ny148 := Aside0.mk hy148
             clear hy148
             have H' := Aside0.mk H
             clear H
             have p137 : 0 ≤ (x36_2 : Int) := of_decide_eq_true (by assumption)
             have q137 : x36_2 < (l0.length : Int) := of_decide_eq_true (by assumption)
             obtain ⟨ad137, A137_2, c137_2, e137, hx137_0, hx137_1, hx137_2, hl137_2, hi137_2⟩ := at_T40 HR0.out x36_2 p137 q137
             cases e137
             replace hx137_0 := (HB.out.cell (World.block_lt_of_cell? w _ hx137_0)).trans hx137_0
             replace hx137_1 := (HB.out.cell (World.block_lt_of_cell? w _ hx137_1)).trans hx137_1
             replace hx137_2 := (HB.out.cell (World.block_lt_of_cell? w _ hx137_2)).trans hx137_2
             have HR137_2 := Aside0.mk hi137_2
             have HC137_2 := Aside0.mk hl137_2
             clear hi137_2 hl137_2
             replace p137 := eq_true p137
             replace q137 := eq_true q137
             go_wp2_with (first | ((with_reducible refine gate_dst (N := 12) rfl ?_); refine box_event ?hg (N := 12) ?hd (cs := #[.int .i64 0, .int .i64 0, .slice none 0 0]) (t := 40) ?hr ?_; (case hd => rfl); (case hg => rfl); (case hr => first | (go_simp; done) | (go_simp; rfl)); intro gb138 hg w41 hbox hb; have n0_ := Aside0.mk (Kd.S_below (Kd.S_elderB (by (with_reducible repeat (first | apply Kd.S_alloc | apply Kd.S_drewN | apply Kd.S_drew)); exact HO_9.out) gb138 (Nat.le_of_eq hg.symm)) hb); have n1_ := Aside0.mk (below_step (by repeat (first | exact HB.out | apply b1 | apply b2 | apply b3)) hb); have n2_ := Aside0.mk (hbox); have n3_ := Aside0.mk ((by rw [hg]; exact (below_size (by repeat (first | exact HB.out | apply b1 | apply b2 | apply b3))) : w.heap.size ≤ gb138)); have n4_ := Aside0.mk ((by rw [hg]; exact (below_size (by repeat (first | exact HB.out | apply b1 | apply b2 | apply b3))) : w.heap.size ≤ gb138)); clear HO_9; clear HB; have HO_9 := n0_; have HB := n1_; have BK138 := n2_; have GW138 := n3_; have GE138 := n4_; clear n0_ n1_ n2_ n3_ n4_; clear hb hbox hg; have hcz42_0 : w41.cell? ⟨gb138, 0, none⟩ = some (.int .i64 0) := (blk_cell BK138.out 0).trans rfl; have hcz42_1 : w41.cell? ⟨gb138, 1, none⟩ = some (.int .i64 0) := (blk_cell BK138.out 1).trans rfl; have hcz42_2 : w41.cell? ⟨gb138, 2, none⟩ = some (.slice none 0 0) := (blk_cell BK138.out 2).trans rfl; have hfz42_0 := blk_frozen BK138.out 0; have hfz42_1 := blk_frozen BK138.out 1; have hfz42_2 := blk_frozen BK138.out 2) | ((with_reducible refine gate_callee (f := 32) rfl ?_); refine goesL_ (some 41) rfl rfl Try.func32 (by kernel_rfl) rfl #[.agg #[.int .i64 ((rd_T40 l0 x36_2).f0), .int .i64 ((rd_T40 l0 x36_2).f1), .slice A137_2 ((rd_T40 l0 x36_2).f2).length c137_2]] rfl (by (try simp only [List.map_toArray, List.map_cons, List.map_nil]); first | done | rfl | (simp only [List.length_drop, List.length_take]; rfl)) ?_; (with_reducible refine (delta_length.calls ((rd_T40 l0 x36_2).f0) ((rd_T40 l0 x36_2).f1) _ _ ((rd_T40 l0 x36_2).f2) t139 _ ?side1 ?side2 A16.out).mono ?_); (case side1 => exact Kd.C_below HR137_2.out (by repeat (first | (with_reducible first | exact HB.out | apply b1 | apply b2 | apply b3 | refine below_set ?_ GE138.out) | exact HB.out))); (case side2 => exact HC137_2.out); rintro e w43 ⟨rfl, hb⟩; refine ⟨_, rfl, ?_⟩; have n0_ := Aside0.mk (Kd.S_below (by (with_reducible repeat (first | apply Kd.S_alloc | apply Kd.S_drewN | apply Kd.S_drew)); exact (Kd.S_mono (Kd.S_far (p := ⟨gb138, 2, none⟩) (Kd.S_far (p := ⟨gb138, 1, none⟩) (Kd.S_far (p := ⟨gb138, 0, none⟩) (Kd.S_mono HO_9.out (fun k_ hk => (⟨hk, hk.2⟩ : _ ∧ k_ ≠ gb138))) (fun _ hk => hk.2) (.int .i64 ((rd_T40 l0 x36_2).f0))) (fun _ hk => hk.2) (.int .i64 ((rd_T40 l0 x36_2).f1))) (fun _ hk => hk.2) (.slice A137_2 ((rd_T40 l0 x36_2).f2).length c137_2)) (fun _ h_ => h_.1))) hb); have n1_ := Aside0.mk (blk_below (g := gb138) (o := .cells #[.int .i64 ((rd_T40 l0 x36_2).f0), .int .i64 ((rd_T40 l0 x36_2).f1), .slice A137_2 ((rd_T40 l0 x36_2).f2).length c137_2] 40 (0, 0)) (by (with_reducible repeat (first | refine blk_drewN ?_ _ | refine blk_drew ?_ | refine blk_alloc ?_ _)); refine blk_put (cs := #[.int .i64 ((rd_T40 l0 x36_2).f0), .int .i64 ((rd_T40 l0 x36_2).f1), .slice none 0 0]) ?_ 2 _ rfl; (with_reducible repeat (first | refine blk_drewN ?_ _ | refine blk_drew ?_ | refine blk_alloc ?_ _)); refine blk_put (cs := #[.int .i64 ((rd_T40 l0 x36_2).f0), .int .i64 0, .slice none 0 0]) ?_ 1 _ rfl; (with_reducible repeat (first | refine blk_drewN ?_ _ | refine blk_drew ?_ | refine blk_alloc ?_ _)); refine blk_put (cs := #[.int .i64 0, .int .i64 0, .slice none 0 0]) ?_ 0 _ rfl; (with_reducible repeat (first | refine blk_drewN ?_ _ | refine blk_drew ?_ | refine blk_alloc ?_ _)); exact BK138.out) hb); have n2_ := Aside0.mk (below_step (by repeat (first | (with_reducible first | exact HB.out | apply b1 | apply b2 | apply b3 | refine below_set ?_ GE138.out) | exact HB.out)) hb); clear HO_9; clear BK138; clear HB; have HO_9 := n0_; have BK138 := n1_; have HB := n2_; clear n0_ n1_ n2_; (try clear hb); (try clear hb2); (try clear hk); (try clear hi); have hcz44_0 : w43.cell? ⟨gb138, 0, none⟩ = some (.int .i64 ((rd_T40 l0 x36_2).f0)) := (blk_cell BK138.out 0).trans rfl; have hcz44_1 : w43.cell? ⟨gb138, 1, none⟩ = some (.int .i64 ((rd_T40 l0 x36_2).f1)) := (blk_cell BK138.out 1).trans rfl; have hcz44_2 : w43.cell? ⟨gb138, 2, none⟩ = some (.slice A137_2 ((rd_T40 l0 x36_2).f2).length c137_2) := (blk_cell BK138.out 2).trans rfl; have hfz44_0 := blk_frozen BK138.out 0; have hfz44_1 := blk_frozen BK138.out 1; have hfz44_2 := blk_frozen BK138.out 2) | ((with_reducible refine gate_callee (f := 31) rfl ?_); refine goesL_ (some 58) rfl rfl Try.func31 (by kernel_rfl) rfl #[.agg #[.int .i64 ((rd_T40 l0 x36_2).f0), .int .i64 ((rd_T40 l0 x36_2).f1), .slice A137_2 ((rd_T40 l0 x36_2).f2).length c137_2]] rfl (by (try simp only [List.map_toArray, List.map_cons, List.map_nil]); first | done | rfl | (simp only [List.length_drop, List.length_take]; rfl)) ?_; (with_reducible refine (delta_told.calls ((rd_T40 l0 x36_2).f0) ((rd_T40 l0 x36_2).f1) _ _ ((rd_T40 l0 x36_2).f2) false _ ?side1 ?side2 A23.out).mono ?_); (case side1 => repeat (first | exact (Kd.C_below HR137_2.out HB.out) | (with_reducible refine Kd.C_alloc ?_ _) | (with_reducible refine Kd.C_drewN ?_ _) | (with_reducible refine Kd.C_drew ?_))); (case side2 => exact HC137_2.out); rintro e w45 ⟨rfl, hb⟩; refine ⟨_, rfl, ?_⟩; have n0_ := Aside0.mk (Kd.S_below (by (with_reducible repeat (first | apply Kd.S_alloc | apply Kd.S_drewN | apply Kd.S_drew)); exact HO_9.out) hb); have n1_ := Aside0.mk (blk_below (g := gb138) (o := .cells #[.int .i64 ((rd_T40 l0 x36_2).f0), .int .i64 ((rd_T40 l0 x36_2).f1), .slice A137_2 ((rd_T40 l0 x36_2).f2).length c137_2] 40 (0, 0)) (by (with_reducible repeat (first | refine blk_drewN ?_ _ | refine blk_drew ?_ | refine blk_alloc ?_ _)); exact BK138.out) hb); have n2_ := Aside0.mk (below_step (by repeat (first | (with_reducible first | exact HB.out | apply b1 | apply b2 | apply b3 | refine below_set ?_ GE138.out) | exact HB.out)) hb); clear HO_9; clear BK138; clear HB; have HO_9 := n0_; have BK138 := n1_; have HB := n2_; clear n0_ n1_ n2_; (try clear hb); (try clear hb2); (try clear hk); (try clear hi); have hcz46_0 : w45.cell? ⟨gb138, 0, none⟩ = some (.int .i64 ((rd_T40 l0 x36_2).f0)) := (blk_cell BK138.out 0).trans rfl; have hcz46_1 : w45.cell? ⟨gb138, 1, none⟩ = some (.int .i64 ((rd_T40 l0 x36_2).f1)) := (blk_cell BK138.out 1).trans rfl; have hcz46_2 : w45.cell? ⟨gb138, 2, none⟩ = some (.slice A137_2 ((rd_T40 l0 x36_2).f2).length c137_2) := (blk_cell BK138.out 2).trans rfl; have hfz46_0 := blk_frozen BK138.out 0; have hfz46_1 := blk_frozen BK138.out 1; have hfz46_2 := blk_frozen BK138.out 2) | ((with_reducible refine gate_builtin (b := .append) (xs := #[.tmp 69, .tmp 78]) rfl ?_); at_builtin; refine Kd.S_append k40 (w0 := w) w.heap.size rfl (.tmp 69) (.tmp 78) 22 40 (.agg #[(.int .i64 0), (.int .i64 0), (.slice none 0 0)]) 40 rfl Try.underlying22 info40 rfl (by decide) (by omega) u9 x9_2 (⟨wrap64 (((rd_T40 l0 x36_2).f0) + (ji17)), wrap64 ((ji18) - (ji17)), ([] : List Int)⟩ : S40) [.int .i64 (wrap64 (((rd_T40 l0 x36_2).f0) + (ji17))), .int .i64 (wrap64 ((ji18) - (ji17))), .slice none 0 0] (fun k_ => k_ ≠ gb138) (fun _ => False) rfl rfl ?aP (fun k_ hk_ => hk_.elim) ?aF ?aO ?aB ?aS ?aL ?_; (case aP => exact k40_mkM _ _ _ (⟨wrap64 (((rd_T40 l0 x36_2).f0) + (ji17)), wrap64 ((ji18) - (ji17)), ([] : List Int)⟩ : S40) (Kd.R_nil _ _ _ _ _)); (case aB => exact (by repeat (first | (with_reducible first | exact HB.out | apply b1 | apply b2 | apply b3 | refine below_set ?_ GE138.out) | exact HB.out))); (case aF => exact (fun k_ hk => Kd.freshB (g := gb138) (o := .cells #[.int .i64 ((rd_T40 l0 x36_2).f0), .int .i64 ((rd_T40 l0 x36_2).f1), .slice A137_2 ((rd_T40 l0 x36_2).f2).length c137_2] 40 (0, 0)) (by (with_reducible repeat (first | refine blk_drewN ?_ _ | refine blk_drew ?_ | refine blk_alloc ?_ _)); exact BK138.out) k_ hk)); (case aO => exact (by (with_reducible repeat (first | apply Kd.S_alloc | apply Kd.S_drewN | apply Kd.S_drew)); exact Kd.S_mono HO_9.out (fun k_ hk => ⟨hk.2, fun e_ => e_⟩))); (case aS => exact (below_size (by repeat (first | (with_reducible first | exact HB.out | apply b1 | apply b2 | apply b3 | refine below_set ?_ GE138.out) | exact HB.out)))); (case aL => have := LMc40.out; omega); intro v149 w47 ho hb hg hat; rw [← Ny148.out] at ho; have n0_ := Aside0.mk (blk_grown (g := gb138) (o := .cells #[.int .i64 ((rd_T40 l0 x36_2).f0), .int .i64 ((rd_T40 l0 x36_2).f1), .slice A137_2 ((rd_T40 l0 x36_2).f2).length c137_2] 40 (0, 0)) (by (with_reducible repeat (first | refine blk_drewN ?_ _ | refine blk_drew ?_ | refine blk_alloc ?_ _)); exact BK138.out) hg (Kd.S_away HO_9.out (fun _ hk => hk.2))); have n1_ := Aside0.mk (hb); have n2_ := Aside0.mk (ho); clear BK138; clear HB; clear HO_9; have BK138 := n0_; have HB := n1_; have HO150 := n2_; clear n0_ n1_ n2_; clear ho hb hg hat))
             go_roundg k2
             case measure => have := HJ5.out; have := HK2.out; omega
             case rel => exact ⟨(y148), (wrap64 (x10_2 + t139)), (wrap64 (x36_2 + 1)), (by first | rfl | (simp; done) | (simp [*]; done)), (by first | rfl | (simp; done) | (simp [*]; done)), H', ⟨by have := HJ5.out; have := HK2.out; omega⟩, ⟨by (with_reducible repeat (first | apply Kd.S_alloc | apply Kd.S_drewN | apply Kd.S_drew)); exact Kd.S_mono HO150.out (fun _ hk => trivial)⟩, ⟨by repeat (first | (with_reducible first | exact HB.out | apply b1 | apply b2 | apply b3 | refine below_set ?_ GE138.out) | exact HB.out)⟩⟩
            ·rw [if_neg c40] at H
             exact absurd H (by simp)
         ·rw [if_neg c15] at H
          exact absurd H (by simp)
        ·rw [if_neg c14] at H
         exact absurd H (by simp)
       ·rw [if_neg c13] at H
        have c13b0 : decide (x36_2 < (l0.length : Int)) = false := decide_eq_false c13
        clear c13
        simp only [Option.some.injEq, Prod.mk.injEq] at H
        obtain ⟨rfl, rfl⟩ := H
        go_wp2
        go_ret2
        exact ⟨_, by first | rfl | (simp [*] <;> rfl), by (with_reducible repeat (first | apply Kd.S_alloc | apply Kd.S_drewN | apply Kd.S_drew)); exact HO_9.out, by repeat (first | exact HB.out | apply b1 | apply b2 | apply b3)⟩
 ·rw [if_neg c5] at H
  have c5b0 : (t135 == 0) = false := beq_eq_false_iff_ne.mpr c5
  have c5b1 : (t135 != 0) = true := bne_iff_ne.mpr c5
  simp only [Option.some.injEq, Prod.mk.injEq] at H
  obtain ⟨rfl, rfl⟩ := H
  go_enter Try.func27, Try.ntmps27
  go_wp2_with (first | ((with_reducible refine gate_callee (f := 14) rfl ?_); refine goesL_ (some 17) rfl rfl Try.func14 (by kernel_rfl) rfl #[.slice A0 l0.length c0, .int .i64 131072] rfl (by (try simp only [List.map_toArray, List.map_cons, List.map_nil]); first | done | rfl | (simp only [List.length_drop, List.length_take]; rfl)) ?_; (with_reducible refine (delta_Check.calls k _ _ l0 131072 t135 _ ?side1 ?side2 A4.out).mono ?_); (case side1 => repeat (first | exact HR0.out | (with_reducible refine Kd.C_alloc ?_ _) | (with_reducible refine Kd.C_drewN ?_ _) | (with_reducible refine Kd.C_drew ?_))); (case side2 => exact HC0.out); rintro e w48 ⟨rfl, hb⟩; refine ⟨_, rfl, ?_⟩; have n0_ := Aside0.mk (below_step (by repeat (first | exact HB.out | apply b1 | apply b2 | apply b3)) hb); clear HB; have HB := n0_; clear n0_; (try clear hb); (try clear hb2); (try clear hk); (try clear hi)))
  go_ret2
  exact ⟨_, by first | rfl | (simp [*] <;> rfl), by first | exact Kd.S_nil _ _ _ _ _ | exact Kd.N_nil _ _ _ _ _ | exact Kd.V_nil _ _ _ _ _ | exact Kd.Q_nil _ _ _ _ _ | exact Kd.R_nil _ _ _ _ _, by repeat (first | exact HB.out | apply b1 | apply b2 | apply b3)⟩

/-! ### delta_Then: function 29 -/
def tooMuch (xs : List Jn.T3) : Prop := ¬ (xs.length ≤ 900000 ∧ Jn.wt xs ≤ 900000000)
instance (xs : List Jn.T3) : Decidable (tooMuch xs) := by unfold tooMuch; infer_instance
def delta_Then.l0 (k : Nat) (a : List (S40)) : List (S40) → List Jn.T3 → Option (List Jn.T3)
 | [], acc => some acc
 | o :: b, acc => if tooMuch acc ∨ 1000000 < o.f2.length then none else (delta_told.f o.f0 o.f1 o.f2).bind fun t => if t = true then delta_Then.l0 k a b (Jn.addL acc (toT o)) else
   (delta_Part.f k a o.f0 (wrap64 (o.f0 + o.f1))).bind fun p => if 90000 < p.1.length ∨ 90000000 < Jn.wt (p.1.map toT) then none else delta_Then.l0 k a b ((p.1.map toT).foldl Jn.addL acc)
def delta_Then.f (k : Nat) (l0 : List (S40)) (l1 : List (S40)) : Option (List (S40) × Int) :=
 (delta_Check.f k l0 131072).bind fun e => if e = 0 then (delta_Size.f k l0).bind fun n => (delta_Check.f k l1 n).bind fun e2 => if e2 = 0 then (if 1000000 < l1.length then none else (delta_Then.l0 k l0 l1 []).bind fun out => if (out.length : Int) > 8192 then some ([], 7) else some (out.map ofT, 0)) else some ([], e2) else some ([], e)
theorem delta_Then.mono_l (k : Nat) (a : List (S40)) : ∀ (b : List (S40)) (acc : List Jn.T3), LeO (delta_Then.l0 k a b acc) (delta_Then.l0 (k + 1) a b acc)
 | [], acc => fun r h => h
 | o :: b, acc => by
  unfold delta_Then.l0
  refine LeO.ite (LeO.none _) (LeO.bind (LeO.refl _) (fun t => LeO.ite (delta_Then.mono_l k a b _) (LeO.bind (delta_Part.mono _ _ _ _) (fun p => LeO.ite (LeO.none _) (delta_Then.mono_l k a b _)))))
theorem delta_Then.mono : ∀ a0 a1 k, LeO (delta_Then.f k a0 a1) (delta_Then.f (k + 1) a0 a1) := by
 intro a0 a1 k
 unfold delta_Then.f
 exact LeO.bind (delta_Check.mono _ _ _) (fun e => LeO.ite (LeO.bind (delta_Size.mono _ _) (fun n => LeO.bind (delta_Check.mono _ _ _) (fun e2 => LeO.ite (LeO.ite (LeO.none _) (LeO.bind (delta_Then.mono_l k a0 a1 []) (fun out => LeO.refl _))) (LeO.refl _)))) (LeO.refl _))
theorem thenN {W w6 : World} {v : Value} {p : List (S40)} (h : Kd.S k40 40 w6 W.heap.size (fun _ => True) v p) : Kd.N k40 40 w6 W.heap.size (fun k_ => W.heap.size ≤ k_ ∧ k_ < w6.heap.size) v p := Kd.N_mono (Kd.S_N (Kd.S_bound h)) (fun _ hk => ⟨hk.2.1, hk.2.2.1⟩)
set_option maxHeartbeats 8000000 in
set_option maxRecDepth 100000 in
theorem delta_Then.calls (k : Nat) (A0 : Option Addr) (c0 : Nat) (l0 : List (S40)) (A1 : Option Addr) (c1 : Nat) (l1 : List (S40)) (r1 : List (S40)) (r2 : Int) (w : World) (hr0 : Kd.C k40 w A0 l0.length l0) (hc0 : l0.length ≤ c0) (hr1 : Kd.C k40 w A1 l1.length l1) (hc1 : l1.length ≤ c1) (h : delta_Then.f k l0 l1 = some (r1, r2)) :
  Calls Try.prog 29 #[.slice A0 l0.length c0, .slice A1 l1.length c1] w fun e w' => ∃ v0_ : Value, e = .returned (.tuple #[v0_, .int .i64 r2]) ∧ Kd.N k40 40 w' w.heap.size (fun k_ => (w.heap.size ≤ k_)) v0_ r1 ∧ Below w.heap.size w w' := by
 unfold delta_Then.f at h
 have HR0 := Aside0.mk hr0
 have HC0 := Aside0.mk hc0
 have HR1 := Aside0.mk hr1
 have HC1 := Aside0.mk hc1
 have HB := Aside0.mk (Below.refl w.heap.size w)
 clear hr0 hc0 hr1 hc1
 replace h := Option.bind_eq_some_iff.mp h
 obtain ⟨e1, hE1, h⟩ := h
 have HE1 := Aside0.mk hE1
 clear hE1
 by_cases q1 : e1 = 0
 ·subst q1
  rw [if_pos rfl] at h
  replace h := Option.bind_eq_some_iff.mp h
  obtain ⟨sz, hSZ, h⟩ := h
  have HSZ := Aside0.mk hSZ
  clear hSZ
  replace h := Option.bind_eq_some_iff.mp h
  obtain ⟨e2, hE2, h⟩ := h
  have HE2 := Aside0.mk hE2
  clear hE2
  by_cases q2 : e2 = 0
  ·subst q2
   rw [if_pos rfl] at h
   by_cases q3 : 1000000 < l1.length
   ·rw [if_pos q3] at h; cases h
   rw [if_neg q3] at h
   replace h := Option.bind_eq_some_iff.mp h
   obtain ⟨out, hOUT, h⟩ := h
   have HL1 := Aside0.mk (show l1.length ≤ 1000000 by omega)
   have HOUT := Aside0.mk hOUT
   have HFIN := Aside0.mk h
   clear hOUT h q3
   go_enter Try.func29, Try.ntmps29
   go_wp2_with (first
    | ((with_reducible refine gate_dst (N := 18) rfl ?_); refine goesL_ (some 18) rfl rfl Try.func14 (by kernel_rfl) rfl #[.slice A0 l0.length c0, .int .i64 131072] rfl (by (try simp only [List.map_toArray, List.map_cons, List.map_nil]); first | done | rfl) ?_; refine (delta_Check.calls k A0 c0 l0 131072 0 _ (Kd.C_below HR0.out HB.out) HC0.out HE1.out).mono ?_; rintro e w1 ⟨rfl, hb⟩; refine ⟨_, rfl, ?_⟩; replace HB := Aside0.mk (below_step HB.out hb); clear hb)
    | ((with_reducible refine gate_dst (N := 24) rfl ?_); refine goesL_ (some 24) rfl rfl Try.func16 (by kernel_rfl) rfl #[.slice A0 l0.length c0] rfl (by (try simp only [List.map_toArray, List.map_cons, List.map_nil]); first | done | rfl) ?_; refine (delta_Size.calls k A0 c0 l0 sz _ (Kd.C_below HR0.out HB.out) HC0.out HSZ.out).mono ?_; rintro e w1 ⟨rfl, hb⟩; refine ⟨_, rfl, ?_⟩; replace HB := Aside0.mk (below_step HB.out hb); clear hb)
    | ((with_reducible refine gate_dst (N := 25) rfl ?_); refine goesL_ (some 25) rfl rfl Try.func14 (by kernel_rfl) rfl #[.slice A1 l1.length c1, .int .i64 sz] rfl (by (try simp only [List.map_toArray, List.map_cons, List.map_nil]); first | done | rfl) ?_; refine (delta_Check.calls k A1 c1 l1 sz 0 _ (Kd.C_below HR1.out HB.out) HC1.out HE2.out).mono ?_; rintro e w1 ⟨rfl, hb⟩; refine ⟨_, rfl, ?_⟩; replace HB := Aside0.mk (below_step HB.out hb); clear hb)
    | ((with_reducible refine gate_dst (N := 30) rfl ?_); refine goesL_ (some 30) rfl rfl Try.func36 (by kernel_rfl) rfl #[] rfl (by first | (simp; done) | rfl) ?_; refine (Jn.joiner_calls _).mono ?_; rintro e w1 ⟨g, hgw, rfl, hbox, hb⟩; refine ⟨_, rfl, ?_⟩; have HGW := Aside0.mk (show w.heap.size ≤ g by rw [hgw]; exact HB.out.size); have HBX : Aside0 (Jn.Box w.heap.size (Jn.okN w.heap.size g) g w1 []) := ⟨⟨⟨_, hbox, Kd.S_nil _ _ _ _ _, fun _ => rfl⟩⟩⟩; have HZ := Aside0.mk (show g < w1.heap.size from blk_lt hbox); replace HB := Aside0.mk (below_step HB.out hb); clear hgw hbox hb))
   go_loopg [35] l1.length (fun kq v35 w' => ∃ (i : Nat) (acc : List Jn.T3), v35 = .int .i64 (i : Int) ∧ Aside0 (i + kq = l1.length) ∧ Aside0 (delta_Then.l0 k l0 (l1.drop i) acc = some out) ∧ Aside0 (Jn.Box w.heap.size (Jn.okN w.heap.size g) g w' acc) ∧ Aside0 (Below w.heap.size w w') ∧ Aside0 (g < w'.heap.size))
   case atStart => exact ⟨0, [], rfl, ⟨by omega⟩, ⟨by rw [List.drop_zero]; exact HOUT.out⟩, HBX, HB, HZ⟩
   case round =>
    clear HBX HB HZ HOUT
    obtain ⟨i, acc, rfl, HI, HTH, HBX, HB, HZ⟩ := hrel
    by_cases hi : i < l1.length
    ·obtain ⟨n1, hn1⟩ : ∃ n1, gk = n1 + 1 := ⟨gk - 1, by have := HI.out; omega⟩
     subst hn1
     have ht : decide ((i : Int) < (l1.length : Int)) = true := decide_eq_true (by omega)
     have htN : decide (i < l1.length) = true := decide_eq_true hi
     have hi1 := eq_true hi
     have hi2 := eq_true (show (0 : Int) ≤ (i : Int) by omega)
     have hi3 := eq_true (show (i : Int) < (l1.length : Int) by omega)
     have hw1 : wrap64 ((i : Int) + 1) = ((i + 1 : Nat) : Int) := by have := HL1.out; unfold wrap64; omega
     have hT := HTH.out
     rw [List.drop_eq_getElem_cons hi] at hT
     obtain ⟨ad, A2, c2, e, hx0, hx1, hx2, hl2, hR2⟩ := at_T40 HR1.out (i : Int) (by omega) (by omega)
     subst e
     have hrd : rd_T40 l1 (i : Int) = l1[i] := by unfold rd_T40; rw [Int.toNat_natCast, List.getD_eq_getElem?_getD, List.getElem?_eq_getElem hi, Option.getD_some]
     rw [hrd] at hx0 hx1 hx2 hl2 hR2
     rw [Int.toNat_natCast] at hx0 hx1 hx2
     replace hx0 := (HB.out.cell (World.block_lt_of_cell? w _ hx0)).trans hx0
     replace hx1 := (HB.out.cell (World.block_lt_of_cell? w _ hx1)).trans hx1
     replace hx2 := (HB.out.cell (World.block_lt_of_cell? w _ hx2)).trans hx2
     obtain ⟨o, ho⟩ : ∃ o : S40, o = l1[i] := ⟨_, rfl⟩
     rw [← ho] at hx0 hx1 hx2 hl2 hR2 hT
     have HR2 := Aside0.mk hR2
     have HC2 := Aside0.mk hl2
     unfold delta_Then.l0 at hT
     by_cases hm : tooMuch acc ∨ 1000000 < o.f2.length
     ·rw [if_pos hm] at hT; cases hT
     rw [if_neg hm] at hT
     have HM : Aside0 ((acc.length ≤ 900000 ∧ Jn.wt acc ≤ 900000000) ∧ o.f2.length ≤ 1000000) := ⟨⟨Classical.byContradiction fun h => hm (.inl h), by
      rcases Nat.lt_or_ge 1000000 o.f2.length with h | h
      ·exact absurd (.inr h) hm
      ·exact h⟩⟩
     replace hT := Option.bind_eq_some_iff.mp hT
     obtain ⟨tb, hTB, hT⟩ := hT
     have HTB := Aside0.mk hTB
     have HT2 := Aside0.mk hT
     clear hl2 hR2 ho hrd hm hTB hT HTH
     have BOXARM : True := trivial
     cases tb with
     | true =>
      have HT3 : Aside0 (delta_Then.l0 k l0 (l1.drop (i + 1)) (Jn.addL acc (toT o)) = some out) := ⟨by have := HT2.out; rwa [if_pos rfl] at this⟩
      clear HT2
      go_wp2_with (first
       | ((with_reducible refine gate_dst (N := 11) rfl ?_); refine box_event ?hg (N := 11) ?hd (cs := #[.int .i64 0, .int .i64 0, .slice none 0 0]) (t := 40) ?hr ?_; (case hd => rfl); (case hg => rfl); (case hr => first | (go_simp; done) | (go_simp; rfl)); intro gb hgb w2 hbox hb; have HGB := Aside0.mk (Nat.le_of_eq hgb.symm); replace HBX := Aside0.mk (Jn.Box_below (Jn.Box_mono (ok' := fun k_ => Jn.okN w.heap.size g k_ ∧ k_ < gb) (Jn.Box_bound HBX.out) (fun k_ hk => ⟨hk.1, by rw [hgb]; exact hk.2⟩)) hb); have HGB2 := Aside0.mk (show g < gb by rw [hgb]; exact HZ.out); replace HZ := Aside0.mk (Nat.lt_of_lt_of_le HZ.out hb.size); replace HB := Aside0.mk (below_step HB.out hb); have BO := Aside0.mk hbox; clear hbox hb hgb)
       | (refine Jn.store_event rfl rfl 40 (.tmp 11) (.tmp 38) rfl (g := gb) (j := 0) (e := 40) (cs := #[.int .i64 0, .int .i64 0, .slice none 0 0]) (cs' := #[.int .i64 o.f0, .int .i64 o.f1, .slice A2 o.f2.length c2]) (u := .agg #[.int .i64 o.f0, .int .i64 o.f1, .slice A2 o.f2.length c2]) (seg := [.int .i64 o.f0, .int .i64 o.f1, .slice A2 o.f2.length c2]) rfl rfl rfl Jn.inf40 ?so BO.out (Nat.le_refl _) ?sc ?_; (case so => intro q hq; simp only [List.mem_cons, List.not_mem_nil, or_false] at hq; rcases hq with rfl | rfl | rfl <;> rfl); (case sc => exact blk_put (blk_put (blk_put BO.out 0 _ rfl) 1 _ rfl) 2 _ rfl); intro w3 hb3 hg3; replace HBX := Aside0.mk (Jn.Box_mono (Jn.Box_grown HBX.out hg3 (fun e => by injection e with e; have := HGB2.out; omega) (fun k_ hk e => by injection e with e; have := hk.2; omega)) (fun k_ hk => hk.1)); replace HB := Aside0.mk (Jn.belowG HB.out hg3 HB.out.size (fun k_ hk => by injection hk with hk; have := HGB2.out; have := HGW.out; omega)); replace HZ := Aside0.mk (Nat.lt_of_lt_of_le HZ.out hg3.size); replace hx0 := trivial; replace hx1 := trivial; replace hx2 := trivial; replace BO := Aside0.mk hb3; have ho0 : w3.cell? ⟨gb, 0, none⟩ = some (.int .i64 o.f0) := (blk_cell hb3 0).trans rfl; have ho1 : w3.cell? ⟨gb, 1, none⟩ = some (.int .i64 o.f1) := (blk_cell hb3 1).trans rfl; have ho2 : w3.cell? ⟨gb, 2, none⟩ = some (.slice A2 o.f2.length c2) := (blk_cell hb3 2).trans rfl; clear hb3 hg3)
       | ((with_reducible refine gate_dst (N := 40) rfl ?_); refine goesL_ (some 40) rfl rfl Try.func31 (by kernel_rfl) rfl #[.agg #[.int .i64 o.f0, .int .i64 o.f1, .slice A2 o.f2.length c2]] rfl (by (try simp only [List.map_toArray, List.map_cons, List.map_nil]); first | done | rfl) ?_; refine (delta_told.calls o.f0 o.f1 A2 c2 o.f2 _ _ (Kd.C_below HR2.out HB.out) HC2.out HTB.out).mono ?_; rintro e w4 ⟨rfl, hb⟩; refine ⟨_, rfl, ?_⟩; replace HBX := Aside0.mk (Jn.Box_below HBX.out hb); replace HB := Aside0.mk (below_step HB.out hb); replace HZ := Aside0.mk (Nat.lt_of_lt_of_le HZ.out hb.size); replace BO := Aside0.mk (blk_below BO.out hb); replace ho0 := Jn.cellB hb ho0; replace ho1 := Jn.cellB hb ho1; replace ho2 := Jn.cellB hb ho2; clear hb)
       | ((with_reducible refine gate_dst (N := 43) rfl ?_); refine Jn.goesC_ (some 43) rfl rfl Try.func39 (by kernel_rfl) rfl #[.agg #[.int .i64 o.f0, .int .i64 o.f1, .slice A2 o.f2.length c2]] rfl rfl (by (try simp only [List.map_toArray, List.map_cons, List.map_nil]); first | done | rfl) ?_; refine (Jn.add_calls w.heap.size (Jn.okN w.heap.size g) g o.f0 o.f1 A2 c2 o.f2 _ acc (Kd.C_below HR2.out HB.out) HC2.out HBX.out HB.out.size ?hf ?hng ?hbg ?hx ?hl0 ?hpl).mono ?_; (case hf => intro k_ hk; exact ⟨Nat.le_trans HB.out.size hk, by have := HZ.out; omega⟩); (case hng => exact fun h => h.2 rfl); (case hbg => exact HGW.out); (case hx => have := HM.out; omega); (case hl0 => have := HM.out; omega); (case hpl => intro q hq; have h0 := Jn.wt_mem hq; have := HM.out; omega); rintro e w5 ⟨rfl, hbx, hkp, hbl⟩; refine ⟨_, rfl, ?_⟩; replace HBX := Aside0.mk hbx; replace HB := Aside0.mk (HB.out.trans hbl); replace HZ := Aside0.mk (Nat.lt_of_lt_of_le HZ.out hbl.size); clear hbx hkp hbl))
      go_roundg n1
      case measure => omega
      case rel => exact ⟨i + 1, _, (by first | rfl | (simp; done) | (simp [*]; done)), ⟨by have := HI.out; omega⟩, HT3, HBX, HB, HZ⟩
     | false =>
      have hT := HT2.out
      rw [if_neg (by decide)] at hT
      replace hT := Option.bind_eq_some_iff.mp hT
      obtain ⟨⟨p, pe⟩, hP, hT⟩ := hT
      have HP := Aside0.mk hP
      by_cases hm2 : 90000 < p.length ∨ 90000000 < Jn.wt (p.map toT)
      ·rw [if_pos hm2] at hT; cases hT
      rw [if_neg hm2] at hT
      have HT3 := Aside0.mk hT
      have HM2 : Aside0 (p.length ≤ 90000 ∧ Jn.wt (p.map toT) ≤ 90000000) := ⟨by omega⟩
      clear HT2 hP hT hm2
      go_wp2_with (first
       | ((with_reducible refine gate_dst (N := 11) rfl ?_); refine box_event ?hg (N := 11) ?hd (cs := #[.int .i64 0, .int .i64 0, .slice none 0 0]) (t := 40) ?hr ?_; (case hd => rfl); (case hg => rfl); (case hr => first | (go_simp; done) | (go_simp; rfl)); intro gb hgb w2 hbox hb; have HGB := Aside0.mk (Nat.le_of_eq hgb.symm); replace HBX := Aside0.mk (Jn.Box_below (Jn.Box_mono (ok' := fun k_ => Jn.okN w.heap.size g k_ ∧ k_ < gb) (Jn.Box_bound HBX.out) (fun k_ hk => ⟨hk.1, by rw [hgb]; exact hk.2⟩)) hb); have HGB2 := Aside0.mk (show g < gb by rw [hgb]; exact HZ.out); replace HZ := Aside0.mk (Nat.lt_of_lt_of_le HZ.out hb.size); replace HB := Aside0.mk (below_step HB.out hb); have BO := Aside0.mk hbox; clear hbox hb hgb)
       | (refine Jn.store_event rfl rfl 40 (.tmp 11) (.tmp 38) rfl (g := gb) (j := 0) (e := 40) (cs := #[.int .i64 0, .int .i64 0, .slice none 0 0]) (cs' := #[.int .i64 o.f0, .int .i64 o.f1, .slice A2 o.f2.length c2]) (u := .agg #[.int .i64 o.f0, .int .i64 o.f1, .slice A2 o.f2.length c2]) (seg := [.int .i64 o.f0, .int .i64 o.f1, .slice A2 o.f2.length c2]) rfl rfl rfl Jn.inf40 ?so BO.out (Nat.le_refl _) ?sc ?_; (case so => intro q hq; simp only [List.mem_cons, List.not_mem_nil, or_false] at hq; rcases hq with rfl | rfl | rfl <;> rfl); (case sc => exact blk_put (blk_put (blk_put BO.out 0 _ rfl) 1 _ rfl) 2 _ rfl); intro w3 hb3 hg3; replace HBX := Aside0.mk (Jn.Box_mono (Jn.Box_grown HBX.out hg3 (fun e => by injection e with e; have := HGB2.out; omega) (fun k_ hk e => by injection e with e; have := hk.2; omega)) (fun k_ hk => hk.1)); replace HB := Aside0.mk (Jn.belowG HB.out hg3 HB.out.size (fun k_ hk => by injection hk with hk; have := HGB2.out; have := HGW.out; omega)); replace HZ := Aside0.mk (Nat.lt_of_lt_of_le HZ.out hg3.size); replace hx0 := trivial; replace hx1 := trivial; replace hx2 := trivial; replace BO := Aside0.mk hb3; have ho0 : w3.cell? ⟨gb, 0, none⟩ = some (.int .i64 o.f0) := (blk_cell hb3 0).trans rfl; have ho1 : w3.cell? ⟨gb, 1, none⟩ = some (.int .i64 o.f1) := (blk_cell hb3 1).trans rfl; have ho2 : w3.cell? ⟨gb, 2, none⟩ = some (.slice A2 o.f2.length c2) := (blk_cell hb3 2).trans rfl; clear hb3 hg3)
       | ((with_reducible refine gate_dst (N := 40) rfl ?_); refine goesL_ (some 40) rfl rfl Try.func31 (by kernel_rfl) rfl #[.agg #[.int .i64 o.f0, .int .i64 o.f1, .slice A2 o.f2.length c2]] rfl (by (try simp only [List.map_toArray, List.map_cons, List.map_nil]); first | done | rfl) ?_; refine (delta_told.calls o.f0 o.f1 A2 c2 o.f2 _ _ (Kd.C_below HR2.out HB.out) HC2.out HTB.out).mono ?_; rintro e w4 ⟨rfl, hb⟩; refine ⟨_, rfl, ?_⟩; replace HBX := Aside0.mk (Jn.Box_below HBX.out hb); replace HB := Aside0.mk (below_step HB.out hb); replace HZ := Aside0.mk (Nat.lt_of_lt_of_le HZ.out hb.size); replace BO := Aside0.mk (blk_below BO.out hb); replace ho0 := Jn.cellB hb ho0; replace ho1 := Jn.cellB hb ho1; replace ho2 := Jn.cellB hb ho2; clear hb)
       | ((with_reducible refine gate_dst (N := 53) rfl ?_); refine goesL_ (some 53) rfl rfl Try.func27 (by kernel_rfl) rfl #[.slice A0 l0.length c0, .int .i64 o.f0, .int .i64 (wrap64 (o.f0 + o.f1))] rfl (by (try simp only [List.map_toArray, List.map_cons, List.map_nil]); first | done | rfl) ?_; refine (delta_Part.calls k A0 c0 l0 o.f0 (wrap64 (o.f0 + o.f1)) p pe _ (Kd.C_below HR0.out HB.out) HC0.out HP.out).mono ?_; rintro e w6 ⟨v, rfl, hS, hb⟩; refine ⟨_, rfl, ?_⟩; obtain ⟨n0, n2, hn0, hn2, HPN, HZ2, HBX2⟩ : ∃ n0 n2 : Nat, n2 = w6.heap.size ∧ (n0 ≤ n2 ∧ g < n0) ∧ Aside0 (Kd.N k40 40 w6 n0 (fun k_ => n0 ≤ k_ ∧ k_ < n2) v p) ∧ Aside0 (g < w6.heap.size ∧ n2 ≤ w6.heap.size) ∧ Aside0 (Jn.Box w.heap.size (fun k_ => Jn.okN w.heap.size g k_ ∧ ¬ (n0 ≤ k_ ∧ k_ < n2)) g w6 acc) := ⟨_, _, rfl, ⟨hb.size, HZ.out⟩, ⟨thenN hS⟩, ⟨Nat.lt_of_lt_of_le HZ.out hb.size, Nat.le_refl _⟩, ⟨Jn.Box_mono (Jn.Box_below (Jn.Box_bound HBX.out) hb) (fun k_ hk => ⟨hk.1, fun h => by have := hk.2; omega⟩)⟩⟩; have HN0 := Aside0.mk hn2.2; clear HBX; have HBX := HBX2; clear HBX2; obtain ⟨Ap, cp, rfl⟩ := Kd.N_slice HPN.out; replace HB := Aside0.mk (below_step HB.out hb); have HN2 := Aside0.mk hn0; clear hS hb hn0 hn2; replace ho0 := trivial; replace ho1 := trivial; replace ho2 := trivial))
      go_loopg [58] p.length (fun kq v58 w' => ∃ (j : Nat) (acc2 : List Jn.T3), v58 = .int .i64 (j : Int) ∧ Aside0 (j + kq = p.length) ∧ Aside0 (acc2 = ((p.map toT).take j).foldl Jn.addL acc) ∧ Aside0 (Jn.Box w.heap.size (fun k_ => Jn.okN w.heap.size g k_ ∧ ¬ (n0 ≤ k_ ∧ k_ < n2)) g w' acc2) ∧ Aside0 (Below w.heap.size w w') ∧ Aside0 (g < w'.heap.size ∧ n2 ≤ w'.heap.size) ∧ Aside0 (Kd.N k40 40 w' n0 (fun k_ => n0 ≤ k_ ∧ k_ < n2) (.slice Ap p.length cp) p))
      case atStart => exact ⟨0, acc, rfl, ⟨by omega⟩, ⟨rfl⟩, HBX, HB, HZ2, HPN⟩
      case round =>
       clear HBX HB HZ HZ2 HPN
       obtain ⟨j, acc2, rfl, HJ, HACC, HBX, HB, HZ2, HPN⟩ := hrel
       by_cases hj : j < p.length
       ·obtain ⟨m1, hm1⟩ : ∃ m1, gk = m1 + 1 := ⟨gk - 1, by have := HJ.out; omega⟩
        subst hm1
        have jt : decide ((j : Int) < (p.length : Int)) = true := decide_eq_true (by omega)
        have jtN : decide (j < p.length) = true := decide_eq_true hj
        have hj1 := eq_true hj
        have hj2 := eq_true (show (0 : Int) ≤ (j : Int) by omega)
        have hj3 := eq_true (show (j : Int) < (p.length : Int) by omega)
        have hw2 : wrap64 ((j : Int) + 1) = ((j + 1 : Nat) : Int) := by have := HM2.out; unfold wrap64; omega
        obtain ⟨ad2, A3, c3, e, hy0, hy1, hy2, hl3, hR3⟩ := at_T40 (Kd.N_reads' HPN.out).2.2 (j : Int) (by omega) (by omega)
        subst e
        have hrd : rd_T40 p (j : Int) = p[j] := by unfold rd_T40; rw [Int.toNat_natCast, List.getD_eq_getElem?_getD, List.getElem?_eq_getElem hj, Option.getD_some]
        rw [hrd] at hy0 hy1 hy2 hl3 hR3
        rw [Int.toNat_natCast] at hy0 hy1 hy2
        obtain ⟨x, hx⟩ : ∃ x : S40, x = p[j] := ⟨_, rfl⟩
        rw [← hx] at hy0 hy1 hy2 hl3 hR3
        have HR3 := Aside0.mk hR3
        have HC3 := Aside0.mk hl3
        have HXM : Aside0 (toT x ∈ p.map toT) := ⟨List.mem_map_of_mem (by rw [hx]; exact List.getElem_mem hj)⟩
        have HST : Aside0 (((p.map toT).take (j + 1)).foldl Jn.addL acc = Jn.addL (((p.map toT).take j).foldl Jn.addL acc) (toT x)) := ⟨by
         rw [List.take_succ_eq_append_getElem (by rw [List.length_map]; exact hj), List.foldl_append, List.getElem_map, ← hx]; rfl⟩
        have HBr := Aside0.mk (Below.refl wr.heap.size wr)
        clear hl3 hR3 hx hrd
        go_wp2_with (first
         | ((with_reducible refine gate_dst (N := 15) rfl ?_); refine box_event ?hg (N := 15) ?hd (cs := #[.int .i64 0, .int .i64 0, .slice none 0 0]) (t := 40) ?hr ?_; (case hd => rfl); (case hg => rfl); (case hr => first | (go_simp; done) | (go_simp; rfl)); intro gb hgb w2 hbox hb; have HGB := Aside0.mk (Nat.le_of_eq hgb.symm); replace HBX := Aside0.mk (Jn.Box_below (Jn.Box_mono (ok' := fun k_ => (Jn.okN w.heap.size g k_ ∧ ¬ (n0 ≤ k_ ∧ k_ < n2)) ∧ k_ < gb) (Jn.Box_bound HBX.out) (fun k_ hk => ⟨hk.1, by rw [hgb]; exact hk.2⟩)) hb); have HGB2 := Aside0.mk (show g < gb by rw [hgb]; exact HZ2.out.1); have HGB3 := Aside0.mk (show n2 ≤ gb by rw [hgb]; exact HZ2.out.2); have HGB4 := Aside0.mk (show wr.heap.size ≤ gb by rw [hgb]; exact HBr.out.size); replace HPN := Aside0.mk (Kd.N_below HPN.out hb); replace HZ2 := Aside0.mk (show g < w2.heap.size ∧ n2 ≤ w2.heap.size from ⟨Nat.lt_of_lt_of_le HZ2.out.1 hb.size, Nat.le_trans HZ2.out.2 hb.size⟩); replace HBr := Aside0.mk (below_step HBr.out hb); replace HB := Aside0.mk (below_step HB.out hb); have BO := Aside0.mk hbox; clear hbox hb hgb)
         | (refine Jn.store_event rfl rfl 40 (.tmp 15) (.tmp 61) rfl (g := gb) (j := 0) (e := 40) (cs := #[.int .i64 0, .int .i64 0, .slice none 0 0]) (cs' := #[.int .i64 x.f0, .int .i64 x.f1, .slice A3 x.f2.length c3]) (u := .agg #[.int .i64 x.f0, .int .i64 x.f1, .slice A3 x.f2.length c3]) (seg := [.int .i64 x.f0, .int .i64 x.f1, .slice A3 x.f2.length c3]) rfl rfl rfl Jn.inf40 ?so BO.out (Nat.le_refl _) ?sc ?_; (case so => intro q hq; simp only [List.mem_cons, List.not_mem_nil, or_false] at hq; rcases hq with rfl | rfl | rfl <;> rfl); (case sc => exact blk_put (blk_put (blk_put BO.out 0 _ rfl) 1 _ rfl) 2 _ rfl); intro w3 hb3 hg3; replace HBX := Aside0.mk (Jn.Box_mono (Jn.Box_grown HBX.out hg3 (fun e => by injection e with e; have := HGB2.out; omega) (fun k_ hk e => by injection e with e; have := hk.2; omega)) (fun k_ hk => hk.1)); replace HB := Aside0.mk (Jn.belowG HB.out hg3 HB.out.size (fun k_ hk => by injection hk with hk; have := HGB2.out; have := HGW.out; omega)); replace HPN := Aside0.mk (Kd.N_grown HPN.out hg3 (fun k_ hk e => by injection e with e; have := HGB3.out; have := hk.2; omega)); replace HZ2 := Aside0.mk (show g < w3.heap.size ∧ n2 ≤ w3.heap.size from ⟨Nat.lt_of_lt_of_le HZ2.out.1 hg3.size, Nat.le_trans HZ2.out.2 hg3.size⟩); replace HBr := Aside0.mk (Jn.belowG HBr.out hg3 HBr.out.size (fun k_ hk => by injection hk with hk; have := HGB4.out; omega)); replace hy0 := trivial; replace hy1 := trivial; replace hy2 := trivial; replace BO := Aside0.mk hb3; have ho0 : w3.cell? ⟨gb, 0, none⟩ = some (.int .i64 x.f0) := (blk_cell hb3 0).trans rfl; have ho1 : w3.cell? ⟨gb, 1, none⟩ = some (.int .i64 x.f1) := (blk_cell hb3 1).trans rfl; have ho2 : w3.cell? ⟨gb, 2, none⟩ = some (.slice A3 x.f2.length c3) := (blk_cell hb3 2).trans rfl; clear hb3 hg3)
         | ((with_reducible refine gate_dst (N := 64) rfl ?_); refine Jn.goesC_ (some 64) rfl rfl Try.func39 (by kernel_rfl) rfl #[.agg #[.int .i64 x.f0, .int .i64 x.f1, .slice A3 x.f2.length c3]] rfl rfl (by (try simp only [List.map_toArray, List.map_cons, List.map_nil]); first | done | rfl) ?_; refine (Jn.add_calls w.heap.size (fun k_ => Jn.okN w.heap.size g k_ ∧ ¬ (n0 ≤ k_ ∧ k_ < n2)) g x.f0 x.f1 A3 c3 x.f2 _ acc2 (Kd.C_below HR3.out HBr.out) HC3.out HBX.out HB.out.size ?hf ?hng ?hbg ?hx ?hl0 ?hpl).mono ?_; (case hf => intro k_ hk; exact ⟨⟨Nat.le_trans HB.out.size hk, by have := HZ2.out; omega⟩, fun h => by have := HZ2.out; omega⟩); (case hng => exact fun h => h.1.2 rfl); (case hbg => exact HGW.out); (case hx => rw [HACC.out]; have h1 := (Jn.fold_len ((p.map toT).take j) acc).1; have h2 := List.length_take_le j (p.map toT); have h5 := of_decide_eq_true jtN; have := HM.out; have := HM2.out; omega); (case hl0 => have h1 := Jn.wt_mem HXM.out; have := HM2.out; have h3 : (toT x).2.2.length = x.f2.length := rfl; omega); (case hpl => intro q hq; rw [HACC.out] at hq; have h0 := Jn.wt_mem hq; have h1 := (Jn.fold_len ((p.map toT).take j) acc).2; have h2 := Jn.wt_take (p.map toT) j; have h4 := Jn.wt_mem HXM.out; have h3 : (toT x).2.2.length = x.f2.length := rfl; have := HM.out; have := HM2.out; omega); rintro e w5 ⟨rfl, hbx, hkp, hbl⟩; refine ⟨_, rfl, ?_⟩; replace HBX := Aside0.mk hbx; replace HPN := Aside0.mk (Kd.N_kept HPN.out hkp (fun k_ hk h => h.elim (fun h => h.2 hk) (fun h => by have := HN0.out; omega))); replace HB := Aside0.mk (HB.out.trans hbl); replace HZ2 := Aside0.mk (show g < w5.heap.size ∧ n2 ≤ w5.heap.size from ⟨Nat.lt_of_lt_of_le HZ2.out.1 hbl.size, Nat.le_trans HZ2.out.2 hbl.size⟩); clear hbx hkp hbl))
        go_roundg m1
        case measure => omega
        case rel => exact ⟨j + 1, _, (by first | rfl | (simp; done) | (simp [*]; done)), ⟨by have := HJ.out; omega⟩, ⟨by rw [HST.out, ← HACC.out]; rfl⟩, HBX, HB, HZ2, HPN⟩
       ·have jt : decide ((j : Int) < (p.length : Int)) = false := decide_eq_false (by omega)
        have jtN : decide (j < p.length) = false := decide_eq_false hj
        have HAL : Aside0 (acc2 = (p.map toT).foldl Jn.addL acc) := ⟨by rw [HACC.out, List.take_of_length_le (by rw [List.length_map]; omega)]⟩
        clear hj
        go_wp2
        go_roundg n1
        case measure => omega
        case rel => exact ⟨i + 1, acc2, (by first | rfl | (simp; done) | (simp [*]; done)), ⟨by have := HI.out; omega⟩, ⟨by rw [HAL.out]; exact HT3.out⟩, ⟨Jn.Box_mono HBX.out (fun k_ hk => hk.1)⟩, HB, ⟨HZ2.out.1⟩⟩
    ·have ht : decide ((i : Int) < (l1.length : Int)) = false := decide_eq_false (by omega)
     have htN : decide (i < l1.length) = false := decide_eq_false hi
     have HAO : Aside0 (acc = out) := ⟨by
      have hT := HTH.out
      rw [List.drop_eq_nil_of_le (by omega)] at hT
      exact Option.some.inj hT⟩
     clear hi
     obtain ⟨v, hv1, hv2, _⟩ := HBX.out.row
     obtain ⟨Av, cv, hv⟩ := Kd.S_slice hv2
     rw [HAO.out] at hv hv2
     have HV1 := Aside0.mk hv1
     have HV2 := Aside0.mk hv2
     have HF := HFIN.out
     clear hv1 hv2
     subst hv
     by_cases hbig : (out.length : Int) > 8192
     ·rw [if_pos hbig] at HF
      obtain ⟨rfl, rfl⟩ := Prod.mk.inj (Option.some.inj HF)
      have hb1 : decide (8192 < (out.length : Int)) = true := decide_eq_true hbig
      have hb2 : decide (8192 < out.length) = true := decide_eq_true (by omega)
      clear hbig HF
      go_wp2_with (first | ((with_reducible refine gate_dst (N := 68) rfl ?_); refine Jn.goesC_ (some 68) rfl rfl Try.func40 (by kernel_rfl) rfl #[] rfl rfl (by first | (simp; done) | rfl) ?_; refine (Jn.all_calls g _ _ HV1.out).mono ?_; rintro e w4 ⟨rfl, rfl⟩; refine ⟨_, rfl, ?_⟩))
      refine bodyPost_ret (results_tmp2 rfl _ _ _) rfl ?_
      exact ⟨_, rfl, Kd.N_nil _ _ _ _ _, HB.out⟩
     ·rw [if_neg hbig] at HF
      obtain ⟨rfl, rfl⟩ := Prod.mk.inj (Option.some.inj HF)
      have hb1 : decide (8192 < (out.length : Int)) = false := decide_eq_false hbig
      have hb2 : decide (8192 < out.length) = false := decide_eq_false (by omega)
      clear hbig HF
      go_wp2_with (first | ((with_reducible refine gate_dst (N := 68) rfl ?_); refine Jn.goesC_ (some 68) rfl rfl Try.func40 (by kernel_rfl) rfl #[] rfl rfl (by first | (simp; done) | rfl) ?_; refine (Jn.all_calls g _ _ HV1.out).mono ?_; rintro e w4 ⟨rfl, rfl⟩; refine ⟨_, rfl, ?_⟩))
      refine bodyPost_ret (results_tmp2 rfl _ _ _) rfl ?_
      refine ⟨_, rfl, Jn.iso_N (f := toT) ?_, HB.out⟩
      rw [map_to_of]
      exact Kd.N_mono (Jn.N_of_S HV2.out) (fun k_ hk => hk.1)
  ·rw [if_neg q2] at h
   obtain ⟨rfl, rfl⟩ := Prod.mk.inj (Option.some.inj h)
   have q2b : (e2 != 0) = true := bne_iff_ne.mpr q2
   have q2c : (e2 == 0) = false := beq_eq_false_iff_ne.mpr q2
   clear h q2
   go_enter Try.func29, Try.ntmps29
   go_wp2_with (first
    | ((with_reducible refine gate_dst (N := 18) rfl ?_); refine goesL_ (some 18) rfl rfl Try.func14 (by kernel_rfl) rfl #[.slice A0 l0.length c0, .int .i64 131072] rfl (by (try simp only [List.map_toArray, List.map_cons, List.map_nil]); first | done | rfl) ?_; refine (delta_Check.calls k A0 c0 l0 131072 0 _ (Kd.C_below HR0.out HB.out) HC0.out HE1.out).mono ?_; rintro e w1 ⟨rfl, hb⟩; refine ⟨_, rfl, ?_⟩; replace HB := Aside0.mk (below_step HB.out hb); clear hb)
    | ((with_reducible refine gate_dst (N := 24) rfl ?_); refine goesL_ (some 24) rfl rfl Try.func16 (by kernel_rfl) rfl #[.slice A0 l0.length c0] rfl (by (try simp only [List.map_toArray, List.map_cons, List.map_nil]); first | done | rfl) ?_; refine (delta_Size.calls k A0 c0 l0 sz _ (Kd.C_below HR0.out HB.out) HC0.out HSZ.out).mono ?_; rintro e w1 ⟨rfl, hb⟩; refine ⟨_, rfl, ?_⟩; replace HB := Aside0.mk (below_step HB.out hb); clear hb)
    | ((with_reducible refine gate_dst (N := 25) rfl ?_); refine goesL_ (some 25) rfl rfl Try.func14 (by kernel_rfl) rfl #[.slice A1 l1.length c1, .int .i64 sz] rfl (by (try simp only [List.map_toArray, List.map_cons, List.map_nil]); first | done | rfl) ?_; refine (delta_Check.calls k A1 c1 l1 sz e2 _ (Kd.C_below HR1.out HB.out) HC1.out HE2.out).mono ?_; rintro e w1 ⟨rfl, hb⟩; refine ⟨_, rfl, ?_⟩; replace HB := Aside0.mk (below_step HB.out hb); clear hb))
   refine bodyPost_ret (results_tmp2 rfl _ _ _) rfl ?_
   exact ⟨_, rfl, Kd.N_nil _ _ _ _ _, HB.out⟩
 ·rw [if_neg q1] at h
  obtain ⟨rfl, rfl⟩ := Prod.mk.inj (Option.some.inj h)
  have q1b : (e1 != 0) = true := bne_iff_ne.mpr q1
  have q1c : (e1 == 0) = false := beq_eq_false_iff_ne.mpr q1
  clear h q1
  go_enter Try.func29, Try.ntmps29
  go_wp2_with (first
    | ((with_reducible refine gate_dst (N := 18) rfl ?_); refine goesL_ (some 18) rfl rfl Try.func14 (by kernel_rfl) rfl #[.slice A0 l0.length c0, .int .i64 131072] rfl (by (try simp only [List.map_toArray, List.map_cons, List.map_nil]); first | done | rfl) ?_; refine (delta_Check.calls k A0 c0 l0 131072 e1 _ (Kd.C_below HR0.out HB.out) HC0.out HE1.out).mono ?_; rintro e w1 ⟨rfl, hb⟩; refine ⟨_, rfl, ?_⟩; replace HB := Aside0.mk (below_step HB.out hb); clear hb))
  refine bodyPost_ret (results_tmp2 rfl _ _ _) rfl ?_
  exact ⟨_, rfl, Kd.N_nil _ _ _ _ _, HB.out⟩

/-! ### remoraref08_Length: function 33 -/
def remoraref08_Length.f (a0_0 : Int) (a0_1 : Int) (l0_2 : List Int) : Option (Int) := if (l0_2.length : Int) > 0 then (some (l0_2.length : Int)) else (some (mx a0_1 0))
set_option maxHeartbeats 8000000 in
set_option maxRecDepth 100000 in
theorem remoraref08_Length.calls (a0_0 : Int) (a0_1 : Int) (A0_2 : Option Addr) (c0_2 : Nat) (l0_2 : List Int) (r : Int) (w : World) (hr0_2 : Kd.C (Kd.int .u8) w A0_2 l0_2.length l0_2) (hc0_2 : l0_2.length ≤ c0_2) (h : remoraref08_Length.f a0_0 a0_1 l0_2 = some r) :
  Calls Try.prog 33 #[.agg #[.int .i64 a0_0, .int .i64 a0_1, .slice A0_2 l0_2.length c0_2]] w fun e w' => e = .returned (.int .i64 r) ∧ Below w.heap.size w w' := by
 have hu40 := Try.underlying40
 have HR0_2 := Aside0.mk hr0_2
 have HC0_2 := Aside0.mk hc0_2
 clear hr0_2 hc0_2
 have HB := Aside0.mk (Below.refl w.heap.size w)
 have H : (if (l0_2.length : Int) > 0 then (some (l0_2.length : Int)) else (some (mx a0_1 0))) = some r := h
 clear h
 by_cases c2 : (l0_2.length : Int) > 0
 ·rw [if_pos c2] at H
  have c2b0 : decide (0 < (l0_2.length : Int)) = true := decide_eq_true c2
  have c2b1 : decide (0 < l0_2.length) = true := decide_eq_true (by omega)
  clear c2
  obtain rfl := Option.some.inj H
  go_enter Try.func33, Try.ntmps33
  go_wp2_with (first | ((with_reducible refine gate_dst (N := 1) rfl ?_); refine box_event ?hg (N := 1) ?hd (cs := #[.int .i64 a0_0, .int .i64 a0_1, .slice A0_2 l0_2.length c0_2]) (t := 40) ?hr ?_; (case hd => rfl); (case hg => rfl); (case hr => first | (go_simp; done) | (go_simp; rfl)); intro gb151 hg w3 hbox hb; have n0_ := Aside0.mk (below_step (by repeat (first | exact HB.out | apply b1 | apply b2 | apply b3)) hb); have n1_ := Aside0.mk (hbox); have n2_ := Aside0.mk ((by rw [hg]; exact (below_size (by repeat (first | exact HB.out | apply b1 | apply b2 | apply b3))) : w.heap.size ≤ gb151)); have n3_ := Aside0.mk ((by rw [hg]; exact (below_size (by repeat (first | exact HB.out | apply b1 | apply b2 | apply b3))) : w.heap.size ≤ gb151)); clear HB; have HB := n0_; have BK151 := n1_; have GW151 := n2_; have GE151 := n3_; clear n0_ n1_ n2_ n3_; clear hb hbox hg; have hcz4_0 : w3.cell? ⟨gb151, 0, none⟩ = some (.int .i64 a0_0) := (blk_cell BK151.out 0).trans rfl; have hcz4_1 : w3.cell? ⟨gb151, 1, none⟩ = some (.int .i64 a0_1) := (blk_cell BK151.out 1).trans rfl; have hcz4_2 : w3.cell? ⟨gb151, 2, none⟩ = some (.slice A0_2 l0_2.length c0_2) := (blk_cell BK151.out 2).trans rfl; have hfz4_0 := blk_frozen BK151.out 0; have hfz4_1 := blk_frozen BK151.out 1; have hfz4_2 := blk_frozen BK151.out 2))
  go_ret
  exact ⟨by first | rfl | (simp [*] <;> rfl), by repeat (first | (with_reducible first | exact HB.out | apply b1 | apply b2 | apply b3 | refine below_set ?_ GE151.out) | exact HB.out)⟩
 ·rw [if_neg c2] at H
  have c2b0 : decide (0 < (l0_2.length : Int)) = false := decide_eq_false c2
  have c2b1 : decide (0 < l0_2.length) = false := decide_eq_false (by omega)
  clear c2
  obtain ⟨ji5, hji5⟩ : ∃ j_ : Int, (mx a0_1 0) = j_ := ⟨_, rfl⟩
  replace H : (some ji5) = some r := by first | (rw [hji5] at H; exact H) | (simp only [hji5] at H ⊢; exact H)
  (try (have hji5l : 0 ≤ ji5 := by (rw [← hji5]; unfold mx; (repeat' split) <;> omega)))
  (try (have hji5m : 0 ≤ ji5 := by omega))
  have hji5_ : (if a0_1 < 0 then 0 else a0_1) = ji5 := hji5
  obtain rfl := Option.some.inj H
  go_enter Try.func33, Try.ntmps33
  go_wp2_with (first | ((with_reducible refine gate_dst (N := 1) rfl ?_); refine box_event ?hg (N := 1) ?hd (cs := #[.int .i64 a0_0, .int .i64 a0_1, .slice A0_2 l0_2.length c0_2]) (t := 40) ?hr ?_; (case hd => rfl); (case hg => rfl); (case hr => first | (go_simp; done) | (go_simp; rfl)); intro gb151 hg w6 hbox hb; have n0_ := Aside0.mk (below_step (by repeat (first | exact HB.out | apply b1 | apply b2 | apply b3)) hb); have n1_ := Aside0.mk (hbox); have n2_ := Aside0.mk ((by rw [hg]; exact (below_size (by repeat (first | exact HB.out | apply b1 | apply b2 | apply b3))) : w.heap.size ≤ gb151)); have n3_ := Aside0.mk ((by rw [hg]; exact (below_size (by repeat (first | exact HB.out | apply b1 | apply b2 | apply b3))) : w.heap.size ≤ gb151)); clear HB; have HB := n0_; have BK151 := n1_; have GW151 := n2_; have GE151 := n3_; clear n0_ n1_ n2_ n3_; clear hb hbox hg; have hcz7_0 : w6.cell? ⟨gb151, 0, none⟩ = some (.int .i64 a0_0) := (blk_cell BK151.out 0).trans rfl; have hcz7_1 : w6.cell? ⟨gb151, 1, none⟩ = some (.int .i64 a0_1) := (blk_cell BK151.out 1).trans rfl; have hcz7_2 : w6.cell? ⟨gb151, 2, none⟩ = some (.slice A0_2 l0_2.length c0_2) := (blk_cell BK151.out 2).trans rfl; have hfz7_0 := blk_frozen BK151.out 0; have hfz7_1 := blk_frozen BK151.out 1; have hfz7_2 := blk_frozen BK151.out 2))
  go_ret
  exact ⟨by first | rfl | (simp [errW_none, errW_some] <;> rfl) | (simp only [← hji5]; first | rfl | (simp [errW_none, errW_some] <;> rfl)) | (simp [*, errW_none, errW_some] <;> rfl), by repeat (first | (with_reducible first | exact HB.out | apply b1 | apply b2 | apply b3 | refine below_set ?_ GE151.out) | exact HB.out)⟩

/-! ### remoraref08_Size: function 17 -/
def remoraref08_Size.l0 : Nat → List (S40) → Int → Int → Option (Int)
 | 0, _, _, _ => none
 | k + 1, x0, x3, x4 => if x4 < (x0.length : Int) then (if 0 ≤ x4 then ((remoraref08_Length.f ((rd_T40 x0 x4).f0) ((rd_T40 x0 x4).f1) ((rd_T40 x0 x4).f2)).bind fun t153 => (remoraref08_Size.l0 k x0 (wrap64 (x3 + t153)) (wrap64 (x4 + 1)))) else (none)) else (some x3)
def remoraref08_Size.f (k : Nat) (l0 : List (S40)) : Option (Int) := remoraref08_Size.l0 k l0 0 0
theorem remoraref08_Size.mono_l : ∀ k, (∀ y0 y1 y2, LeO (remoraref08_Size.l0 k y0 y1 y2) (remoraref08_Size.l0 (k + 1) y0 y1 y2))
 | 0 => fun _ _ _ r h => by simp [remoraref08_Size.l0] at h
 | k + 1 => by
  have ih0 := remoraref08_Size.mono_l k
  ·intro y0 y1 y2
   unfold remoraref08_Size.l0
   repeat' first
   | (with_reducible exact ih0 _ _ _)
   | (with_reducible exact LeO.refl _)
   | (with_reducible exact LeO.none _)
   | (with_reducible refine LeO.ite ?_ ?_)
   | (with_reducible refine LeO.bind ?_ (fun _ => ?_))
   | exact ih0 _ _ _
   | exact LeO.none _
   | refine LeO.ite ?_ ?_
   | refine LeO.bind ?_ (fun _ => ?_)
theorem remoraref08_Size.mono : ∀ a0 k, LeO (remoraref08_Size.f k a0) (remoraref08_Size.f (k + 1) a0) := by
 intro a0 k
 have ih0 := remoraref08_Size.mono_l k
 unfold remoraref08_Size.f
 repeat' first
   | (with_reducible exact ih0 _ _ _)
   | (with_reducible exact LeO.refl _)
   | (with_reducible exact LeO.none _)
   | (with_reducible refine LeO.ite ?_ ?_)
   | (with_reducible refine LeO.bind ?_ (fun _ => ?_))
   | exact ih0 _ _ _
   | exact LeO.none _
   | refine LeO.ite ?_ ?_
   | refine LeO.bind ?_ (fun _ => ?_)
set_option maxHeartbeats 8000000 in
set_option maxRecDepth 100000 in
theorem remoraref08_Size.calls (k : Nat) (A0 : Option Addr) (c0 : Nat) (l0 : List (S40)) (r : Int) (w : World) (hr0 : Kd.C k40 w A0 l0.length l0) (hc0 : l0.length ≤ c0) (h : remoraref08_Size.f k l0 = some r) :
  Calls Try.prog 17 #[.slice A0 l0.length c0] w fun e w' => e = .returned (.int .i64 r) ∧ Below w.heap.size w w' := by
 have hu40 := Try.underlying40
 have HR0 := Aside0.mk hr0
 have HC0 := Aside0.mk hc0
 clear hr0 hc0
 have HB := Aside0.mk (Below.refl w.heap.size w)
 have H : (remoraref08_Size.l0 k l0 0 0) = some r := h
 clear h
 have H' := Aside0.mk H
 clear H
 go_enter Try.func17, Try.ntmps17
 go_wp2
 go_loopg [3, 4] k (fun kq v3 v4 w' => ∃ (x3_1 : Int) (x4_1 : Int), v3 = .int .i64 x3_1 ∧ v4 = .int .i64 x4_1 ∧ Aside0 (remoraref08_Size.l0 kq l0 x3_1 x4_1 = some r) ∧ Aside0 (kq ≤ k) ∧ Aside0 (Below w.heap.size w w'))
 case atStart => exact ⟨(0), (0), (by first | rfl | (simp; done) | (simp [*]; done)), (by first | rfl | (simp; done) | (simp [*]; done)), H', ⟨Nat.le_refl _⟩, ⟨by repeat (first | exact HB.out | apply b1 | apply b2 | apply b3)⟩⟩
 case round =>
  clear H'
  try clear c1
  obtain ⟨x3_1, x4_1, rfl, rfl, HA, HK1, HB⟩ := hrel
  cases gk with
  | zero => exact absurd HA.out (by simp [remoraref08_Size.l0])
  | succ k1 =>
   have H := HA.out
   clear HA
   simp only [remoraref08_Size.l0] at H
   by_cases c2 : x4_1 < (l0.length : Int)
   ·rw [if_pos c2] at H
    have c2b0 : decide (x4_1 < (l0.length : Int)) = true := decide_eq_true c2
    clear c2
    by_cases c3 : 0 ≤ x4_1
    ·rw [if_pos c3] at H
     have c3b0 : decide (0 ≤ x4_1) = true := decide_eq_true c3
     clear c3
     replace H := Option.bind_eq_some_iff.mp H
     obtain ⟨t153, A40, H⟩ := H
     replace H : (remoraref08_Size.l0 k1 l0 (wrap64 (x3_1 + t153)) (wrap64 (x4_1 + 1))) = some r := H
     have A4 := Aside0.mk A40
     clear A40
     have H' := Aside0.mk H
     clear H
     have p152 : 0 ≤ (x4_1 : Int) := of_decide_eq_true (by assumption)
     have q152 : x4_1 < (l0.length : Int) := of_decide_eq_true (by assumption)
     obtain ⟨ad152, A152_2, c152_2, e152, hx152_0, hx152_1, hx152_2, hl152_2, hi152_2⟩ := at_T40 HR0.out x4_1 p152 q152
     cases e152
     replace hx152_0 := (HB.out.cell (World.block_lt_of_cell? w _ hx152_0)).trans hx152_0
     replace hx152_1 := (HB.out.cell (World.block_lt_of_cell? w _ hx152_1)).trans hx152_1
     replace hx152_2 := (HB.out.cell (World.block_lt_of_cell? w _ hx152_2)).trans hx152_2
     have HR152_2 := Aside0.mk hi152_2
     have HC152_2 := Aside0.mk hl152_2
     clear hi152_2 hl152_2
     replace p152 := eq_true p152
     replace q152 := eq_true q152
     go_wp2_with (first | ((with_reducible refine gate_callee (f := 33) rfl ?_); refine goesL_ (some 16) rfl rfl Try.func33 (by kernel_rfl) rfl #[.agg #[.int .i64 ((rd_T40 l0 x4_1).f0), .int .i64 ((rd_T40 l0 x4_1).f1), .slice A152_2 ((rd_T40 l0 x4_1).f2).length c152_2]] rfl (by (try simp only [List.map_toArray, List.map_cons, List.map_nil]); first | done | rfl | (simp only [List.length_drop, List.length_take]; rfl)) ?_; (with_reducible refine (remoraref08_Length.calls ((rd_T40 l0 x4_1).f0) ((rd_T40 l0 x4_1).f1) _ _ ((rd_T40 l0 x4_1).f2) t153 _ ?side1 ?side2 A4.out).mono ?_); (case side1 => repeat (first | exact (Kd.C_below HR152_2.out HB.out) | (with_reducible refine Kd.C_alloc ?_ _) | (with_reducible refine Kd.C_drewN ?_ _) | (with_reducible refine Kd.C_drew ?_))); (case side2 => exact HC152_2.out); rintro e w5 ⟨rfl, hb⟩; refine ⟨_, rfl, ?_⟩; have n0_ := Aside0.mk (below_step (by repeat (first | exact HB.out | apply b1 | apply b2 | apply b3)) hb); clear HB; have HB := n0_; clear n0_; (try clear hb); (try clear hb2); (try clear hk); (try clear hi)))
     go_roundg k1
     case measure => have := HK1.out; omega
     case rel => exact ⟨(wrap64 (x3_1 + t153)), (wrap64 (x4_1 + 1)), (by first | rfl | (simp; done) | (simp [*]; done)), (by first | rfl | (simp; done) | (simp [*]; done)), H', ⟨by have := HK1.out; omega⟩, ⟨by repeat (first | exact HB.out | apply b1 | apply b2 | apply b3)⟩⟩
    ·rw [if_neg c3] at H
     exact absurd H (by simp)
   ·rw [if_neg c2] at H
    have c2b0 : decide (x4_1 < (l0.length : Int)) = false := decide_eq_false c2
    clear c2
    obtain rfl := Option.some.inj H
    go_wp2
    go_ret
    exact ⟨by first | rfl | (simp [*] <;> rfl), by repeat (first | exact HB.out | apply b1 | apply b2 | apply b3)⟩

/-! ### remoraref08_Right: function 35 -/
def remoraref08_Right.f (a0_0 : Int) (a0_1 : Int) (l0_2 : List Int) : Option (Bool) := if (l0_2.length : Int) > 0 then (if a0_0 = 0 then (some (a0_1 == 0)) else (some false)) else (if a0_0 ≥ 0 then (some (decide (a0_1 ≥ 1))) else (some false))
set_option maxHeartbeats 8000000 in
set_option maxRecDepth 100000 in
theorem remoraref08_Right.calls (a0_0 : Int) (a0_1 : Int) (A0_2 : Option Addr) (c0_2 : Nat) (l0_2 : List Int) (r : Bool) (w : World) (hr0_2 : Kd.C (Kd.int .u8) w A0_2 l0_2.length l0_2) (hc0_2 : l0_2.length ≤ c0_2) (h : remoraref08_Right.f a0_0 a0_1 l0_2 = some r) :
  Calls Try.prog 35 #[.agg #[.int .i64 a0_0, .int .i64 a0_1, .slice A0_2 l0_2.length c0_2]] w fun e w' => e = .returned (.bool r) ∧ Below w.heap.size w w' := by
 have hu40 := Try.underlying40
 have HR0_2 := Aside0.mk hr0_2
 have HC0_2 := Aside0.mk hc0_2
 clear hr0_2 hc0_2
 have HB := Aside0.mk (Below.refl w.heap.size w)
 have H : (if (l0_2.length : Int) > 0 then (if a0_0 = 0 then (some (a0_1 == 0)) else (some false)) else (if a0_0 ≥ 0 then (some (decide (a0_1 ≥ 1))) else (some false))) = some r := h
 clear h
 by_cases c2 : (l0_2.length : Int) > 0
 ·rw [if_pos c2] at H
  have c2b0 : decide (0 < (l0_2.length : Int)) = true := decide_eq_true c2
  have c2b1 : decide (0 < l0_2.length) = true := decide_eq_true (by omega)
  clear c2
  by_cases c3 : a0_0 = 0
  ·rw [if_pos c3] at H
   have c3b0 : (a0_0 == 0) = true := beq_iff_eq.mpr c3
   have c3b1 : (a0_0 != 0) = false := bne_eq_false_iff_eq.mpr c3
   clear c3
   obtain rfl := Option.some.inj H
   go_enter Try.func35, Try.ntmps35
   go_wp2_with (first | ((with_reducible refine gate_dst (N := 1) rfl ?_); refine box_event ?hg (N := 1) ?hd (cs := #[.int .i64 a0_0, .int .i64 a0_1, .slice A0_2 l0_2.length c0_2]) (t := 40) ?hr ?_; (case hd => rfl); (case hg => rfl); (case hr => first | (go_simp; done) | (go_simp; rfl)); intro gb154 hg w4 hbox hb; have n0_ := Aside0.mk (below_step (by repeat (first | exact HB.out | apply b1 | apply b2 | apply b3)) hb); have n1_ := Aside0.mk (hbox); have n2_ := Aside0.mk ((by rw [hg]; exact (below_size (by repeat (first | exact HB.out | apply b1 | apply b2 | apply b3))) : w.heap.size ≤ gb154)); have n3_ := Aside0.mk ((by rw [hg]; exact (below_size (by repeat (first | exact HB.out | apply b1 | apply b2 | apply b3))) : w.heap.size ≤ gb154)); clear HB; have HB := n0_; have BK154 := n1_; have GW154 := n2_; have GE154 := n3_; clear n0_ n1_ n2_ n3_; clear hb hbox hg; have hcz5_0 : w4.cell? ⟨gb154, 0, none⟩ = some (.int .i64 a0_0) := (blk_cell BK154.out 0).trans rfl; have hcz5_1 : w4.cell? ⟨gb154, 1, none⟩ = some (.int .i64 a0_1) := (blk_cell BK154.out 1).trans rfl; have hcz5_2 : w4.cell? ⟨gb154, 2, none⟩ = some (.slice A0_2 l0_2.length c0_2) := (blk_cell BK154.out 2).trans rfl; have hfz5_0 := blk_frozen BK154.out 0; have hfz5_1 := blk_frozen BK154.out 1; have hfz5_2 := blk_frozen BK154.out 2))
   go_ret
   exact ⟨by first | rfl | (simp [*] <;> rfl), by repeat (first | (with_reducible first | exact HB.out | apply b1 | apply b2 | apply b3 | refine below_set ?_ GE154.out) | exact HB.out)⟩
  ·rw [if_neg c3] at H
   have c3b0 : (a0_0 == 0) = false := beq_eq_false_iff_ne.mpr c3
   have c3b1 : (a0_0 != 0) = true := bne_iff_ne.mpr c3
   obtain rfl := Option.some.inj H
   go_enter Try.func35, Try.ntmps35
   go_wp2_with (first | ((with_reducible refine gate_dst (N := 1) rfl ?_); refine box_event ?hg (N := 1) ?hd (cs := #[.int .i64 a0_0, .int .i64 a0_1, .slice A0_2 l0_2.length c0_2]) (t := 40) ?hr ?_; (case hd => rfl); (case hg => rfl); (case hr => first | (go_simp; done) | (go_simp; rfl)); intro gb154 hg w6 hbox hb; have n0_ := Aside0.mk (below_step (by repeat (first | exact HB.out | apply b1 | apply b2 | apply b3)) hb); have n1_ := Aside0.mk (hbox); have n2_ := Aside0.mk ((by rw [hg]; exact (below_size (by repeat (first | exact HB.out | apply b1 | apply b2 | apply b3))) : w.heap.size ≤ gb154)); have n3_ := Aside0.mk ((by rw [hg]; exact (below_size (by repeat (first | exact HB.out | apply b1 | apply b2 | apply b3))) : w.heap.size ≤ gb154)); clear HB; have HB := n0_; have BK154 := n1_; have GW154 := n2_; have GE154 := n3_; clear n0_ n1_ n2_ n3_; clear hb hbox hg; have hcz7_0 : w6.cell? ⟨gb154, 0, none⟩ = some (.int .i64 a0_0) := (blk_cell BK154.out 0).trans rfl; have hcz7_1 : w6.cell? ⟨gb154, 1, none⟩ = some (.int .i64 a0_1) := (blk_cell BK154.out 1).trans rfl; have hcz7_2 : w6.cell? ⟨gb154, 2, none⟩ = some (.slice A0_2 l0_2.length c0_2) := (blk_cell BK154.out 2).trans rfl; have hfz7_0 := blk_frozen BK154.out 0; have hfz7_1 := blk_frozen BK154.out 1; have hfz7_2 := blk_frozen BK154.out 2))
   go_ret
   exact ⟨by first | rfl | (simp [*] <;> rfl), by repeat (first | (with_reducible first | exact HB.out | apply b1 | apply b2 | apply b3 | refine below_set ?_ GE154.out) | exact HB.out)⟩
 ·rw [if_neg c2] at H
  have c2b0 : decide (0 < (l0_2.length : Int)) = false := decide_eq_false c2
  have c2b1 : decide (0 < l0_2.length) = false := decide_eq_false (by omega)
  clear c2
  by_cases c8 : a0_0 ≥ 0
  ·rw [if_pos c8] at H
   have c8b0 : decide (0 ≤ a0_0) = true := decide_eq_true c8
   clear c8
   obtain rfl := Option.some.inj H
   go_enter Try.func35, Try.ntmps35
   go_wp2_with (first | ((with_reducible refine gate_dst (N := 1) rfl ?_); refine box_event ?hg (N := 1) ?hd (cs := #[.int .i64 a0_0, .int .i64 a0_1, .slice A0_2 l0_2.length c0_2]) (t := 40) ?hr ?_; (case hd => rfl); (case hg => rfl); (case hr => first | (go_simp; done) | (go_simp; rfl)); intro gb154 hg w9 hbox hb; have n0_ := Aside0.mk (below_step (by repeat (first | exact HB.out | apply b1 | apply b2 | apply b3)) hb); have n1_ := Aside0.mk (hbox); have n2_ := Aside0.mk ((by rw [hg]; exact (below_size (by repeat (first | exact HB.out | apply b1 | apply b2 | apply b3))) : w.heap.size ≤ gb154)); have n3_ := Aside0.mk ((by rw [hg]; exact (below_size (by repeat (first | exact HB.out | apply b1 | apply b2 | apply b3))) : w.heap.size ≤ gb154)); clear HB; have HB := n0_; have BK154 := n1_; have GW154 := n2_; have GE154 := n3_; clear n0_ n1_ n2_ n3_; clear hb hbox hg; have hcz10_0 : w9.cell? ⟨gb154, 0, none⟩ = some (.int .i64 a0_0) := (blk_cell BK154.out 0).trans rfl; have hcz10_1 : w9.cell? ⟨gb154, 1, none⟩ = some (.int .i64 a0_1) := (blk_cell BK154.out 1).trans rfl; have hcz10_2 : w9.cell? ⟨gb154, 2, none⟩ = some (.slice A0_2 l0_2.length c0_2) := (blk_cell BK154.out 2).trans rfl; have hfz10_0 := blk_frozen BK154.out 0; have hfz10_1 := blk_frozen BK154.out 1; have hfz10_2 := blk_frozen BK154.out 2))
   go_ret
   exact ⟨by first | rfl | (simp [*] <;> rfl), by repeat (first | (with_reducible first | exact HB.out | apply b1 | apply b2 | apply b3 | refine below_set ?_ GE154.out) | exact HB.out)⟩
  ·rw [if_neg c8] at H
   have c8b0 : decide (0 ≤ a0_0) = false := decide_eq_false c8
   clear c8
   obtain rfl := Option.some.inj H
   go_enter Try.func35, Try.ntmps35
   go_wp2_with (first | ((with_reducible refine gate_dst (N := 1) rfl ?_); refine box_event ?hg (N := 1) ?hd (cs := #[.int .i64 a0_0, .int .i64 a0_1, .slice A0_2 l0_2.length c0_2]) (t := 40) ?hr ?_; (case hd => rfl); (case hg => rfl); (case hr => first | (go_simp; done) | (go_simp; rfl)); intro gb154 hg w11 hbox hb; have n0_ := Aside0.mk (below_step (by repeat (first | exact HB.out | apply b1 | apply b2 | apply b3)) hb); have n1_ := Aside0.mk (hbox); have n2_ := Aside0.mk ((by rw [hg]; exact (below_size (by repeat (first | exact HB.out | apply b1 | apply b2 | apply b3))) : w.heap.size ≤ gb154)); have n3_ := Aside0.mk ((by rw [hg]; exact (below_size (by repeat (first | exact HB.out | apply b1 | apply b2 | apply b3))) : w.heap.size ≤ gb154)); clear HB; have HB := n0_; have BK154 := n1_; have GW154 := n2_; have GE154 := n3_; clear n0_ n1_ n2_ n3_; clear hb hbox hg; have hcz12_0 : w11.cell? ⟨gb154, 0, none⟩ = some (.int .i64 a0_0) := (blk_cell BK154.out 0).trans rfl; have hcz12_1 : w11.cell? ⟨gb154, 1, none⟩ = some (.int .i64 a0_1) := (blk_cell BK154.out 1).trans rfl; have hcz12_2 : w11.cell? ⟨gb154, 2, none⟩ = some (.slice A0_2 l0_2.length c0_2) := (blk_cell BK154.out 2).trans rfl; have hfz12_0 := blk_frozen BK154.out 0; have hfz12_1 := blk_frozen BK154.out 1; have hfz12_2 := blk_frozen BK154.out 2))
   go_ret
   exact ⟨by first | rfl | (simp [*] <;> rfl), by repeat (first | (with_reducible first | exact HB.out | apply b1 | apply b2 | apply b3 | refine below_set ?_ GE154.out) | exact HB.out)⟩

end Go.Proofs.Ytifmajnhcbicnaa.PDeltaThens
