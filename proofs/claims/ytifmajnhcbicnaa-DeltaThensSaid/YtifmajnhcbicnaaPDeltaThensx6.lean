-- Written by a program of this session (the kit's printer with hand-written contracts among its functions).
-- slim
import Derived.Test.YtifmajnhcbicnaaPDeltaThensx0
import Derived.Test.YtifmajnhcbicnaaPDeltaThensx3
import Derived.Test.YtifmajnhcbicnaaPDeltaThensx4
namespace Go.Proofs.Ytifmajnhcbicnaa.PDeltaThens
open Go.RowKit Go.Proofs.YtifmajnhcbicnaaW.PrintWords Go.Proofs.YtifmajnhcbicnaaW.PrintLast Go.Proofs.YtifmajnhcbicnaaW.PrintMore
attribute [local go_sem] max2_int min2_int max_two min_two max_three min_three max_four min_four   -- for this text's walks alone
set_option linter.unusedVariables false
set_option linter.unusedSimpArgs false

/-! ### remoraref08_Part: function 28 -/
mutual
def remoraref08_Part.j0 : Nat → List (S40) → Int → Int → Bool → Option ((List (S40)) × Int)
 | 0, _, _, _, _ => none
 | k + 1, x0, x1, x2, x32 => if x32 = true then (some (([] : List (S40)), 3)) else (remoraref08_Part.l0 k x0 x1 x2 ([] : List (S40)) 0 0)
def remoraref08_Part.l0 : Nat → List (S40) → Int → Int → List (S40) → Int → Int → Option ((List (S40)) × Int)
 | 0, _, _, _, _, _, _ => none
 | k + 1, x0, x1, x2, x9, x10, x11 => if x11 < (x0.length : Int) then (if 0 ≤ x11 then ((remoraref08_Length.f ((rd_T40 x0 x11).f0) ((rd_T40 x0 x11).f1) ((rd_T40 x0 x11).f2)).bind fun t167 => (if (mx (wrap64 (x1 - x10)) 0) < (mn (wrap64 (x2 - x10)) t167) then (remoraref08_Part.j2 k x0 x1 x2 x9 x10 x11 t167 (mx (wrap64 (x1 - x10)) 0) (mn (wrap64 (x2 - x10)) t167) (decide ((((rd_T40 x0 x11).f2).length : Int) > 0))) else (remoraref08_Part.j2 k x0 x1 x2 x9 x10 x11 t167 (mx (wrap64 (x1 - x10)) 0) (mn (wrap64 (x2 - x10)) t167) false))) else (none)) else (some (x9, 0))
def remoraref08_Part.j2 : Nat → List (S40) → Int → Int → List (S40) → Int → Int → Int → Int → Int → Bool → Option ((List (S40)) × Int)
 | 0, _, _, _, _, _, _, _, _, _, _ => none
 | k + 1, x0, x1, x2, x9, x10, x11, x12, x13, x14, x64 => if x64 = true then ((some (([] : List Int) : List Int)).bind fun y169 => (if 0 ≤ x11 then (if x11 < (x0.length : Int) then (if 0 ≤ x13 then (if x13 ≤ x14 then (if x14 ≤ (((rd_T40 x0 x11).f2).length : Int) then (if y169.length + ((((rd_T40 x0 x11).f2).take (x14 : Int).toNat).drop (x13 : Int).toNat).length < 140737488355328 then (if x9.length < 3518437208883 then (remoraref08_Part.l0 k x0 x1 x2 (x9 ++ [(⟨0, 0, (y169 ++ ((((rd_T40 x0 x11).f2).take (x14 : Int).toNat).drop (x13 : Int).toNat))⟩ : S40)]) (wrap64 (x10 + x12)) (wrap64 (x11 + 1))) else (none)) else (none)) else (none)) else (none)) else (none)) else (none)) else (none))) else (if x13 < x14 then (if 0 ≤ x11 then (if x11 < (x0.length : Int) then (if x9.length < 3518437208883 then (remoraref08_Part.l0 k x0 x1 x2 (x9 ++ [(⟨wrap64 (((rd_T40 x0 x11).f0) + x13), wrap64 (x14 - x13), ([] : List Int)⟩ : S40)]) (wrap64 (x10 + x12)) (wrap64 (x11 + 1))) else (none)) else (none)) else (none)) else (remoraref08_Part.l0 k x0 x1 x2 x9 (wrap64 (x10 + x12)) (wrap64 (x11 + 1))))
end
def remoraref08_Part.f (k : Nat) (l0 : List (S40)) (a1 : Int) (a2 : Int) : Option ((List (S40)) × Int) := (remoraref08_Check.f k l0 131072).bind fun t164 => (if t164 = 0 then (if a1 < 0 then (remoraref08_Part.j0 k l0 a1 a2 true) else (if a2 < a1 then (remoraref08_Part.j0 k l0 a1 a2 true) else ((remoraref08_Size.f k l0).bind fun t165 => (remoraref08_Part.j0 k l0 a1 a2 (decide (a2 > t165)))))) else (some (([] : List (S40)), t164)))
theorem remoraref08_Part.mono_l : ∀ k, (∀ y0 y1 y2 y3, LeO (remoraref08_Part.j0 k y0 y1 y2 y3) (remoraref08_Part.j0 (k + 1) y0 y1 y2 y3)) ∧ (∀ y0 y1 y2 y3 y4 y5, LeO (remoraref08_Part.l0 k y0 y1 y2 y3 y4 y5) (remoraref08_Part.l0 (k + 1) y0 y1 y2 y3 y4 y5)) ∧ (∀ y0 y1 y2 y3 y4 y5 y6 y7 y8 y9, LeO (remoraref08_Part.j2 k y0 y1 y2 y3 y4 y5 y6 y7 y8 y9) (remoraref08_Part.j2 (k + 1) y0 y1 y2 y3 y4 y5 y6 y7 y8 y9))
 | 0 => ⟨fun _ _ _ _ r h => by simp [remoraref08_Part.j0] at h, fun _ _ _ _ _ _ r h => by simp [remoraref08_Part.l0] at h, fun _ _ _ _ _ _ _ _ _ _ r h => by simp [remoraref08_Part.j2] at h⟩
 | k + 1 => by
  obtain ⟨ih0, ih1, ih2⟩ := remoraref08_Part.mono_l k
  refine ⟨?_, ?_, ?_⟩
  ·intro y0 y1 y2 y3
   unfold remoraref08_Part.j0
   repeat' first
   | (with_reducible exact ih0 _ _ _ _)
   | (with_reducible exact ih1 _ _ _ _ _ _)
   | (with_reducible exact ih2 _ _ _ _ _ _ _ _ _ _)
   | (with_reducible exact remoraref08_Check.mono _ _ _)
   | (with_reducible exact remoraref08_Size.mono _ _)
   | (with_reducible exact LeO.refl _)
   | (with_reducible exact LeO.none _)
   | (with_reducible refine LeO.ite ?_ ?_)
   | (with_reducible refine LeO.bind ?_ (fun _ => ?_))
   | exact ih0 _ _ _ _
   | exact ih1 _ _ _ _ _ _
   | exact ih2 _ _ _ _ _ _ _ _ _ _
   | exact remoraref08_Check.mono _ _ _
   | exact remoraref08_Size.mono _ _
   | exact LeO.none _
   | refine LeO.ite ?_ ?_
   | refine LeO.bind ?_ (fun _ => ?_)
  ·intro y0 y1 y2 y3 y4 y5
   unfold remoraref08_Part.l0
   repeat' first
   | (with_reducible exact ih0 _ _ _ _)
   | (with_reducible exact ih1 _ _ _ _ _ _)
   | (with_reducible exact ih2 _ _ _ _ _ _ _ _ _ _)
   | (with_reducible exact remoraref08_Check.mono _ _ _)
   | (with_reducible exact remoraref08_Size.mono _ _)
   | (with_reducible exact LeO.refl _)
   | (with_reducible exact LeO.none _)
   | (with_reducible refine LeO.ite ?_ ?_)
   | (with_reducible refine LeO.bind ?_ (fun _ => ?_))
   | exact ih0 _ _ _ _
   | exact ih1 _ _ _ _ _ _
   | exact ih2 _ _ _ _ _ _ _ _ _ _
   | exact remoraref08_Check.mono _ _ _
   | exact remoraref08_Size.mono _ _
   | exact LeO.none _
   | refine LeO.ite ?_ ?_
   | refine LeO.bind ?_ (fun _ => ?_)
  ·intro y0 y1 y2 y3 y4 y5 y6 y7 y8 y9
   unfold remoraref08_Part.j2
   repeat' first
   | (with_reducible exact ih0 _ _ _ _)
   | (with_reducible exact ih1 _ _ _ _ _ _)
   | (with_reducible exact ih2 _ _ _ _ _ _ _ _ _ _)
   | (with_reducible exact remoraref08_Check.mono _ _ _)
   | (with_reducible exact remoraref08_Size.mono _ _)
   | (with_reducible exact LeO.refl _)
   | (with_reducible exact LeO.none _)
   | (with_reducible refine LeO.ite ?_ ?_)
   | (with_reducible refine LeO.bind ?_ (fun _ => ?_))
   | exact ih0 _ _ _ _
   | exact ih1 _ _ _ _ _ _
   | exact ih2 _ _ _ _ _ _ _ _ _ _
   | exact remoraref08_Check.mono _ _ _
   | exact remoraref08_Size.mono _ _
   | exact LeO.none _
   | refine LeO.ite ?_ ?_
   | refine LeO.bind ?_ (fun _ => ?_)
theorem remoraref08_Part.mono : ∀ a0 a1 a2 k, LeO (remoraref08_Part.f k a0 a1 a2) (remoraref08_Part.f (k + 1) a0 a1 a2) := by
 intro a0 a1 a2 k
 obtain ⟨ih0, ih1, ih2⟩ := remoraref08_Part.mono_l k
 unfold remoraref08_Part.f
 repeat' first
   | (with_reducible exact ih0 _ _ _ _)
   | (with_reducible exact ih1 _ _ _ _ _ _)
   | (with_reducible exact ih2 _ _ _ _ _ _ _ _ _ _)
   | (with_reducible exact remoraref08_Check.mono _ _ _)
   | (with_reducible exact remoraref08_Size.mono _ _)
   | (with_reducible exact LeO.refl _)
   | (with_reducible exact LeO.none _)
   | (with_reducible refine LeO.ite ?_ ?_)
   | (with_reducible refine LeO.bind ?_ (fun _ => ?_))
   | exact ih0 _ _ _ _
   | exact ih1 _ _ _ _ _ _
   | exact ih2 _ _ _ _ _ _ _ _ _ _
   | exact remoraref08_Check.mono _ _ _
   | exact remoraref08_Size.mono _ _
   | exact LeO.none _
   | refine LeO.ite ?_ ?_
   | refine LeO.bind ?_ (fun _ => ?_)
set_option maxHeartbeats 8000000 in
set_option maxRecDepth 100000 in
theorem remoraref08_Part.calls (k : Nat) (A0 : Option Addr) (c0 : Nat) (l0 : List (S40)) (a1 : Int) (a2 : Int) (r1 : List (S40)) (r2 : Int) (w : World) (hr0 : Kd.C k40 w A0 l0.length l0) (hc0 : l0.length ≤ c0) (h : remoraref08_Part.f k l0 a1 a2 = some (r1, r2)) :
  Calls Try.prog 28 #[.slice A0 l0.length c0, .int .i64 a1, .int .i64 a2] w fun e w' => ∃ v0_ : Value, e = .returned (.tuple #[v0_, .int .i64 r2]) ∧ Kd.S k40 40 w' w.heap.size (fun _ => True) v0_ r1 ∧ Below w.heap.size w w' := by
 have hu40 := Try.underlying40
 have HR0 := Aside0.mk hr0
 have HC0 := Aside0.mk hc0
 clear hr0 hc0
 have HB := Aside0.mk (Below.refl w.heap.size w)
 have H : ((remoraref08_Check.f k l0 131072).bind fun t164 => (if t164 = 0 then (if a1 < 0 then (remoraref08_Part.j0 k l0 a1 a2 true) else (if a2 < a1 then (remoraref08_Part.j0 k l0 a1 a2 true) else ((remoraref08_Size.f k l0).bind fun t165 => (remoraref08_Part.j0 k l0 a1 a2 (decide (a2 > t165)))))) else (some (([] : List (S40)), t164)))) = some (r1, r2) := h
 clear h
 replace H := Option.bind_eq_some_iff.mp H
 obtain ⟨t164, A40, H⟩ := H
 replace H : (if t164 = 0 then (if a1 < 0 then (remoraref08_Part.j0 k l0 a1 a2 true) else (if a2 < a1 then (remoraref08_Part.j0 k l0 a1 a2 true) else ((remoraref08_Size.f k l0).bind fun t165 => (remoraref08_Part.j0 k l0 a1 a2 (decide (a2 > t165)))))) else (some (([] : List (S40)), t164))) = some (r1, r2) := H
 have A4 := Aside0.mk A40
 clear A40
 by_cases c5 : t164 = 0
 ·rw [if_pos c5] at H
  have c5b0 : (t164 == 0) = true := beq_iff_eq.mpr c5
  have c5b1 : (t164 != 0) = false := bne_eq_false_iff_eq.mpr c5
  clear c5
  have HC6 := Aside0.mk H
  clear H
  go_enter Try.func28, Try.ntmps28
  go_upto_region 4 with (first | ((with_reducible refine gate_callee (f := 15) rfl ?_); refine goesL_ (some 16) rfl rfl Try.func15 (by kernel_rfl) rfl #[.slice A0 l0.length c0, .int .i64 131072] rfl (by (try simp only [List.map_toArray, List.map_cons, List.map_nil]); first | done | rfl | (simp only [List.length_drop, List.length_take]; rfl)) ?_; (with_reducible refine (remoraref08_Check.calls k _ _ l0 131072 t164 _ ?side1 ?side2 A4.out).mono ?_); (case side1 => repeat (first | exact HR0.out | (with_reducible refine Kd.C_alloc ?_ _) | (with_reducible refine Kd.C_drewN ?_ _) | (with_reducible refine Kd.C_drew ?_))); (case side2 => exact HC0.out); rintro e w7 ⟨rfl, hb⟩; refine ⟨_, rfl, ?_⟩; have n0_ := Aside0.mk (below_step (by repeat (first | exact HB.out | apply b1 | apply b2 | apply b3)) hb); clear HB; have HB := n0_; clear n0_; (try clear hb); (try clear hb2); (try clear hk); (try clear hi)))
  (try simp only [Act.put, List.setIfInBounds_toArray, List.set_cons_zero, List.set_cons_succ])
  go_cut [32] (fun v32 wc => ∃ (kq : Nat) (x32_5 : Bool), v32 = .bool x32_5 ∧ Aside0 (remoraref08_Part.j0 kq l0 a1 a2 x32_5 = some (r1, r2)) ∧ Aside0 (kq ≤ k) ∧ Aside0 (Below w.heap.size w wc))
  case first =>
   have H := HC6.out
   clear HC6
   by_cases c8 : a1 < 0
   ·rw [if_pos c8] at H
    have c8b0 : decide (a1 < 0) = true := decide_eq_true c8
    clear c8
    (first | rw [c8b0] | (simp only [i64_w, i32_w]; rw [c8b0]) | skip)
    have H' := Aside0.mk H
    clear H
    go_wp2
    go_meet
    case rel => exact ⟨_, (true), (by first | rfl | (simp; done) | (simp [*]; done)), H', ⟨by first | omega | exact Nat.le_refl _⟩, ⟨by repeat (first | exact HB.out | apply b1 | apply b2 | apply b3)⟩⟩
   ·rw [if_neg c8] at H
    have c8b0 : decide (a1 < 0) = false := decide_eq_false c8
    clear c8
    (first | rw [c8b0] | (simp only [i64_w, i32_w]; rw [c8b0]) | skip)
    by_cases c9 : a2 < a1
    ·rw [if_pos c9] at H
     have c9b0 : decide (a2 < a1) = true := decide_eq_true c9
     clear c9
     have H' := Aside0.mk H
     clear H
     go_wp2
     go_meet
     case rel => exact ⟨_, (true), (by first | rfl | (simp; done) | (simp [*]; done)), H', ⟨by first | omega | exact Nat.le_refl _⟩, ⟨by repeat (first | exact HB.out | apply b1 | apply b2 | apply b3)⟩⟩
    ·rw [if_neg c9] at H
     have c9b0 : decide (a2 < a1) = false := decide_eq_false c9
     clear c9
     replace H := Option.bind_eq_some_iff.mp H
     obtain ⟨t165, A100, H⟩ := H
     replace H : (remoraref08_Part.j0 k l0 a1 a2 (decide (a2 > t165))) = some (r1, r2) := H
     have A10 := Aside0.mk A100
     clear A100
     have H' := Aside0.mk H
     clear H
     go_wp2_with (first | (go_at_call 17; (with_reducible refine (remoraref08_Size.calls k _ _ l0 t165 _ ?side1 ?side2 A10.out).mono ?_); (case side1 => repeat (first | exact (Kd.C_below HR0.out HB.out) | (with_reducible refine Kd.C_alloc ?_ _) | (with_reducible refine Kd.C_drewN ?_ _) | (with_reducible refine Kd.C_drew ?_))); (case side2 => exact HC0.out); rintro e w11 ⟨rfl, hb⟩; have n0_ := Aside0.mk (below_step (by repeat (first | exact HB.out | apply b1 | apply b2 | apply b3)) hb); clear HB; have HB := n0_; clear n0_; (try clear hb); (try clear hb2); (try clear hk); (try clear hi)))
     go_meet
     case rel => exact ⟨_, (decide (a2 > t165)), (by first | rfl | (simp; done) | (simp [*]; done)), H', ⟨by first | omega | exact Nat.le_refl _⟩, ⟨by repeat (first | exact HB.out | apply b1 | apply b2 | apply b3)⟩⟩
  case rest =>
   clear HC6
   try clear c1
   try clear c2
   try clear p2
   try clear c5
   try clear c5b0
   try clear c5b1
   try clear c8
   try clear c8b0
   try clear c9
   try clear c9b0
   obtain ⟨kq, x32_5, rfl, HA, HJ5, HB⟩ := hcut
   cases kq with
   | zero => exact absurd HA.out (by simp [remoraref08_Part.j0])
   | succ kj5 =>
    have H := HA.out
    clear HA
    simp only [remoraref08_Part.j0] at H
    by_cases c12 : x32_5 = true
    ·subst c12
     have H1 : (some (([] : List (S40)), 3)) = some (r1, r2) := by rw [if_pos rfl] at H; exact H
     clear H
     have H := H1
     clear H1
     simp only [Option.some.injEq, Prod.mk.injEq] at H
     obtain ⟨rfl, rfl⟩ := H
     go_wp2
     go_ret2
     exact ⟨_, by first | rfl | (simp [*] <;> rfl), by first | exact Kd.S_nil _ _ _ _ _ | exact Kd.N_nil _ _ _ _ _ | exact Kd.V_nil _ _ _ _ _ | exact Kd.Q_nil _ _ _ _ _ | exact Kd.R_nil _ _ _ _ _, by repeat (first | exact HB.out | apply b1 | apply b2 | apply b3)⟩
    ·replace c12 := Bool.eq_false_iff.mpr c12
     subst c12
     have H1 : (remoraref08_Part.l0 kj5 l0 a1 a2 ([] : List (S40)) 0 0) = some (r1, r2) := by rw [if_neg (show ¬ (false = true) by decide)] at H; exact H
     clear H
     have H := H1
     clear H1
     have H' := Aside0.mk H
     clear H
     go_wp2
     go_loopg [9, 10, 11] kj5 (fun kq v9 v10 v11 w' => ∃ (x9_2 : List (S40)) (x10_2 : Int) (x11_2 : Int), v10 = .int .i64 x10_2 ∧ v11 = .int .i64 x11_2 ∧ Aside0 (remoraref08_Part.l0 kq l0 a1 a2 x9_2 x10_2 x11_2 = some (r1, r2)) ∧ Aside0 (kq ≤ kj5) ∧ Aside0 (Kd.S k40 40 w' w.heap.size (fun _ => True) v9 x9_2) ∧ Aside0 (Below w.heap.size w w'))
     case atStart => exact ⟨(([] : List (S40))), (0), (0), (by first | rfl | (simp; done) | (simp [*]; done)), (by first | rfl | (simp; done) | (simp [*]; done)), H', ⟨Nat.le_refl _⟩, ⟨by first | exact Kd.S_nil _ _ _ _ _ | exact Kd.N_nil _ _ _ _ _ | exact Kd.V_nil _ _ _ _ _ | exact Kd.Q_nil _ _ _ _ _ | exact Kd.R_nil _ _ _ _ _⟩, ⟨by repeat (first | exact HB.out | apply b1 | apply b2 | apply b3)⟩⟩
     case round =>
      clear H'
      try clear c1
      try clear c2
      try clear p2
      try clear c5
      try clear c5b0
      try clear c5b1
      try clear c8
      try clear c8b0
      try clear c9
      try clear c9b0
      try clear c12
      try clear p2
      obtain ⟨x9_2, x10_2, x11_2, rfl, rfl, HA, HK2, HO_9, HB⟩ := hrel
      cases gk with
      | zero => exact absurd HA.out (by simp [remoraref08_Part.l0])
      | succ k2 =>
       have H := HA.out
       clear HA
       simp only [remoraref08_Part.l0] at H
       by_cases c13 : x11_2 < (l0.length : Int)
       ·rw [if_pos c13] at H
        have c13b0 : decide (x11_2 < (l0.length : Int)) = true := decide_eq_true c13
        clear c13
        by_cases c14 : 0 ≤ x11_2
        ·rw [if_pos c14] at H
         have c14b0 : decide (0 ≤ x11_2) = true := decide_eq_true c14
         clear c14
         replace H := Option.bind_eq_some_iff.mp H
         obtain ⟨t167, A150, H⟩ := H
         replace H : (if (mx (wrap64 (a1 - x10_2)) 0) < (mn (wrap64 (a2 - x10_2)) t167) then (remoraref08_Part.j2 k2 l0 a1 a2 x9_2 x10_2 x11_2 t167 (mx (wrap64 (a1 - x10_2)) 0) (mn (wrap64 (a2 - x10_2)) t167) (decide ((((rd_T40 l0 x11_2).f2).length : Int) > 0))) else (remoraref08_Part.j2 k2 l0 a1 a2 x9_2 x10_2 x11_2 t167 (mx (wrap64 (a1 - x10_2)) 0) (mn (wrap64 (a2 - x10_2)) t167) false)) = some (r1, r2) := H
         have A15 := Aside0.mk A150
         clear A150
         obtain ⟨ji16, hji16⟩ : ∃ j_ : Int, (mx (wrap64 (a1 - x10_2)) 0) = j_ := ⟨_, rfl⟩
         replace H : (if (ji16) < (mn (wrap64 (a2 - x10_2)) t167) then (remoraref08_Part.j2 k2 l0 a1 a2 x9_2 x10_2 x11_2 t167 ji16 (mn (wrap64 (a2 - x10_2)) t167) (decide ((((rd_T40 l0 x11_2).f2).length : Int) > 0))) else (remoraref08_Part.j2 k2 l0 a1 a2 x9_2 x10_2 x11_2 t167 ji16 (mn (wrap64 (a2 - x10_2)) t167) false)) = some (r1, r2) := by first | (rw [hji16] at H; exact H) | (simp only [hji16] at H ⊢; exact H)
         (try rw [hji16] at A15)
         have hji16_ : (if (wrap64 (a1 - x10_2)) < 0 then 0 else (wrap64 (a1 - x10_2))) = ji16 := hji16
         obtain ⟨ji17, hji17⟩ : ∃ j_ : Int, (mn (wrap64 (a2 - x10_2)) t167) = j_ := ⟨_, rfl⟩
         replace H : (if (ji16) < (ji17) then (remoraref08_Part.j2 k2 l0 a1 a2 x9_2 x10_2 x11_2 t167 ji16 ji17 (decide ((((rd_T40 l0 x11_2).f2).length : Int) > 0))) else (remoraref08_Part.j2 k2 l0 a1 a2 x9_2 x10_2 x11_2 t167 ji16 ji17 false)) = some (r1, r2) := by first | (rw [hji17] at H; exact H) | (simp only [hji17] at H ⊢; exact H)
         (try rw [hji17] at A15)
         have hji17_ : (if t167 < (wrap64 (a2 - x10_2)) then t167 else (wrap64 (a2 - x10_2))) = ji17 := hji17
         have HC18 := Aside0.mk H
         clear H
         have p166 : 0 ≤ (x11_2 : Int) := of_decide_eq_true (by assumption)
         have q166 : x11_2 < (l0.length : Int) := of_decide_eq_true (by assumption)
         obtain ⟨ad166, A166_2, c166_2, e166, hx166_0, hx166_1, hx166_2, hl166_2, hi166_2⟩ := at_T40 HR0.out x11_2 p166 q166
         cases e166
         replace hx166_0 := (HB.out.cell (World.block_lt_of_cell? w _ hx166_0)).trans hx166_0
         replace hx166_1 := (HB.out.cell (World.block_lt_of_cell? w _ hx166_1)).trans hx166_1
         replace hx166_2 := (HB.out.cell (World.block_lt_of_cell? w _ hx166_2)).trans hx166_2
         have HR166_2 := Aside0.mk hi166_2
         have HC166_2 := Aside0.mk hl166_2
         clear hi166_2 hl166_2
         replace p166 := eq_true p166
         replace q166 := eq_true q166
         go_upto_region 13 with (first | ((with_reducible refine gate_callee (f := 33) rfl ?_); refine goesL_ (some 43) rfl rfl Try.func33 (by kernel_rfl) rfl #[.agg #[.int .i64 ((rd_T40 l0 x11_2).f0), .int .i64 ((rd_T40 l0 x11_2).f1), .slice A166_2 ((rd_T40 l0 x11_2).f2).length c166_2]] rfl (by (try simp only [List.map_toArray, List.map_cons, List.map_nil]); first | done | rfl | (simp only [List.length_drop, List.length_take]; rfl)) ?_; (with_reducible refine (remoraref08_Length.calls ((rd_T40 l0 x11_2).f0) ((rd_T40 l0 x11_2).f1) _ _ ((rd_T40 l0 x11_2).f2) t167 _ ?side1 ?side2 A15.out).mono ?_); (case side1 => repeat (first | exact (Kd.C_below HR166_2.out HB.out) | (with_reducible refine Kd.C_alloc ?_ _) | (with_reducible refine Kd.C_drewN ?_ _) | (with_reducible refine Kd.C_drew ?_))); (case side2 => exact HC166_2.out); rintro e w19 ⟨rfl, hb⟩; refine ⟨_, rfl, ?_⟩; have n0_ := Aside0.mk (Kd.S_below (by (with_reducible repeat (first | apply Kd.S_alloc | apply Kd.S_drewN | apply Kd.S_drew)); exact HO_9.out) hb); have n1_ := Aside0.mk (below_step (by repeat (first | exact HB.out | apply b1 | apply b2 | apply b3)) hb); clear HO_9; clear HB; have HO_9 := n0_; have HB := n1_; clear n0_ n1_; (try clear hb); (try clear hb2); (try clear hk); (try clear hi)))
         (try simp only [Act.put, List.setIfInBounds_toArray, List.set_cons_zero, List.set_cons_succ])
         go_cut [64] (fun v64 wc => ∃ (kq : Nat) (x64_17 : Bool), v64 = .bool x64_17 ∧ Aside0 (remoraref08_Part.j2 kq l0 a1 a2 x9_2 x10_2 x11_2 t167 ji16 ji17 x64_17 = some (r1, r2)) ∧ Aside0 (kq ≤ k2) ∧ Aside0 (Kd.S k40 40 wc w.heap.size (fun _ => True) u9 x9_2) ∧ Aside0 (Below w.heap.size w wc))
         case first =>
          have H := HC18.out
          clear HC18
          by_cases c20 : (ji16) < (ji17)
          ·rw [if_pos c20] at H
           have c20b0 : decide ((ji16) < (ji17)) = true := decide_eq_true c20
           clear c20
           (first | rw [c20b0] | (simp only [i64_w, i32_w]; rw [c20b0]) | skip)
           have H' := Aside0.mk H
           clear H
           have p168 : 0 ≤ (x11_2 : Int) := of_decide_eq_true (by assumption)
           have q168 : x11_2 < (l0.length : Int) := of_decide_eq_true (by assumption)
           obtain ⟨ad168, A168_2, c168_2, e168, hx168_0, hx168_1, hx168_2, hl168_2, hi168_2⟩ := at_T40 HR0.out x11_2 p168 q168
           obtain rfl : ad166 = ad168 := (by injection e168)
           replace hx168_0 := (HB.out.cell (World.block_lt_of_cell? w _ hx168_0)).trans hx168_0
           replace hx168_1 := (HB.out.cell (World.block_lt_of_cell? w _ hx168_1)).trans hx168_1
           replace hx168_2 := (HB.out.cell (World.block_lt_of_cell? w _ hx168_2)).trans hx168_2
           have HR168_2 := Aside0.mk hi168_2
           have HC168_2 := Aside0.mk hl168_2
           clear hi168_2 hl168_2
           replace p168 := eq_true p168
           replace q168 := eq_true q168
           go_wp2
           go_meet
           case rel => exact ⟨_, (decide ((((rd_T40 l0 x11_2).f2).length : Int) > 0)), (by first | rfl | (simp; done) | (simp [*]; done)), H', ⟨by have := HJ5.out; have := HK2.out; first | omega | exact Nat.le_refl _⟩, ⟨by (with_reducible repeat (first | apply Kd.S_alloc | apply Kd.S_drewN | apply Kd.S_drew)); exact HO_9.out⟩, ⟨by repeat (first | exact HB.out | apply b1 | apply b2 | apply b3)⟩⟩
          ·rw [if_neg c20] at H
           have c20b0 : decide ((ji16) < (ji17)) = false := decide_eq_false c20
           clear c20
           (first | rw [c20b0] | (simp only [i64_w, i32_w]; rw [c20b0]) | skip)
           have H' := Aside0.mk H
           clear H
           go_wp2
           go_meet
           case rel => exact ⟨_, (false), (by first | rfl | (simp; done) | (simp [*]; done)), H', ⟨by have := HJ5.out; have := HK2.out; first | omega | exact Nat.le_refl _⟩, ⟨by (with_reducible repeat (first | apply Kd.S_alloc | apply Kd.S_drewN | apply Kd.S_drew)); exact HO_9.out⟩, ⟨by repeat (first | exact HB.out | apply b1 | apply b2 | apply b3)⟩⟩
         case rest =>
          clear HC18
          try clear c1
          try clear p1
          try clear q1
          try clear hx1
          try clear c2
          try clear p2
          try clear c3
          try clear c5
          try clear c5b0
          try clear c5b1
          try clear p6
          try clear c8
          try clear c8b0
          try clear c9
          try clear c9b0
          try clear c12
          try clear c13
          try clear c13b0
          try clear c14
          try clear c14b0
          try clear c15
          try clear c16
          try clear p16
          try clear q16
          try clear hx16
          try clear c20
          try clear c20b0
          try clear hx166_0
          try clear hx166_1
          try clear hx166_2
          try clear hx168_0
          try clear hx168_1
          try clear hx168_2
          try clear p166
          try clear p168
          try clear p2
          try clear q166
          try clear q168
          obtain ⟨kq, x64_17, rfl, HA, HJ17, HO_9, HB⟩ := hcut
          cases kq with
          | zero => exact absurd HA.out (by simp [remoraref08_Part.j2])
          | succ kj17 =>
           have H := HA.out
           clear HA
           simp only [remoraref08_Part.j2] at H
           by_cases c21 : x64_17 = true
           ·subst c21
            have H1 : ((some (([] : List Int) : List Int)).bind fun y169 => (if 0 ≤ x11_2 then (if x11_2 < (l0.length : Int) then (if 0 ≤ ji16 then (if ji16 ≤ ji17 then (if ji17 ≤ (((rd_T40 l0 x11_2).f2).length : Int) then (if y169.length + ((((rd_T40 l0 x11_2).f2).take (ji17 : Int).toNat).drop (ji16 : Int).toNat).length < 140737488355328 then (if x9_2.length < 3518437208883 then (remoraref08_Part.l0 kj17 l0 a1 a2 (x9_2 ++ [(⟨0, 0, (y169 ++ ((((rd_T40 l0 x11_2).f2).take (ji17 : Int).toNat).drop (ji16 : Int).toNat))⟩ : S40)]) (wrap64 (x10_2 + t167)) (wrap64 (x11_2 + 1))) else (none)) else (none)) else (none)) else (none)) else (none)) else (none)) else (none))) = some (r1, r2) := by rw [if_pos rfl] at H; exact H
            clear H
            have H := H1
            clear H1
            obtain ⟨y169, hy169⟩ : ∃ y_ : List Int, y_ = (([] : List Int)) := ⟨_, rfl⟩
            replace H : (if 0 ≤ x11_2 then (if x11_2 < (l0.length : Int) then (if 0 ≤ ji16 then (if ji16 ≤ ji17 then (if ji17 ≤ (((rd_T40 l0 x11_2).f2).length : Int) then (if y169.length + ((((rd_T40 l0 x11_2).f2).take (ji17 : Int).toNat).drop (ji16 : Int).toNat).length < 140737488355328 then (if x9_2.length < 3518437208883 then (remoraref08_Part.l0 kj17 l0 a1 a2 (x9_2 ++ [(⟨0, 0, (y169 ++ ((((rd_T40 l0 x11_2).f2).take (ji17 : Int).toNat).drop (ji16 : Int).toNat))⟩ : S40)]) (wrap64 (x10_2 + t167)) (wrap64 (x11_2 + 1))) else (none)) else (none)) else (none)) else (none)) else (none)) else (none)) else (none)) = some (r1, r2) := by first | (rw [hy169]; with_reducible exact H) | (have H2_ := (Option.bind_some _ _).symm.trans H; rw [hy169]; with_reducible exact H2_) | (have H2_ := (Option.bind_some _ _).symm.trans H; with_reducible exact H2_) | with_reducible exact H | (rw [hy169]; exact H) | exact H
            have Ny169 := Aside0.mk hy169
            clear hy169
            by_cases c22 : 0 ≤ x11_2
            ·rw [if_pos c22] at H
             have c22b0 : decide (0 ≤ x11_2) = true := decide_eq_true c22
             clear c22
             by_cases c23 : x11_2 < (l0.length : Int)
             ·rw [if_pos c23] at H
              have c23b0 : decide (x11_2 < (l0.length : Int)) = true := decide_eq_true c23
              clear c23
              by_cases c24 : 0 ≤ ji16
              ·rw [if_pos c24] at H
               have c24b0 := eq_true c24
               have c24b1 : decide (0 ≤ ji16) = true := decide_eq_true c24
               clear c24
               by_cases c25 : ji16 ≤ ji17
               ·rw [if_pos c25] at H
                have c25b0 := eq_true c25
                have c25b1 : decide (ji16 ≤ ji17) = true := decide_eq_true c25
                clear c25
                by_cases c26 : ji17 ≤ (((rd_T40 l0 x11_2).f2).length : Int)
                ·rw [if_pos c26] at H
                 have c26b0 := eq_true c26
                 have c26b1 : decide (ji17 ≤ (((rd_T40 l0 x11_2).f2).length : Int)) = true := decide_eq_true c26
                 clear c26
                 by_cases c27 : y169.length + ((((rd_T40 l0 x11_2).f2).take (ji17 : Int).toNat).drop (ji16 : Int).toNat).length < 140737488355328
                 ·rw [if_pos c27] at H
                  have LMc27 := Aside0.mk c27
                  clear c27
                  obtain ⟨y174, hy174⟩ : ∃ y_ : List Int, y_ = (y169 ++ ((((rd_T40 l0 x11_2).f2).take (ji17 : Int).toNat).drop (ji16 : Int).toNat)) := ⟨_, rfl⟩
                  replace H : (if x9_2.length < 3518437208883 then (remoraref08_Part.l0 kj17 l0 a1 a2 (x9_2 ++ [(⟨0, 0, y174⟩ : S40)]) (wrap64 (x10_2 + t167)) (wrap64 (x11_2 + 1))) else (none)) = some (r1, r2) := by first | (rw [hy174]; with_reducible exact H) | (have H2_ := (Option.bind_some _ _).symm.trans H; rw [hy174]; with_reducible exact H2_) | (have H2_ := (Option.bind_some _ _).symm.trans H; with_reducible exact H2_) | with_reducible exact H | (rw [hy174]; exact H) | exact H
                  have Ny174 := Aside0.mk hy174
                  clear hy174
                  by_cases c28 : x9_2.length < 3518437208883
                  ·rw [if_pos c28] at H
                   have LMc28 := Aside0.mk c28
                   clear c28
                   obtain ⟨y177, hy177⟩ : ∃ y_ : List (S40), y_ = (x9_2 ++ [(⟨0, 0, y174⟩ : S40)]) := ⟨_, rfl⟩
                   replace H : (remoraref08_Part.l0 kj17 l0 a1 a2 y177 (wrap64 (x10_2 + t167)) (wrap64 (x11_2 + 1))) = some (r1, r2) := by first | (rw [hy177]; with_reducible exact H) | (have H2_ := (Option.bind_some _ _).symm.trans H; rw [hy177]; with_reducible exact H2_) | (have H2_ := (Option.bind_some _ _).symm.trans H; with_reducible exact H2_) | with_reducible exact H | (rw [hy177]; exact H) | exact H
                   have Ny177 := Aside0.mk hy177
                   clear hy177
                   have H' := Aside0.mk H
                   clear H
                   go_wp2_with (first | ((with_reducible refine gate_dst (N := 66) rfl ?_); (try (refine gate_guard (by rfl) ?_; dsimp only)); refine Kd.R_lit (Kd.int .u8) _ 5 ?hg (N := 66) ?hd (xs := ([] : List Int)) (inner := []) (ok := fun _ => True) (okp := fun _ => True) ?hr ?hp (fun _ hk => hk) trivial (Below.refl _ _) (Nat.le_refl _) (by simp) ?_; (case hd => rfl); (case hg => rfl); (case hr => first | (go_simp; done) | (go_simp; rfl)); (case hp => exact (Reps.none _ _)); intro v170 w29 ho30 hb hg_ hnew_; clear hg_ hnew_; (first | rw [← Ny169.out] at ho30 | (simp only [Int.reduceToNat] at ho30; rw [← Ny169.out] at ho30)); have n0_ := Aside0.mk (Kd.S_elder' (by (with_reducible repeat (first | apply Kd.S_alloc | apply Kd.S_drewN | apply Kd.S_drew)); exact HO_9.out) (Kd.R_base ho30) hb); have n1_ := Aside0.mk (Kd.R_lower ho30 (below_size (by repeat (first | exact HB.out | apply b1 | apply b2 | apply b3)))); have n2_ := Aside0.mk (below_step (by repeat (first | exact HB.out | apply b1 | apply b2 | apply b3)) hb); clear HO_9; clear HB; have HO_9 := n0_; have HO171 := n1_; have HB := n2_; clear n0_ n1_ n2_; clear hb ho30; have p172 : 0 ≤ (x11_2 : Int) := of_decide_eq_true (by assumption); have q172 : x11_2 < (l0.length : Int) := of_decide_eq_true (by assumption); obtain ⟨ad172, A172_2, c172_2, e172, hx172_0, hx172_1, hx172_2, hl172_2, hi172_2⟩ := at_T40 HR0.out x11_2 p172 q172; obtain rfl : ad166 = ad172 := (by injection e172); replace hx172_0 := (HB.out.cell (World.block_lt_of_cell? w _ hx172_0)).trans hx172_0; replace hx172_1 := (HB.out.cell (World.block_lt_of_cell? w _ hx172_1)).trans hx172_1; replace hx172_2 := (HB.out.cell (World.block_lt_of_cell? w _ hx172_2)).trans hx172_2; have HR172_2 := Aside0.mk hi172_2; have HC172_2 := Aside0.mk hl172_2; clear hi172_2 hl172_2; replace p172 := eq_true p172; replace q172 := eq_true q172; obtain ⟨i031, hi031, _, hsz31, _⟩ := info_parts info5; obtain ⟨A31, hcut31, hA31, hC31⟩ := print_mid_of (P := Try.prog) (Value.int .u8) 0 31 5 .i64 .i64 Try.underlying31 hi031 hsz31 A172_2 c172_2 ((rd_T40 l0 x11_2).f2) ji16 ji17 (of_decide_eq_true (by assumption)) (by first | omega | exact of_decide_eq_true (by assumption)) (of_decide_eq_true (by assumption)) HC172_2.out; have HR173 := Aside0.mk (Kd.C_of_reads (h1 := fun _ => rfl) (hA31 _ (Kd.reads_of_C HR172_2.out))); have HC173 := Aside0.mk hC31; clear hA31 hC31 hi031 hsz31) | ((with_reducible refine gate_builtin (b := .append) (xs := #[.tmp 66, .tmp 74]) rfl ?_); (try (refine gate_guard (by rfl) ?_; dsimp only)); at_builtin; refine Kd.R_append_rows (Kd.int .u8) (w0 := w) w.heap.size rfl (.tmp 66) (.tmp 74) 31 5 (.int .u8 0) 1 rfl Try.underlying31 info5 rfl (by decide) (by omega) v170 y169 ((((rd_T40 l0 x11_2).f2).take (ji17 : Int).toNat).drop (ji16 : Int).toNat) _ _ _ (fun _ => True) (fun _ => False) rfl rfl ?aO ?aR (fun _ _ h => h) (fun _ h => h.elim) ?aF ?aB ?aS ?aL ?_; (case aR => first | (rw [← show ((((rd_T40 l0 x11_2).f2).take (ji17 : Int).toNat).drop (ji16 : Int).toNat).length = (ji17.toNat - ji16.toNat) from (by rw [List.length_drop, List.length_take]; have h_ : (ji17 : Int) ≤ (((rd_T40 l0 x11_2).f2).length : Int) := of_decide_eq_true (by assumption); omega)]; repeat (first | exact (Kd.C_below HR173.out HB.out) | (with_reducible refine Kd.C_alloc ?_ _) | (with_reducible refine Kd.C_drewN ?_ _) | (with_reducible refine Kd.C_drew ?_))) | (repeat (first | exact (Kd.C_below HR173.out HB.out) | (with_reducible refine Kd.C_alloc ?_ _) | (with_reducible refine Kd.C_drewN ?_ _) | (with_reducible refine Kd.C_drew ?_)))); (case aB => exact (by repeat (first | exact HB.out | apply b1 | apply b2 | apply b3))); (case aF => exact (fun _ _ => trivial)); (case aO => exact (by (with_reducible repeat (first | apply Kd.R_alloc | apply Kd.R_drewN | apply Kd.R_drew)); exact HO171.out)); (case aS => exact (below_size (by repeat (first | exact HB.out | apply b1 | apply b2 | apply b3)))); (case aL => have := LMc27.out; have hlx_ := (show ((((rd_T40 l0 x11_2).f2).take (ji17 : Int).toNat).drop (ji16 : Int).toNat).length = (ji17.toNat - ji16.toNat) from (by rw [List.length_drop, List.length_take]; have h_ : (ji17 : Int) ≤ (((rd_T40 l0 x11_2).f2).length : Int) := of_decide_eq_true (by assumption); omega)); omega); intro v175 w32 ho hb hg hat; rw [← Ny174.out] at ho; have n0_ := Aside0.mk (Kd.S_after (ok := (fun _ => True)) (by (with_reducible repeat (first | apply Kd.S_alloc | apply Kd.S_drewN | apply Kd.S_drew)); exact HO_9.out) hg hat); have n1_ := Aside0.mk (hb); have n2_ := Aside0.mk (ho); clear HO_9; clear HB; clear HO171; have HO_9 := n0_; have HB := n1_; have HO176 := n2_; clear n0_ n1_ n2_; clear ho hb hg hat; obtain ⟨Ao33, co33, eo33⟩ := Kd.R_slice HO176.out; subst eo33) | ((with_reducible refine gate_builtin (b := .append) (xs := #[.tmp 65, .tmp 77]) rfl ?_); (try (refine gate_guard (by rfl) ?_; dsimp only)); at_builtin; refine Kd.S_append k40 (w0 := w) w.heap.size rfl (.tmp 65) (.tmp 77) 22 40 (.agg #[(.int .i64 0), (.int .i64 0), (.slice none 0 0)]) 40 rfl Try.underlying22 info40 rfl (by decide) (by omega) u9 x9_2 (⟨0, 0, y174⟩ : S40) [.int .i64 0, .int .i64 0, .slice Ao33 y174.length co33] (fun _ => True) (fun k_ => some k_ = (.slice Ao33 y174.length co33 : Value).ownBlock) rfl rfl ?aP (fun k_ hk_ => ((Kd.R_mono (ok' := fun k_ => ((fun _ => True)) k_ ∧ some k_ ≠ (u9 : Value).ownBlock) (Kd.R_apart' (HO176.out) (Kd.S_typed HO_9.out) (by decide)) (fun k_ hk => ⟨trivial, hk.2⟩))).1 k_ hk_.symm) ?aF ?aO ?aB ?aS ?aL ?_; (case aP => exact k40_mkM _ _ _ (⟨0, 0, y174⟩ : S40) (Kd.R_mono (Kd.R_tight rfl (Kd.R_mono (ok' := fun k_ => ((fun _ => True)) k_ ∧ some k_ ≠ (u9 : Value).ownBlock) (Kd.R_apart' (HO176.out) (Kd.S_typed HO_9.out) (by decide)) (fun k_ hk => ⟨trivial, hk.2⟩))) (fun _ h_ => h_))); (case aB => exact (by repeat (first | exact HB.out | apply b1 | apply b2 | apply b3))); (case aF => exact (fun _ _ => trivial)); (case aO => exact (by (with_reducible repeat (first | apply Kd.S_alloc | apply Kd.S_drewN | apply Kd.S_drew)); exact Kd.S_mono HO_9.out (fun k_ hk => ⟨trivial, fun e_ => hk.2 e_⟩))); (case aS => exact (below_size (by repeat (first | exact HB.out | apply b1 | apply b2 | apply b3)))); (case aL => have := LMc28.out; omega); intro v178 w34 ho hb hg hat; rw [← Ny177.out] at ho; have n0_ := Aside0.mk (hb); have n1_ := Aside0.mk (ho); clear HB; clear HO_9; clear HO176; have HB := n0_; have HO179 := n1_; clear n0_ n1_; clear ho hb hg hat))
                   go_roundg kj17
                   case measure => have := HJ5.out; have := HK2.out; have := HJ17.out; omega
                   case rel => exact ⟨(y177), (wrap64 (x10_2 + t167)), (wrap64 (x11_2 + 1)), (by first | rfl | (simp; done) | (simp [*]; done)), (by first | rfl | (simp; done) | (simp [*]; done)), H', ⟨by have := HJ5.out; have := HK2.out; have := HJ17.out; omega⟩, ⟨by (with_reducible repeat (first | apply Kd.S_alloc | apply Kd.S_drewN | apply Kd.S_drew)); exact HO179.out⟩, ⟨by repeat (first | exact HB.out | apply b1 | apply b2 | apply b3)⟩⟩
                  ·rw [if_neg c28] at H
                   exact absurd H (by simp)
                 ·rw [if_neg c27] at H
                  exact absurd H (by simp)
                ·rw [if_neg c26] at H
                 exact absurd H (by simp)
               ·rw [if_neg c25] at H
                exact absurd H (by simp)
              ·rw [if_neg c24] at H
               exact absurd H (by simp)
             ·rw [if_neg c23] at H
              exact absurd H (by simp)
            ·rw [if_neg c22] at H
             exact absurd H (by simp)
           ·replace c21 := Bool.eq_false_iff.mpr c21
            subst c21
            have H1 : (if ji16 < ji17 then (if 0 ≤ x11_2 then (if x11_2 < (l0.length : Int) then (if x9_2.length < 3518437208883 then (remoraref08_Part.l0 kj17 l0 a1 a2 (x9_2 ++ [(⟨wrap64 (((rd_T40 l0 x11_2).f0) + ji16), wrap64 (ji17 - ji16), ([] : List Int)⟩ : S40)]) (wrap64 (x10_2 + t167)) (wrap64 (x11_2 + 1))) else (none)) else (none)) else (none)) else (remoraref08_Part.l0 kj17 l0 a1 a2 x9_2 (wrap64 (x10_2 + t167)) (wrap64 (x11_2 + 1)))) = some (r1, r2) := by rw [if_neg (show ¬ (false = true) by decide)] at H; exact H
            clear H
            have H := H1
            clear H1
            by_cases c35 : ji16 < ji17
            ·rw [if_pos c35] at H
             have c35b0 : decide (ji16 < ji17) = true := decide_eq_true c35
             clear c35
             by_cases c36 : 0 ≤ x11_2
             ·rw [if_pos c36] at H
              have c36b0 : decide (0 ≤ x11_2) = true := decide_eq_true c36
              clear c36
              by_cases c37 : x11_2 < (l0.length : Int)
              ·rw [if_pos c37] at H
               have c37b0 : decide (x11_2 < (l0.length : Int)) = true := decide_eq_true c37
               clear c37
               by_cases c38 : x9_2.length < 3518437208883
               ·rw [if_pos c38] at H
                have LMc38 := Aside0.mk c38
                clear c38
                obtain ⟨y181, hy181⟩ : ∃ y_ : List (S40), y_ = (x9_2 ++ [(⟨wrap64 (((rd_T40 l0 x11_2).f0) + ji16), wrap64 (ji17 - ji16), ([] : List Int)⟩ : S40)]) := ⟨_, rfl⟩
                replace H : (remoraref08_Part.l0 kj17 l0 a1 a2 y181 (wrap64 (x10_2 + t167)) (wrap64 (x11_2 + 1))) = some (r1, r2) := by first | (rw [hy181]; with_reducible exact H) | (have H2_ := (Option.bind_some _ _).symm.trans H; rw [hy181]; with_reducible exact H2_) | (have H2_ := (Option.bind_some _ _).symm.trans H; with_reducible exact H2_) | with_reducible exact H | (rw [hy181]; exact H) | exact H
                have Ny181 := Aside0.mk hy181
                clear hy181
                have H' := Aside0.mk H
                clear H
                have p180 : 0 ≤ (x11_2 : Int) := of_decide_eq_true (by assumption)
                have q180 : x11_2 < (l0.length : Int) := of_decide_eq_true (by assumption)
                obtain ⟨ad180, A180_2, c180_2, e180, hx180_0, hx180_1, hx180_2, hl180_2, hi180_2⟩ := at_T40 HR0.out x11_2 p180 q180
                obtain rfl : ad166 = ad180 := (by injection e180)
                replace hx180_0 := (HB.out.cell (World.block_lt_of_cell? w _ hx180_0)).trans hx180_0
                replace hx180_1 := (HB.out.cell (World.block_lt_of_cell? w _ hx180_1)).trans hx180_1
                replace hx180_2 := (HB.out.cell (World.block_lt_of_cell? w _ hx180_2)).trans hx180_2
                have HR180_2 := Aside0.mk hi180_2
                have HC180_2 := Aside0.mk hl180_2
                clear hi180_2 hl180_2
                replace p180 := eq_true p180
                replace q180 := eq_true q180
                go_wp2_with (first | ((with_reducible refine gate_builtin (b := .append) (xs := #[.tmp 82, .tmp 94]) rfl ?_); (try (refine gate_guard (by rfl) ?_; dsimp only)); at_builtin; refine Kd.S_append k40 (w0 := w) w.heap.size rfl (.tmp 82) (.tmp 94) 22 40 (.agg #[(.int .i64 0), (.int .i64 0), (.slice none 0 0)]) 40 rfl Try.underlying22 info40 rfl (by decide) (by omega) u9 x9_2 (⟨wrap64 (((rd_T40 l0 x11_2).f0) + ji16), wrap64 (ji17 - ji16), ([] : List Int)⟩ : S40) [.int .i64 (wrap64 (((rd_T40 l0 x11_2).f0) + ji16)), .int .i64 (wrap64 (ji17 - ji16)), .slice none 0 0] (fun _ => True) (fun _ => False) rfl rfl ?aP (fun k_ hk_ => hk_.elim) ?aF ?aO ?aB ?aS ?aL ?_; (case aP => exact k40_mkM _ _ _ (⟨wrap64 (((rd_T40 l0 x11_2).f0) + ji16), wrap64 (ji17 - ji16), ([] : List Int)⟩ : S40) (Kd.R_nil _ _ _ _ _)); (case aB => exact (by repeat (first | exact HB.out | apply b1 | apply b2 | apply b3))); (case aF => exact (fun _ _ => trivial)); (case aO => exact (by (with_reducible repeat (first | apply Kd.S_alloc | apply Kd.S_drewN | apply Kd.S_drew)); exact Kd.S_mono HO_9.out (fun k_ hk => ⟨trivial, fun e_ => e_⟩))); (case aS => exact (below_size (by repeat (first | exact HB.out | apply b1 | apply b2 | apply b3)))); (case aL => have := LMc38.out; omega); intro v182 w39 ho hb hg hat; rw [← Ny181.out] at ho; have n0_ := Aside0.mk (hb); have n1_ := Aside0.mk (ho); clear HB; clear HO_9; have HB := n0_; have HO183 := n1_; clear n0_ n1_; clear ho hb hg hat))
                go_roundg kj17
                case measure => have := HJ5.out; have := HK2.out; have := HJ17.out; omega
                case rel => exact ⟨(y181), (wrap64 (x10_2 + t167)), (wrap64 (x11_2 + 1)), (by first | rfl | (simp; done) | (simp [*]; done)), (by first | rfl | (simp; done) | (simp [*]; done)), H', ⟨by have := HJ5.out; have := HK2.out; have := HJ17.out; omega⟩, ⟨by (with_reducible repeat (first | apply Kd.S_alloc | apply Kd.S_drewN | apply Kd.S_drew)); exact HO183.out⟩, ⟨by repeat (first | exact HB.out | apply b1 | apply b2 | apply b3)⟩⟩
               ·rw [if_neg c38] at H
                exact absurd H (by simp)
              ·rw [if_neg c37] at H
               exact absurd H (by simp)
             ·rw [if_neg c36] at H
              exact absurd H (by simp)
            ·rw [if_neg c35] at H
             have c35b0 : decide (ji16 < ji17) = false := decide_eq_false c35
             clear c35
             have H' := Aside0.mk H
             clear H
             go_wp2
             go_roundg kj17
             case measure => have := HJ5.out; have := HK2.out; have := HJ17.out; omega
             case rel => exact ⟨(x9_2), (wrap64 (x10_2 + t167)), (wrap64 (x11_2 + 1)), (by first | rfl | (simp; done) | (simp [*]; done)), (by first | rfl | (simp; done) | (simp [*]; done)), H', ⟨by have := HJ5.out; have := HK2.out; have := HJ17.out; omega⟩, ⟨by (with_reducible repeat (first | apply Kd.S_alloc | apply Kd.S_drewN | apply Kd.S_drew)); exact HO_9.out⟩, ⟨by repeat (first | exact HB.out | apply b1 | apply b2 | apply b3)⟩⟩
        ·rw [if_neg c14] at H
         exact absurd H (by simp)
       ·rw [if_neg c13] at H
        have c13b0 : decide (x11_2 < (l0.length : Int)) = false := decide_eq_false c13
        clear c13
        simp only [Option.some.injEq, Prod.mk.injEq] at H
        obtain ⟨rfl, rfl⟩ := H
        go_wp2
        go_ret2
        exact ⟨_, by first | rfl | (simp [*] <;> rfl), by (with_reducible repeat (first | apply Kd.S_alloc | apply Kd.S_drewN | apply Kd.S_drew)); exact HO_9.out, by repeat (first | exact HB.out | apply b1 | apply b2 | apply b3)⟩
 ·rw [if_neg c5] at H
  have c5b0 : (t164 == 0) = false := beq_eq_false_iff_ne.mpr c5
  have c5b1 : (t164 != 0) = true := bne_iff_ne.mpr c5
  simp only [Option.some.injEq, Prod.mk.injEq] at H
  obtain ⟨rfl, rfl⟩ := H
  go_enter Try.func28, Try.ntmps28
  go_wp2_with (first | ((with_reducible refine gate_callee (f := 15) rfl ?_); refine goesL_ (some 16) rfl rfl Try.func15 (by kernel_rfl) rfl #[.slice A0 l0.length c0, .int .i64 131072] rfl (by (try simp only [List.map_toArray, List.map_cons, List.map_nil]); first | done | rfl | (simp only [List.length_drop, List.length_take]; rfl)) ?_; (with_reducible refine (remoraref08_Check.calls k _ _ l0 131072 t164 _ ?side1 ?side2 A4.out).mono ?_); (case side1 => repeat (first | exact HR0.out | (with_reducible refine Kd.C_alloc ?_ _) | (with_reducible refine Kd.C_drewN ?_ _) | (with_reducible refine Kd.C_drew ?_))); (case side2 => exact HC0.out); rintro e w40 ⟨rfl, hb⟩; refine ⟨_, rfl, ?_⟩; have n0_ := Aside0.mk (below_step (by repeat (first | exact HB.out | apply b1 | apply b2 | apply b3)) hb); clear HB; have HB := n0_; clear n0_; (try clear hb); (try clear hb2); (try clear hk); (try clear hi)))
  go_ret2
  exact ⟨_, by first | rfl | (simp [*] <;> rfl), by first | exact Kd.S_nil _ _ _ _ _ | exact Kd.N_nil _ _ _ _ _ | exact Kd.V_nil _ _ _ _ _ | exact Kd.Q_nil _ _ _ _ _ | exact Kd.R_nil _ _ _ _ _, by repeat (first | exact HB.out | apply b1 | apply b2 | apply b3)⟩

end Go.Proofs.Ytifmajnhcbicnaa.PDeltaThens
