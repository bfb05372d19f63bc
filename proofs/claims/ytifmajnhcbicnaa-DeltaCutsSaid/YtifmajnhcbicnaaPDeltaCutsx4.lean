-- Written by a program of this session (the kit's printer with hand-written contracts among its functions).
import Derived.Test.YtifmajnhcbicnaaPDeltaCutsx0
import Derived.Test.YtifmajnhcbicnaaPDeltaCutsx1
import Derived.Test.YtifmajnhcbicnaaPDeltaCutsx2
import Derived.Test.YtifmajnhcbicnaaPDeltaCutsx3
namespace Go.Proofs.Ytifmajnhcbicnaa.PDeltaCuts
open Go.RowKit Go.Proofs.YtifmajnhcbicnaaW.PrintWords Go.Proofs.YtifmajnhcbicnaaW.PrintLast Go.Proofs.YtifmajnhcbicnaaW.PrintMore
attribute [local go_sem] max2_int min2_int max_two min_two max_three min_three max_four min_four   -- for this text's walks alone
set_option linter.unusedVariables false
set_option linter.unusedSimpArgs false

/-! ### remoralaw08_DeltaCuts: function 7 -/
def remoralaw08_DeltaCuts.j0 : Nat → List Int → List (S40) → Bool → Int → Int → Option (Bool)
  | 0, _, _, _, _, _ => none
  | k + 1, x0, x1, x28, x152000, x152001 => if x28 = true then ((remoralaw08_awake.f).bind fun t153 => (some t153)) else ((delta_Apply.f k x0 x1).bind fun bt154 => (if bt154.2 = 0 then (if (wrap64 ((bt154.1.length : Int) + 1)) = 0 then (none) else (if (wrap64 ((wrap64 ((bt154.1.length : Int) - (Int.tmod (wrap64 (x152000)) (wrap64 ((bt154.1.length : Int) + 1))))) + 1)) = 0 then (none) else ((delta_Part.f k x1 (Int.tmod (wrap64 (x152000)) (wrap64 ((bt154.1.length : Int) + 1))) (wrap64 ((Int.tmod (wrap64 (x152000)) (wrap64 ((bt154.1.length : Int) + 1))) + (Int.tmod (wrap64 (x152001)) (wrap64 ((wrap64 ((bt154.1.length : Int) - (Int.tmod (wrap64 (x152000)) (wrap64 ((bt154.1.length : Int) + 1))))) + 1)))))).bind fun bt159 => ((delta_Apply.f k x0 bt159.1).bind fun bt163 => ((delta_Part.f k x1 0 (Int.tmod (wrap64 (x152000)) (wrap64 ((bt154.1.length : Int) + 1)))).bind fun bt167 => ((delta_Part.f k x1 (Int.tmod (wrap64 (x152000)) (wrap64 ((bt154.1.length : Int) + 1))) (bt154.1.length : Int)).bind fun bt171 => ((some (([] : List (S40)) : List (S40))).bind fun y175 => (if y175.length + bt167.1.length < 3518437208883 then ((some (y175 ++ bt167.1 : List (S40))).bind fun y178 => (if y178.length + bt171.1.length < 3518437208883 then ((delta_Apply.f k x0 (y178 ++ bt171.1)).bind fun bt184 => (if bt159.2 = 0 then (if bt163.2 = 0 then (if 0 ≤ (Int.tmod (wrap64 (x152000)) (wrap64 ((bt154.1.length : Int) + 1))) then (if (Int.tmod (wrap64 (x152000)) (wrap64 ((bt154.1.length : Int) + 1))) ≤ (wrap64 ((Int.tmod (wrap64 (x152000)) (wrap64 ((bt154.1.length : Int) + 1))) + (Int.tmod (wrap64 (x152001)) (wrap64 ((wrap64 ((bt154.1.length : Int) - (Int.tmod (wrap64 (x152000)) (wrap64 ((bt154.1.length : Int) + 1))))) + 1))))) then (if (wrap64 ((Int.tmod (wrap64 (x152000)) (wrap64 ((bt154.1.length : Int) + 1))) + (Int.tmod (wrap64 (x152001)) (wrap64 ((wrap64 ((bt154.1.length : Int) - (Int.tmod (wrap64 (x152000)) (wrap64 ((bt154.1.length : Int) + 1))))) + 1))))) ≤ (bt154.1.length : Int) then (if (strOfNums bt163.1).toList = (strOfNums ((bt154.1.take ((wrap64 ((Int.tmod (wrap64 (x152000)) (wrap64 ((bt154.1.length : Int) + 1))) + (Int.tmod (wrap64 (x152001)) (wrap64 ((wrap64 ((bt154.1.length : Int) - (Int.tmod (wrap64 (x152000)) (wrap64 ((bt154.1.length : Int) + 1))))) + 1))))) : Int).toNat).drop ((Int.tmod (wrap64 (x152000)) (wrap64 ((bt154.1.length : Int) + 1))) : Int).toNat)).toList then (if bt167.2 = 0 then (if bt171.2 = 0 then (if bt184.2 = 0 then (if (strOfNums bt184.1).toList = (strOfNums bt154.1).toList then ((remoralaw08_awake.f).bind fun t193 => (some t193)) else (none)) else (none)) else (none)) else (none)) else (none)) else (none)) else (none)) else (none)) else (none)) else (none))) else (none))) else (none))))))))) else ((remoralaw08_awake.f).bind fun t158 => (some t158))))
def remoralaw08_DeltaCuts.f (k : Nat) (l0 : List Int) (l1 : List (S40)) (a2_0 : Int) (a2_1 : Int) : Option (Bool) := (remoraref08_Small.f k l1).bind fun t152 => (if t152 = true then (remoralaw08_DeltaCuts.j0 k l0 l1 (decide ((l0.length : Int) > 2000)) a2_0 a2_1) else (remoralaw08_DeltaCuts.j0 k l0 l1 true a2_0 a2_1))
theorem remoralaw08_DeltaCuts.mono_l : ∀ k, (∀ y0 y1 y2 y3 y4, LeO (remoralaw08_DeltaCuts.j0 k y0 y1 y2 y3 y4) (remoralaw08_DeltaCuts.j0 (k + 1) y0 y1 y2 y3 y4))
  | 0 => fun _ _ _ _ _ r h => by simp [remoralaw08_DeltaCuts.j0] at h
  | k + 1 => by
    have ih0 := remoralaw08_DeltaCuts.mono_l k
    · intro y0 y1 y2 y3 y4
      unfold remoralaw08_DeltaCuts.j0
      repeat' first
      | (with_reducible exact ih0 _ _ _ _ _)
      | (with_reducible exact delta_Apply.mono _ _ _)
      | (with_reducible exact delta_Part.mono _ _ _ _)
      | (with_reducible exact remoraref08_Small.mono _ _)
      | (with_reducible exact LeO.refl _)
      | (with_reducible exact LeO.none _)
      | (with_reducible refine LeO.ite ?_ ?_)
      | (with_reducible refine LeO.bind ?_ (fun _ => ?_))
      | exact ih0 _ _ _ _ _
      | exact delta_Apply.mono _ _ _
      | exact delta_Part.mono _ _ _ _
      | exact remoraref08_Small.mono _ _
      | exact LeO.none _
      | refine LeO.ite ?_ ?_
      | refine LeO.bind ?_ (fun _ => ?_)
theorem remoralaw08_DeltaCuts.mono : ∀ a0 a1 a2 a3 k, LeO (remoralaw08_DeltaCuts.f k a0 a1 a2 a3) (remoralaw08_DeltaCuts.f (k + 1) a0 a1 a2 a3) := by
  intro a0 a1 a2 a3 k
  have ih0 := remoralaw08_DeltaCuts.mono_l k
  unfold remoralaw08_DeltaCuts.f
  repeat' first
      | (with_reducible exact ih0 _ _ _ _ _)
      | (with_reducible exact delta_Apply.mono _ _ _)
      | (with_reducible exact delta_Part.mono _ _ _ _)
      | (with_reducible exact remoraref08_Small.mono _ _)
      | (with_reducible exact LeO.refl _)
      | (with_reducible exact LeO.none _)
      | (with_reducible refine LeO.ite ?_ ?_)
      | (with_reducible refine LeO.bind ?_ (fun _ => ?_))
      | exact ih0 _ _ _ _ _
      | exact delta_Apply.mono _ _ _
      | exact delta_Part.mono _ _ _ _
      | exact remoraref08_Small.mono _ _
      | exact LeO.none _
      | refine LeO.ite ?_ ?_
      | refine LeO.bind ?_ (fun _ => ?_)
def remoralaw08_DeltaCuts.T13 : Bool × List (List Nat × List Nat) := (true, [([], []), ([0], [0]), ([1], [1]), ([2], [2]), ([3, 2], [2, 3]), ([2, 4], [2, 4]), ([5, 2], [5]), ([6], [6]), ([7, 6], [6, 7]), ([6], [6]), ([6], [6]), ([6], [6]), ([9, 10, 11, 6], [6, 9, 10, 11]), ([12, 6], [6, 12]), ([8, 13, 6], [6, 8, 13]), ([6, 14], [6, 14]), ([15, 6], [15]), ([16], [16]), ([17, 16], [16, 17]), ([16, 18], [16, 18]), ([19, 16], [19]), ([20], [20]), ([21, 20], [20, 21]), ([20, 22], [20, 22]), ([23, 20], [23]), ([24], [24]), ([25, 24], [24, 25]), ([24, 26], [24, 26]), ([27, 24], [27]), ([28], [28]), ([29, 28], [28, 29]), ([28], [28]), ([31, 28], [28, 31]), ([30, 32, 28], [28, 30, 32]), ([28, 33], [28, 33]), ([34, 28], [34]), ([35, 35], [35]), ([35, 36], [35, 36]), ([37, 36, 0, 1, 2, 3, 4, 5, 6, 7, 8, 9, 10, 11, 12, 13, 14, 15, 16, 17, 18, 19, 20, 21, 22, 23, 24, 25, 26, 27, 28, 29, 30, 31, 32, 33, 34, 35, 36, 37], [37])])
def remoralaw08_DeltaCuts.B13 : List Nat := [0, 1, 3, 7, 15, 31, 63, 127, 255, 127, 127, 127, 3711, 7807, 16383, 32767, 65535, 131071, 262143, 524287, 1048575, 2097151, 4194303, 8388607, 16777215, 33554431, 67108863, 134217727, 268435455, 536870911, 1073741823, 536870911, 2684354559, 8589934591, 17179869183, 34359738367, 68719476735, 137438953471, 274877906943]
theorem remoralaw08_DeltaCuts.tab13 : rtab .any (opsOf Try.f7 13) = remoralaw08_DeltaCuts.T13 := by kernel_rfl
theorem remoralaw08_DeltaCuts.bits13 : waitsOk remoralaw08_DeltaCuts.T13.2 remoralaw08_DeltaCuts.B13 = true := by kernel_rfl
set_option maxHeartbeats 8000000 in
set_option maxRecDepth 100000 in
theorem remoralaw08_DeltaCuts.calls (k : Nat) (A0 : Option Addr) (c0 : Nat) (l0 : List Int) (A1 : Option Addr) (c1 : Nat) (l1 : List (S40)) (a2_0 : Int) (a2_1 : Int) (r : Bool) (w : World) (hr0 : Kd.C (Kd.int .u8) w A0 l0.length l0) (hc0 : l0.length ≤ c0) (hr1 : Kd.C k40 w A1 l1.length l1) (hc1 : l1.length ≤ c1) (h : remoralaw08_DeltaCuts.f k l0 l1 a2_0 a2_1 = some r) :
    Calls Try.prog 7 #[.slice A0 l0.length c0, .slice A1 l1.length c1, .agg #[.int .u16 a2_0, .int .u16 a2_1]] w fun e w' => e = .returned (.bool r) ∧ Below w.heap.size w w' := by
  have hu46 := Try.underlying46
  have HR0 := Aside0.mk hr0
  have HC0 := Aside0.mk hc0
  clear hr0 hc0
  have HR1 := Aside0.mk hr1
  have HC1 := Aside0.mk hc1
  clear hr1 hc1
  have HB := Aside0.mk (Below.refl w.heap.size w)
  have H : ((remoraref08_Small.f k l1).bind fun t152 => (if t152 = true then (remoralaw08_DeltaCuts.j0 k l0 l1 (decide ((l0.length : Int) > 2000)) a2_0 a2_1) else (remoralaw08_DeltaCuts.j0 k l0 l1 true a2_0 a2_1))) = some r := h
  clear h
  have HC4 := Aside0.mk H
  clear H
  go_enter Try.func7, Try.ntmps7
  go_upto_region 1 with (first | ((with_reducible refine gate_dst (N := 5) rfl ?_); (try (refine gate_guard (by rfl) ?_; dsimp only)); refine box_event ?hg (N := 5) ?hd (cs := #[.int .u16 a2_0, .int .u16 a2_1]) (t := 46) ?hr ?_; (case hd => rfl); (case hg => rfl); (case hr => first | (go_simp; done) | (go_simp; rfl)); intro gb151 hg w5 hbox hb; have n0_ := Aside0.mk (below_step (by repeat (first | (with_reducible first | exact HB.out | apply below_alloc | apply pw_below_drewN | apply below_drew1) | exact HB.out)) hb); have n1_ := Aside0.mk (hbox); have n2_ := Aside0.mk ((by rw [hg]; exact (below_size (by repeat (first | (with_reducible first | exact HB.out | apply below_alloc | apply pw_below_drewN | apply below_drew1) | exact HB.out))) : w.heap.size ≤ gb151)); have n3_ := Aside0.mk ((by rw [hg]; exact (below_size (by repeat (first | (with_reducible first | exact HB.out | apply below_alloc | apply pw_below_drewN | apply below_drew1) | exact HB.out))) : w.heap.size ≤ gb151)); clear HB; have HB := n0_; have BK151 := n1_; have GW151 := n2_; have GE151 := n3_; clear n0_ n1_ n2_ n3_; clear hb hbox hg))
  (try simp only [Act.put, List.setIfInBounds_toArray, List.set_cons_zero, List.set_cons_succ])
  go_cut [28] (fun v28 wc => ∃ (kq : Nat) (x28_3 : Bool), v28 = .bool x28_3 ∧ Aside0 (remoralaw08_DeltaCuts.j0 kq l0 l1 x28_3 a2_0 a2_1 = some r) ∧ Aside0 (kq ≤ k) ∧ Aside0 (wc.heap[gb151]? = some (.cells #[.int .u16 a2_0, .int .u16 a2_1] 46 (0, 0))) ∧ Aside0 (Below w.heap.size w wc))
  case first =>
    have H := HC4.out
    clear HC4
    replace H := Option.bind_eq_some_iff.mp H
    obtain ⟨t152, A60, H⟩ := H
    replace H : (if t152 = true then (remoralaw08_DeltaCuts.j0 k l0 l1 (decide ((l0.length : Int) > 2000)) a2_0 a2_1) else (remoralaw08_DeltaCuts.j0 k l0 l1 true a2_0 a2_1)) = some r := H
    have A6 := Aside0.mk A60
    clear A60
    by_cases c7 : t152 = true
    · subst c7
      have H1 : (remoralaw08_DeltaCuts.j0 k l0 l1 (decide ((l0.length : Int) > 2000)) a2_0 a2_1) = some r := by rw [if_pos rfl] at H; exact H
      clear H
      have H := H1
      clear H1
      have H' := Aside0.mk H
      clear H
      go_wp2_with (first | ((with_reducible refine gate_callee (f := 10) rfl ?_); refine goesL_ (some 22) rfl rfl Try.func10 (by kernel_rfl) rfl #[.slice A1 l1.length c1] rfl (by (try simp only [List.map_toArray, List.map_cons, List.map_nil]); first | done | rfl | (simp only [List.length_drop, List.length_take]; rfl)) ?_; (with_reducible refine (remoraref08_Small.calls k _ _ l1 true _ ?side1 ?side2 A6.out).mono ?_); (case side1 => repeat (first | exact (Kd.C_below HR1.out HB.out) | (with_reducible refine Kd.C_alloc ?_ _) | (with_reducible refine Kd.C_drewN ?_ _) | (with_reducible refine Kd.C_drew ?_))); (case side2 => exact HC1.out); rintro e w' ⟨rfl, ⟨nd, rfl⟩⟩; refine ⟨_, rfl, ?_⟩))
      go_meet
      case rel => exact ⟨_, (decide ((l0.length : Int) > 2000)), (by first | rfl | (simp; done) | (simp [*]; done)), H', ⟨by first | omega | exact Nat.le_refl _⟩, ⟨by (with_reducible repeat (first | refine blk_drewN ?_ _ | refine blk_drew ?_ | refine blk_alloc ?_ _)); exact BK151.out⟩, ⟨by repeat (first | (with_reducible first | exact HB.out | apply below_alloc | apply pw_below_drewN | apply below_drew1 | refine below_set ?_ GE151.out) | exact HB.out)⟩⟩
    · replace c7 := Bool.eq_false_iff.mpr c7
      subst c7
      have H1 : (remoralaw08_DeltaCuts.j0 k l0 l1 true a2_0 a2_1) = some r := by rw [if_neg (show ¬ (false = true) by decide)] at H; exact H
      clear H
      have H := H1
      clear H1
      have H' := Aside0.mk H
      clear H
      go_wp2_with (first | ((with_reducible refine gate_callee (f := 10) rfl ?_); refine goesL_ (some 22) rfl rfl Try.func10 (by kernel_rfl) rfl #[.slice A1 l1.length c1] rfl (by (try simp only [List.map_toArray, List.map_cons, List.map_nil]); first | done | rfl | (simp only [List.length_drop, List.length_take]; rfl)) ?_; (with_reducible refine (remoraref08_Small.calls k _ _ l1 false _ ?side1 ?side2 A6.out).mono ?_); (case side1 => repeat (first | exact (Kd.C_below HR1.out HB.out) | (with_reducible refine Kd.C_alloc ?_ _) | (with_reducible refine Kd.C_drewN ?_ _) | (with_reducible refine Kd.C_drew ?_))); (case side2 => exact HC1.out); rintro e w' ⟨rfl, ⟨nd, rfl⟩⟩; refine ⟨_, rfl, ?_⟩))
      go_meet
      case rel => exact ⟨_, (true), (by first | rfl | (simp; done) | (simp [*]; done)), H', ⟨by first | omega | exact Nat.le_refl _⟩, ⟨by (with_reducible repeat (first | refine blk_drewN ?_ _ | refine blk_drew ?_ | refine blk_alloc ?_ _)); exact BK151.out⟩, ⟨by repeat (first | (with_reducible first | exact HB.out | apply below_alloc | apply pw_below_drewN | apply below_drew1 | refine below_set ?_ GE151.out) | exact HB.out)⟩⟩
  case rest =>
    clear HC4
    try clear c1
    try clear p2
    try clear c7
    obtain ⟨kq, x28_3, rfl, HA, HJ3, BK151, HB⟩ := hcut
    cases kq with
    | zero => exact absurd HA.out (by simp [remoralaw08_DeltaCuts.j0])
    | succ kj3 =>
      have H := HA.out
      clear HA
      simp only [remoralaw08_DeltaCuts.j0] at H
      by_cases c8 : x28_3 = true
      · subst c8
        have H1 : ((remoralaw08_awake.f).bind fun t153 => (some t153)) = some r := by rw [if_pos rfl] at H; exact H
        clear H
        have H := H1
        clear H1
        replace H := Option.bind_eq_some_iff.mp H
        obtain ⟨t153, A90, H⟩ := H
        replace H : (some t153) = some r := H
        have A9 := Aside0.mk A90
        clear A90
        obtain rfl := Option.some.inj H
        go_wp2_with (first | ((with_reducible refine gate_callee (f := 11) rfl ?_); refine goesL_ (some 29) rfl rfl Try.func11 (by kernel_rfl) rfl #[] rfl (by (try simp only [List.map_toArray, List.map_cons, List.map_nil]); first | done | rfl | (simp only [List.length_drop, List.length_take]; rfl)) ?_; (with_reducible refine (remoralaw08_awake.calls  t153 _ A9.out).mono ?_); rintro e w10 ⟨rfl, hb⟩; refine ⟨_, rfl, ?_⟩; have n0_ := Aside0.mk (blk_below (g := gb151) (o := .cells #[.int .u16 a2_0, .int .u16 a2_1] 46 (0, 0)) (by (with_reducible repeat (first | refine blk_drewN ?_ _ | refine blk_drew ?_ | refine blk_alloc ?_ _)); exact BK151.out) hb); have n1_ := Aside0.mk (below_step (by repeat (first | (with_reducible first | exact HB.out | apply below_alloc | apply pw_below_drewN | apply below_drew1 | refine below_set ?_ GE151.out) | exact HB.out)) hb); clear BK151; clear HB; have BK151 := n0_; have HB := n1_; clear n0_ n1_; (try clear hb); (try clear hb2); (try clear hk); (try clear hi)))
        go_ret
        exact ⟨by first | rfl | (simp [errW_none, errW_some] <;> rfl) | (simp [*, errW_none, errW_some] <;> rfl), by repeat (first | (with_reducible first | exact HB.out | apply below_alloc | apply pw_below_drewN | apply below_drew1 | refine below_set ?_ GE151.out) | exact HB.out)⟩
      · replace c8 := Bool.eq_false_iff.mpr c8
        subst c8
        have H1 : ((delta_Apply.f kj3 l0 l1).bind fun bt154 => (if bt154.2 = 0 then (if (wrap64 ((bt154.1.length : Int) + 1)) = 0 then (none) else (if (wrap64 ((wrap64 ((bt154.1.length : Int) - (Int.tmod (wrap64 (a2_0)) (wrap64 ((bt154.1.length : Int) + 1))))) + 1)) = 0 then (none) else ((delta_Part.f kj3 l1 (Int.tmod (wrap64 (a2_0)) (wrap64 ((bt154.1.length : Int) + 1))) (wrap64 ((Int.tmod (wrap64 (a2_0)) (wrap64 ((bt154.1.length : Int) + 1))) + (Int.tmod (wrap64 (a2_1)) (wrap64 ((wrap64 ((bt154.1.length : Int) - (Int.tmod (wrap64 (a2_0)) (wrap64 ((bt154.1.length : Int) + 1))))) + 1)))))).bind fun bt159 => ((delta_Apply.f kj3 l0 bt159.1).bind fun bt163 => ((delta_Part.f kj3 l1 0 (Int.tmod (wrap64 (a2_0)) (wrap64 ((bt154.1.length : Int) + 1)))).bind fun bt167 => ((delta_Part.f kj3 l1 (Int.tmod (wrap64 (a2_0)) (wrap64 ((bt154.1.length : Int) + 1))) (bt154.1.length : Int)).bind fun bt171 => ((some (([] : List (S40)) : List (S40))).bind fun y175 => (if y175.length + bt167.1.length < 3518437208883 then ((some (y175 ++ bt167.1 : List (S40))).bind fun y178 => (if y178.length + bt171.1.length < 3518437208883 then ((delta_Apply.f kj3 l0 (y178 ++ bt171.1)).bind fun bt184 => (if bt159.2 = 0 then (if bt163.2 = 0 then (if 0 ≤ (Int.tmod (wrap64 (a2_0)) (wrap64 ((bt154.1.length : Int) + 1))) then (if (Int.tmod (wrap64 (a2_0)) (wrap64 ((bt154.1.length : Int) + 1))) ≤ (wrap64 ((Int.tmod (wrap64 (a2_0)) (wrap64 ((bt154.1.length : Int) + 1))) + (Int.tmod (wrap64 (a2_1)) (wrap64 ((wrap64 ((bt154.1.length : Int) - (Int.tmod (wrap64 (a2_0)) (wrap64 ((bt154.1.length : Int) + 1))))) + 1))))) then (if (wrap64 ((Int.tmod (wrap64 (a2_0)) (wrap64 ((bt154.1.length : Int) + 1))) + (Int.tmod (wrap64 (a2_1)) (wrap64 ((wrap64 ((bt154.1.length : Int) - (Int.tmod (wrap64 (a2_0)) (wrap64 ((bt154.1.length : Int) + 1))))) + 1))))) ≤ (bt154.1.length : Int) then (if (strOfNums bt163.1).toList = (strOfNums ((bt154.1.take ((wrap64 ((Int.tmod (wrap64 (a2_0)) (wrap64 ((bt154.1.length : Int) + 1))) + (Int.tmod (wrap64 (a2_1)) (wrap64 ((wrap64 ((bt154.1.length : Int) - (Int.tmod (wrap64 (a2_0)) (wrap64 ((bt154.1.length : Int) + 1))))) + 1))))) : Int).toNat).drop ((Int.tmod (wrap64 (a2_0)) (wrap64 ((bt154.1.length : Int) + 1))) : Int).toNat)).toList then (if bt167.2 = 0 then (if bt171.2 = 0 then (if bt184.2 = 0 then (if (strOfNums bt184.1).toList = (strOfNums bt154.1).toList then ((remoralaw08_awake.f).bind fun t193 => (some t193)) else (none)) else (none)) else (none)) else (none)) else (none)) else (none)) else (none)) else (none)) else (none)) else (none))) else (none))) else (none))))))))) else ((remoralaw08_awake.f).bind fun t158 => (some t158)))) = some r := by rw [if_neg (show ¬ (false = true) by decide)] at H; exact H
        clear H
        have H := H1
        clear H1
        replace H := Option.bind_eq_some_iff.mp H
        obtain ⟨⟨t154, t155⟩, A110, H⟩ := H
        replace H : (if t155 = 0 then (if (wrap64 ((t154.length : Int) + 1)) = 0 then (none) else (if (wrap64 ((wrap64 ((t154.length : Int) - (Int.tmod (wrap64 (a2_0)) (wrap64 ((t154.length : Int) + 1))))) + 1)) = 0 then (none) else ((delta_Part.f kj3 l1 (Int.tmod (wrap64 (a2_0)) (wrap64 ((t154.length : Int) + 1))) (wrap64 ((Int.tmod (wrap64 (a2_0)) (wrap64 ((t154.length : Int) + 1))) + (Int.tmod (wrap64 (a2_1)) (wrap64 ((wrap64 ((t154.length : Int) - (Int.tmod (wrap64 (a2_0)) (wrap64 ((t154.length : Int) + 1))))) + 1)))))).bind fun bt159 => ((delta_Apply.f kj3 l0 bt159.1).bind fun bt163 => ((delta_Part.f kj3 l1 0 (Int.tmod (wrap64 (a2_0)) (wrap64 ((t154.length : Int) + 1)))).bind fun bt167 => ((delta_Part.f kj3 l1 (Int.tmod (wrap64 (a2_0)) (wrap64 ((t154.length : Int) + 1))) (t154.length : Int)).bind fun bt171 => ((some (([] : List (S40)) : List (S40))).bind fun y175 => (if y175.length + bt167.1.length < 3518437208883 then ((some (y175 ++ bt167.1 : List (S40))).bind fun y178 => (if y178.length + bt171.1.length < 3518437208883 then ((delta_Apply.f kj3 l0 (y178 ++ bt171.1)).bind fun bt184 => (if bt159.2 = 0 then (if bt163.2 = 0 then (if 0 ≤ (Int.tmod (wrap64 (a2_0)) (wrap64 ((t154.length : Int) + 1))) then (if (Int.tmod (wrap64 (a2_0)) (wrap64 ((t154.length : Int) + 1))) ≤ (wrap64 ((Int.tmod (wrap64 (a2_0)) (wrap64 ((t154.length : Int) + 1))) + (Int.tmod (wrap64 (a2_1)) (wrap64 ((wrap64 ((t154.length : Int) - (Int.tmod (wrap64 (a2_0)) (wrap64 ((t154.length : Int) + 1))))) + 1))))) then (if (wrap64 ((Int.tmod (wrap64 (a2_0)) (wrap64 ((t154.length : Int) + 1))) + (Int.tmod (wrap64 (a2_1)) (wrap64 ((wrap64 ((t154.length : Int) - (Int.tmod (wrap64 (a2_0)) (wrap64 ((t154.length : Int) + 1))))) + 1))))) ≤ (t154.length : Int) then (if (strOfNums bt163.1).toList = (strOfNums ((t154.take ((wrap64 ((Int.tmod (wrap64 (a2_0)) (wrap64 ((t154.length : Int) + 1))) + (Int.tmod (wrap64 (a2_1)) (wrap64 ((wrap64 ((t154.length : Int) - (Int.tmod (wrap64 (a2_0)) (wrap64 ((t154.length : Int) + 1))))) + 1))))) : Int).toNat).drop ((Int.tmod (wrap64 (a2_0)) (wrap64 ((t154.length : Int) + 1))) : Int).toNat)).toList then (if bt167.2 = 0 then (if bt171.2 = 0 then (if bt184.2 = 0 then (if (strOfNums bt184.1).toList = (strOfNums t154).toList then ((remoralaw08_awake.f).bind fun t193 => (some t193)) else (none)) else (none)) else (none)) else (none)) else (none)) else (none)) else (none)) else (none)) else (none)) else (none))) else (none))) else (none))))))))) else ((remoralaw08_awake.f).bind fun t158 => (some t158))) = some r := H
        have A11 := Aside0.mk A110
        clear A110
        by_cases c12 : t155 = 0
        · rw [if_pos c12] at H
          have c12b0 : (t155 == 0) = true := beq_iff_eq.mpr c12
          have c12b1 : (t155 != 0) = false := bne_eq_false_iff_eq.mpr c12
          clear c12
          by_cases c13 : (wrap64 ((t154.length : Int) + 1)) = 0
          · rw [if_pos c13] at H
            exact absurd H (by simp)
          · rw [if_neg c13] at H
            have c13b0 : ((wrap64 ((t154.length : Int) + 1)) == 0) = false := beq_eq_false_iff_ne.mpr c13
            have c13b1 : ((wrap64 ((t154.length : Int) + 1)) != 0) = true := bne_iff_ne.mpr c13
            by_cases c14 : (wrap64 ((wrap64 ((t154.length : Int) - (Int.tmod (wrap64 (a2_0)) (wrap64 ((t154.length : Int) + 1))))) + 1)) = 0
            · rw [if_pos c14] at H
              exact absurd H (by simp)
            · rw [if_neg c14] at H
              have c14b0 : ((wrap64 ((wrap64 ((t154.length : Int) - (Int.tmod (wrap64 (a2_0)) (wrap64 ((t154.length : Int) + 1))))) + 1)) == 0) = false := beq_eq_false_iff_ne.mpr c14
              have c14b1 : ((wrap64 ((wrap64 ((t154.length : Int) - (Int.tmod (wrap64 (a2_0)) (wrap64 ((t154.length : Int) + 1))))) + 1)) != 0) = true := bne_iff_ne.mpr c14
              replace H := Option.bind_eq_some_iff.mp H
              obtain ⟨⟨t159, t160⟩, A150, H⟩ := H
              replace H : ((delta_Apply.f kj3 l0 t159).bind fun bt163 => ((delta_Part.f kj3 l1 0 (Int.tmod (wrap64 (a2_0)) (wrap64 ((t154.length : Int) + 1)))).bind fun bt167 => ((delta_Part.f kj3 l1 (Int.tmod (wrap64 (a2_0)) (wrap64 ((t154.length : Int) + 1))) (t154.length : Int)).bind fun bt171 => ((some (([] : List (S40)) : List (S40))).bind fun y175 => (if y175.length + bt167.1.length < 3518437208883 then ((some (y175 ++ bt167.1 : List (S40))).bind fun y178 => (if y178.length + bt171.1.length < 3518437208883 then ((delta_Apply.f kj3 l0 (y178 ++ bt171.1)).bind fun bt184 => (if t160 = 0 then (if bt163.2 = 0 then (if 0 ≤ (Int.tmod (wrap64 (a2_0)) (wrap64 ((t154.length : Int) + 1))) then (if (Int.tmod (wrap64 (a2_0)) (wrap64 ((t154.length : Int) + 1))) ≤ (wrap64 ((Int.tmod (wrap64 (a2_0)) (wrap64 ((t154.length : Int) + 1))) + (Int.tmod (wrap64 (a2_1)) (wrap64 ((wrap64 ((t154.length : Int) - (Int.tmod (wrap64 (a2_0)) (wrap64 ((t154.length : Int) + 1))))) + 1))))) then (if (wrap64 ((Int.tmod (wrap64 (a2_0)) (wrap64 ((t154.length : Int) + 1))) + (Int.tmod (wrap64 (a2_1)) (wrap64 ((wrap64 ((t154.length : Int) - (Int.tmod (wrap64 (a2_0)) (wrap64 ((t154.length : Int) + 1))))) + 1))))) ≤ (t154.length : Int) then (if (strOfNums bt163.1).toList = (strOfNums ((t154.take ((wrap64 ((Int.tmod (wrap64 (a2_0)) (wrap64 ((t154.length : Int) + 1))) + (Int.tmod (wrap64 (a2_1)) (wrap64 ((wrap64 ((t154.length : Int) - (Int.tmod (wrap64 (a2_0)) (wrap64 ((t154.length : Int) + 1))))) + 1))))) : Int).toNat).drop ((Int.tmod (wrap64 (a2_0)) (wrap64 ((t154.length : Int) + 1))) : Int).toNat)).toList then (if bt167.2 = 0 then (if bt171.2 = 0 then (if bt184.2 = 0 then (if (strOfNums bt184.1).toList = (strOfNums t154).toList then ((remoralaw08_awake.f).bind fun t193 => (some t193)) else (none)) else (none)) else (none)) else (none)) else (none)) else (none)) else (none)) else (none)) else (none)) else (none))) else (none))) else (none)))))) = some r := H
              have A15 := Aside0.mk A150
              clear A150
              replace H := Option.bind_eq_some_iff.mp H
              obtain ⟨⟨t163, t164⟩, A160, H⟩ := H
              replace H : ((delta_Part.f kj3 l1 0 (Int.tmod (wrap64 (a2_0)) (wrap64 ((t154.length : Int) + 1)))).bind fun bt167 => ((delta_Part.f kj3 l1 (Int.tmod (wrap64 (a2_0)) (wrap64 ((t154.length : Int) + 1))) (t154.length : Int)).bind fun bt171 => ((some (([] : List (S40)) : List (S40))).bind fun y175 => (if y175.length + bt167.1.length < 3518437208883 then ((some (y175 ++ bt167.1 : List (S40))).bind fun y178 => (if y178.length + bt171.1.length < 3518437208883 then ((delta_Apply.f kj3 l0 (y178 ++ bt171.1)).bind fun bt184 => (if t160 = 0 then (if t164 = 0 then (if 0 ≤ (Int.tmod (wrap64 (a2_0)) (wrap64 ((t154.length : Int) + 1))) then (if (Int.tmod (wrap64 (a2_0)) (wrap64 ((t154.length : Int) + 1))) ≤ (wrap64 ((Int.tmod (wrap64 (a2_0)) (wrap64 ((t154.length : Int) + 1))) + (Int.tmod (wrap64 (a2_1)) (wrap64 ((wrap64 ((t154.length : Int) - (Int.tmod (wrap64 (a2_0)) (wrap64 ((t154.length : Int) + 1))))) + 1))))) then (if (wrap64 ((Int.tmod (wrap64 (a2_0)) (wrap64 ((t154.length : Int) + 1))) + (Int.tmod (wrap64 (a2_1)) (wrap64 ((wrap64 ((t154.length : Int) - (Int.tmod (wrap64 (a2_0)) (wrap64 ((t154.length : Int) + 1))))) + 1))))) ≤ (t154.length : Int) then (if (strOfNums t163).toList = (strOfNums ((t154.take ((wrap64 ((Int.tmod (wrap64 (a2_0)) (wrap64 ((t154.length : Int) + 1))) + (Int.tmod (wrap64 (a2_1)) (wrap64 ((wrap64 ((t154.length : Int) - (Int.tmod (wrap64 (a2_0)) (wrap64 ((t154.length : Int) + 1))))) + 1))))) : Int).toNat).drop ((Int.tmod (wrap64 (a2_0)) (wrap64 ((t154.length : Int) + 1))) : Int).toNat)).toList then (if bt167.2 = 0 then (if bt171.2 = 0 then (if bt184.2 = 0 then (if (strOfNums bt184.1).toList = (strOfNums t154).toList then ((remoralaw08_awake.f).bind fun t193 => (some t193)) else (none)) else (none)) else (none)) else (none)) else (none)) else (none)) else (none)) else (none)) else (none)) else (none))) else (none))) else (none))))) = some r := H
              have A16 := Aside0.mk A160
              clear A160
              replace H := Option.bind_eq_some_iff.mp H
              obtain ⟨⟨t167, t168⟩, A170, H⟩ := H
              replace H : ((delta_Part.f kj3 l1 (Int.tmod (wrap64 (a2_0)) (wrap64 ((t154.length : Int) + 1))) (t154.length : Int)).bind fun bt171 => ((some (([] : List (S40)) : List (S40))).bind fun y175 => (if y175.length + t167.length < 3518437208883 then ((some (y175 ++ t167 : List (S40))).bind fun y178 => (if y178.length + bt171.1.length < 3518437208883 then ((delta_Apply.f kj3 l0 (y178 ++ bt171.1)).bind fun bt184 => (if t160 = 0 then (if t164 = 0 then (if 0 ≤ (Int.tmod (wrap64 (a2_0)) (wrap64 ((t154.length : Int) + 1))) then (if (Int.tmod (wrap64 (a2_0)) (wrap64 ((t154.length : Int) + 1))) ≤ (wrap64 ((Int.tmod (wrap64 (a2_0)) (wrap64 ((t154.length : Int) + 1))) + (Int.tmod (wrap64 (a2_1)) (wrap64 ((wrap64 ((t154.length : Int) - (Int.tmod (wrap64 (a2_0)) (wrap64 ((t154.length : Int) + 1))))) + 1))))) then (if (wrap64 ((Int.tmod (wrap64 (a2_0)) (wrap64 ((t154.length : Int) + 1))) + (Int.tmod (wrap64 (a2_1)) (wrap64 ((wrap64 ((t154.length : Int) - (Int.tmod (wrap64 (a2_0)) (wrap64 ((t154.length : Int) + 1))))) + 1))))) ≤ (t154.length : Int) then (if (strOfNums t163).toList = (strOfNums ((t154.take ((wrap64 ((Int.tmod (wrap64 (a2_0)) (wrap64 ((t154.length : Int) + 1))) + (Int.tmod (wrap64 (a2_1)) (wrap64 ((wrap64 ((t154.length : Int) - (Int.tmod (wrap64 (a2_0)) (wrap64 ((t154.length : Int) + 1))))) + 1))))) : Int).toNat).drop ((Int.tmod (wrap64 (a2_0)) (wrap64 ((t154.length : Int) + 1))) : Int).toNat)).toList then (if t168 = 0 then (if bt171.2 = 0 then (if bt184.2 = 0 then (if (strOfNums bt184.1).toList = (strOfNums t154).toList then ((remoralaw08_awake.f).bind fun t193 => (some t193)) else (none)) else (none)) else (none)) else (none)) else (none)) else (none)) else (none)) else (none)) else (none)) else (none))) else (none))) else (none)))) = some r := H
              have A17 := Aside0.mk A170
              clear A170
              replace H := Option.bind_eq_some_iff.mp H
              obtain ⟨⟨t171, t172⟩, A180, H⟩ := H
              replace H : ((some (([] : List (S40)) : List (S40))).bind fun y175 => (if y175.length + t167.length < 3518437208883 then ((some (y175 ++ t167 : List (S40))).bind fun y178 => (if y178.length + t171.length < 3518437208883 then ((delta_Apply.f kj3 l0 (y178 ++ t171)).bind fun bt184 => (if t160 = 0 then (if t164 = 0 then (if 0 ≤ (Int.tmod (wrap64 (a2_0)) (wrap64 ((t154.length : Int) + 1))) then (if (Int.tmod (wrap64 (a2_0)) (wrap64 ((t154.length : Int) + 1))) ≤ (wrap64 ((Int.tmod (wrap64 (a2_0)) (wrap64 ((t154.length : Int) + 1))) + (Int.tmod (wrap64 (a2_1)) (wrap64 ((wrap64 ((t154.length : Int) - (Int.tmod (wrap64 (a2_0)) (wrap64 ((t154.length : Int) + 1))))) + 1))))) then (if (wrap64 ((Int.tmod (wrap64 (a2_0)) (wrap64 ((t154.length : Int) + 1))) + (Int.tmod (wrap64 (a2_1)) (wrap64 ((wrap64 ((t154.length : Int) - (Int.tmod (wrap64 (a2_0)) (wrap64 ((t154.length : Int) + 1))))) + 1))))) ≤ (t154.length : Int) then (if (strOfNums t163).toList = (strOfNums ((t154.take ((wrap64 ((Int.tmod (wrap64 (a2_0)) (wrap64 ((t154.length : Int) + 1))) + (Int.tmod (wrap64 (a2_1)) (wrap64 ((wrap64 ((t154.length : Int) - (Int.tmod (wrap64 (a2_0)) (wrap64 ((t154.length : Int) + 1))))) + 1))))) : Int).toNat).drop ((Int.tmod (wrap64 (a2_0)) (wrap64 ((t154.length : Int) + 1))) : Int).toNat)).toList then (if t168 = 0 then (if t172 = 0 then (if bt184.2 = 0 then (if (strOfNums bt184.1).toList = (strOfNums t154).toList then ((remoralaw08_awake.f).bind fun t193 => (some t193)) else (none)) else (none)) else (none)) else (none)) else (none)) else (none)) else (none)) else (none)) else (none)) else (none))) else (none))) else (none))) = some r := H
              have A18 := Aside0.mk A180
              clear A180
              obtain ⟨y175, hy175⟩ : ∃ y_ : List (S40), y_ = (([] : List (S40))) := ⟨_, rfl⟩
              replace H : (if y175.length + t167.length < 3518437208883 then ((some (y175 ++ t167 : List (S40))).bind fun y178 => (if y178.length + t171.length < 3518437208883 then ((delta_Apply.f kj3 l0 (y178 ++ t171)).bind fun bt184 => (if t160 = 0 then (if t164 = 0 then (if 0 ≤ (Int.tmod (wrap64 (a2_0)) (wrap64 ((t154.length : Int) + 1))) then (if (Int.tmod (wrap64 (a2_0)) (wrap64 ((t154.length : Int) + 1))) ≤ (wrap64 ((Int.tmod (wrap64 (a2_0)) (wrap64 ((t154.length : Int) + 1))) + (Int.tmod (wrap64 (a2_1)) (wrap64 ((wrap64 ((t154.length : Int) - (Int.tmod (wrap64 (a2_0)) (wrap64 ((t154.length : Int) + 1))))) + 1))))) then (if (wrap64 ((Int.tmod (wrap64 (a2_0)) (wrap64 ((t154.length : Int) + 1))) + (Int.tmod (wrap64 (a2_1)) (wrap64 ((wrap64 ((t154.length : Int) - (Int.tmod (wrap64 (a2_0)) (wrap64 ((t154.length : Int) + 1))))) + 1))))) ≤ (t154.length : Int) then (if (strOfNums t163).toList = (strOfNums ((t154.take ((wrap64 ((Int.tmod (wrap64 (a2_0)) (wrap64 ((t154.length : Int) + 1))) + (Int.tmod (wrap64 (a2_1)) (wrap64 ((wrap64 ((t154.length : Int) - (Int.tmod (wrap64 (a2_0)) (wrap64 ((t154.length : Int) + 1))))) + 1))))) : Int).toNat).drop ((Int.tmod (wrap64 (a2_0)) (wrap64 ((t154.length : Int) + 1))) : Int).toNat)).toList then (if t168 = 0 then (if t172 = 0 then (if bt184.2 = 0 then (if (strOfNums bt184.1).toList = (strOfNums t154).toList then ((remoralaw08_awake.f).bind fun t193 => (some t193)) else (none)) else (none)) else (none)) else (none)) else (none)) else (none)) else (none)) else (none)) else (none)) else (none))) else (none))) else (none)) = some r := by first | (rw [hy175]; with_reducible exact H) | (have H2_ := (Option.bind_some _ _).symm.trans H; rw [hy175]; with_reducible exact H2_) | (have H2_ := (Option.bind_some _ _).symm.trans H; with_reducible exact H2_) | with_reducible exact H | (rw [hy175]; exact H) | exact H
              have Ny175 := Aside0.mk hy175
              clear hy175
              by_cases c19 : y175.length + t167.length < 3518437208883
              · rw [if_pos c19] at H
                have LMc19 := Aside0.mk c19
                clear c19
                obtain ⟨y178, hy178⟩ : ∃ y_ : List (S40), y_ = (y175 ++ t167) := ⟨_, rfl⟩
                replace H : (if y178.length + t171.length < 3518437208883 then ((delta_Apply.f kj3 l0 (y178 ++ t171)).bind fun bt184 => (if t160 = 0 then (if t164 = 0 then (if 0 ≤ (Int.tmod (wrap64 (a2_0)) (wrap64 ((t154.length : Int) + 1))) then (if (Int.tmod (wrap64 (a2_0)) (wrap64 ((t154.length : Int) + 1))) ≤ (wrap64 ((Int.tmod (wrap64 (a2_0)) (wrap64 ((t154.length : Int) + 1))) + (Int.tmod (wrap64 (a2_1)) (wrap64 ((wrap64 ((t154.length : Int) - (Int.tmod (wrap64 (a2_0)) (wrap64 ((t154.length : Int) + 1))))) + 1))))) then (if (wrap64 ((Int.tmod (wrap64 (a2_0)) (wrap64 ((t154.length : Int) + 1))) + (Int.tmod (wrap64 (a2_1)) (wrap64 ((wrap64 ((t154.length : Int) - (Int.tmod (wrap64 (a2_0)) (wrap64 ((t154.length : Int) + 1))))) + 1))))) ≤ (t154.length : Int) then (if (strOfNums t163).toList = (strOfNums ((t154.take ((wrap64 ((Int.tmod (wrap64 (a2_0)) (wrap64 ((t154.length : Int) + 1))) + (Int.tmod (wrap64 (a2_1)) (wrap64 ((wrap64 ((t154.length : Int) - (Int.tmod (wrap64 (a2_0)) (wrap64 ((t154.length : Int) + 1))))) + 1))))) : Int).toNat).drop ((Int.tmod (wrap64 (a2_0)) (wrap64 ((t154.length : Int) + 1))) : Int).toNat)).toList then (if t168 = 0 then (if t172 = 0 then (if bt184.2 = 0 then (if (strOfNums bt184.1).toList = (strOfNums t154).toList then ((remoralaw08_awake.f).bind fun t193 => (some t193)) else (none)) else (none)) else (none)) else (none)) else (none)) else (none)) else (none)) else (none)) else (none)) else (none))) else (none)) = some r := by first | (rw [hy178]; with_reducible exact H) | (have H2_ := (Option.bind_some _ _).symm.trans H; rw [hy178]; with_reducible exact H2_) | (have H2_ := (Option.bind_some _ _).symm.trans H; with_reducible exact H2_) | with_reducible exact H | (rw [hy178]; exact H) | exact H
                have Ny178 := Aside0.mk hy178
                clear hy178
                by_cases c20 : y178.length + t171.length < 3518437208883
                · rw [if_pos c20] at H
                  have LMc20 := Aside0.mk c20
                  clear c20
                  obtain ⟨y181, hy181⟩ : ∃ y_ : List (S40), y_ = (y178 ++ t171) := ⟨_, rfl⟩
                  replace H : ((delta_Apply.f kj3 l0 y181).bind fun bt184 => (if t160 = 0 then (if t164 = 0 then (if 0 ≤ (Int.tmod (wrap64 (a2_0)) (wrap64 ((t154.length : Int) + 1))) then (if (Int.tmod (wrap64 (a2_0)) (wrap64 ((t154.length : Int) + 1))) ≤ (wrap64 ((Int.tmod (wrap64 (a2_0)) (wrap64 ((t154.length : Int) + 1))) + (Int.tmod (wrap64 (a2_1)) (wrap64 ((wrap64 ((t154.length : Int) - (Int.tmod (wrap64 (a2_0)) (wrap64 ((t154.length : Int) + 1))))) + 1))))) then (if (wrap64 ((Int.tmod (wrap64 (a2_0)) (wrap64 ((t154.length : Int) + 1))) + (Int.tmod (wrap64 (a2_1)) (wrap64 ((wrap64 ((t154.length : Int) - (Int.tmod (wrap64 (a2_0)) (wrap64 ((t154.length : Int) + 1))))) + 1))))) ≤ (t154.length : Int) then (if (strOfNums t163).toList = (strOfNums ((t154.take ((wrap64 ((Int.tmod (wrap64 (a2_0)) (wrap64 ((t154.length : Int) + 1))) + (Int.tmod (wrap64 (a2_1)) (wrap64 ((wrap64 ((t154.length : Int) - (Int.tmod (wrap64 (a2_0)) (wrap64 ((t154.length : Int) + 1))))) + 1))))) : Int).toNat).drop ((Int.tmod (wrap64 (a2_0)) (wrap64 ((t154.length : Int) + 1))) : Int).toNat)).toList then (if t168 = 0 then (if t172 = 0 then (if bt184.2 = 0 then (if (strOfNums bt184.1).toList = (strOfNums t154).toList then ((remoralaw08_awake.f).bind fun t193 => (some t193)) else (none)) else (none)) else (none)) else (none)) else (none)) else (none)) else (none)) else (none)) else (none)) else (none))) = some r := by first | (rw [hy181]; with_reducible exact H) | (have H2_ := (Option.bind_some _ _).symm.trans H; rw [hy181]; with_reducible exact H2_) | (have H2_ := (Option.bind_some _ _).symm.trans H; with_reducible exact H2_) | with_reducible exact H | (rw [hy181]; exact H) | exact H
                  have Ny181 := Aside0.mk hy181
                  clear hy181
                  replace H := Option.bind_eq_some_iff.mp H
                  obtain ⟨⟨t184, t185⟩, A210, H⟩ := H
                  replace H : (if t160 = 0 then (if t164 = 0 then (if 0 ≤ (Int.tmod (wrap64 (a2_0)) (wrap64 ((t154.length : Int) + 1))) then (if (Int.tmod (wrap64 (a2_0)) (wrap64 ((t154.length : Int) + 1))) ≤ (wrap64 ((Int.tmod (wrap64 (a2_0)) (wrap64 ((t154.length : Int) + 1))) + (Int.tmod (wrap64 (a2_1)) (wrap64 ((wrap64 ((t154.length : Int) - (Int.tmod (wrap64 (a2_0)) (wrap64 ((t154.length : Int) + 1))))) + 1))))) then (if (wrap64 ((Int.tmod (wrap64 (a2_0)) (wrap64 ((t154.length : Int) + 1))) + (Int.tmod (wrap64 (a2_1)) (wrap64 ((wrap64 ((t154.length : Int) - (Int.tmod (wrap64 (a2_0)) (wrap64 ((t154.length : Int) + 1))))) + 1))))) ≤ (t154.length : Int) then (if (strOfNums t163).toList = (strOfNums ((t154.take ((wrap64 ((Int.tmod (wrap64 (a2_0)) (wrap64 ((t154.length : Int) + 1))) + (Int.tmod (wrap64 (a2_1)) (wrap64 ((wrap64 ((t154.length : Int) - (Int.tmod (wrap64 (a2_0)) (wrap64 ((t154.length : Int) + 1))))) + 1))))) : Int).toNat).drop ((Int.tmod (wrap64 (a2_0)) (wrap64 ((t154.length : Int) + 1))) : Int).toNat)).toList then (if t168 = 0 then (if t172 = 0 then (if t185 = 0 then (if (strOfNums t184).toList = (strOfNums t154).toList then ((remoralaw08_awake.f).bind fun t193 => (some t193)) else (none)) else (none)) else (none)) else (none)) else (none)) else (none)) else (none)) else (none)) else (none)) else (none)) = some r := H
                  have A21 := Aside0.mk A210
                  clear A210
                  by_cases c22 : t160 = 0
                  · rw [if_pos c22] at H
                    have c22b0 : (t160 == 0) = true := beq_iff_eq.mpr c22
                    have c22b1 : (t160 != 0) = false := bne_eq_false_iff_eq.mpr c22
                    clear c22
                    by_cases c23 : t164 = 0
                    · rw [if_pos c23] at H
                      have c23b0 : (t164 == 0) = true := beq_iff_eq.mpr c23
                      have c23b1 : (t164 != 0) = false := bne_eq_false_iff_eq.mpr c23
                      clear c23
                      obtain ⟨ji24, hji24⟩ : ∃ j_ : Int, (Int.tmod (wrap64 (a2_0)) (wrap64 ((t154.length : Int) + 1))) = j_ := ⟨_, rfl⟩
                      replace H : (if 0 ≤ (ji24) then (if (ji24) ≤ (wrap64 ((ji24) + (Int.tmod (wrap64 (a2_1)) (wrap64 ((wrap64 ((t154.length : Int) - (ji24))) + 1))))) then (if (wrap64 ((ji24) + (Int.tmod (wrap64 (a2_1)) (wrap64 ((wrap64 ((t154.length : Int) - (ji24))) + 1))))) ≤ (t154.length : Int) then (if (strOfNums t163).toList = (strOfNums ((t154.take ((wrap64 ((ji24) + (Int.tmod (wrap64 (a2_1)) (wrap64 ((wrap64 ((t154.length : Int) - (ji24))) + 1))))) : Int).toNat).drop ((ji24) : Int).toNat)).toList then (if t168 = 0 then (if t172 = 0 then (if t185 = 0 then (if (strOfNums t184).toList = (strOfNums t154).toList then ((remoralaw08_awake.f).bind fun t193 => (some t193)) else (none)) else (none)) else (none)) else (none)) else (none)) else (none)) else (none)) else (none)) = some r := by first | (rw [hji24] at H; exact H) | (simp only [hji24] at H ⊢; exact H)
                      (try rw [hji24] at c14b0)
                      (try rw [hji24] at c14)
                      (try rw [hji24] at c14b1)
                      (try rw [hji24] at A11)
                      (try rw [hji24] at A15)
                      (try rw [hji24] at A16)
                      (try rw [hji24] at A17)
                      (try rw [hji24] at A18)
                      (try rw [hji24] at A21)
                      by_cases c25 : 0 ≤ (ji24)
                      · rw [if_pos c25] at H
                        have c25b0 := eq_true c25
                        have c25b1 : decide (0 ≤ (ji24)) = true := decide_eq_true c25
                        clear c25
                        by_cases c26 : (ji24) ≤ (wrap64 ((ji24) + (Int.tmod (wrap64 (a2_1)) (wrap64 ((wrap64 ((t154.length : Int) - (ji24))) + 1)))))
                        · rw [if_pos c26] at H
                          have c26b0 := eq_true c26
                          have c26b1 : decide ((ji24) ≤ (wrap64 ((ji24) + (Int.tmod (wrap64 (a2_1)) (wrap64 ((wrap64 ((t154.length : Int) - (ji24))) + 1)))))) = true := decide_eq_true c26
                          by_cases c27 : (wrap64 ((ji24) + (Int.tmod (wrap64 (a2_1)) (wrap64 ((wrap64 ((t154.length : Int) - (ji24))) + 1))))) ≤ (t154.length : Int)
                          · rw [if_pos c27] at H
                            have c27b0 := eq_true c27
                            have c27b1 : decide ((wrap64 ((ji24) + (Int.tmod (wrap64 (a2_1)) (wrap64 ((wrap64 ((t154.length : Int) - (ji24))) + 1))))) ≤ (t154.length : Int)) = true := decide_eq_true c27
                            obtain ⟨y188, hy188⟩ : ∃ y_ : List Int, y_ = ((t154.take ((wrap64 ((ji24) + (Int.tmod (wrap64 (a2_1)) (wrap64 ((wrap64 ((t154.length : Int) - (ji24))) + 1))))) : Int).toNat).drop ((ji24) : Int).toNat) := ⟨_, rfl⟩
                            replace H : (if (strOfNums t163).toList = (strOfNums y188).toList then (if t168 = 0 then (if t172 = 0 then (if t185 = 0 then (if (strOfNums t184).toList = (strOfNums t154).toList then ((remoralaw08_awake.f).bind fun t193 => (some t193)) else (none)) else (none)) else (none)) else (none)) else (none)) = some r := by first | (rw [hy188]; with_reducible exact H) | (have H2_ := (Option.bind_some _ _).symm.trans H; rw [hy188]; with_reducible exact H2_) | (have H2_ := (Option.bind_some _ _).symm.trans H; with_reducible exact H2_) | with_reducible exact H | (rw [hy188]; exact H) | exact H
                            have Ny188 := Aside0.mk hy188
                            clear hy188
                            by_cases c28 : (strOfNums t163).toList = (strOfNums y188).toList
                            · rw [if_pos c28] at H
                              have c28b0 : ((strOfNums t163).toList == (strOfNums y188).toList) = true := beq_iff_eq.mpr c28
                              have c28b1 : ((strOfNums t163).toList != (strOfNums y188).toList) = false := bne_eq_false_iff_eq.mpr c28
                              clear c28
                              by_cases c29 : t168 = 0
                              · rw [if_pos c29] at H
                                have c29b0 : (t168 == 0) = true := beq_iff_eq.mpr c29
                                have c29b1 : (t168 != 0) = false := bne_eq_false_iff_eq.mpr c29
                                clear c29
                                by_cases c30 : t172 = 0
                                · rw [if_pos c30] at H
                                  have c30b0 : (t172 == 0) = true := beq_iff_eq.mpr c30
                                  have c30b1 : (t172 != 0) = false := bne_eq_false_iff_eq.mpr c30
                                  clear c30
                                  by_cases c31 : t185 = 0
                                  · rw [if_pos c31] at H
                                    have c31b0 : (t185 == 0) = true := beq_iff_eq.mpr c31
                                    have c31b1 : (t185 != 0) = false := bne_eq_false_iff_eq.mpr c31
                                    clear c31
                                    by_cases c32 : (strOfNums t184).toList = (strOfNums t154).toList
                                    · rw [if_pos c32] at H
                                      have c32b0 : ((strOfNums t184).toList == (strOfNums t154).toList) = true := beq_iff_eq.mpr c32
                                      have c32b1 : ((strOfNums t184).toList != (strOfNums t154).toList) = false := bne_eq_false_iff_eq.mpr c32
                                      clear c32
                                      replace H := Option.bind_eq_some_iff.mp H
                                      obtain ⟨t193, A330, H⟩ := H
                                      replace H : (some t193) = some r := H
                                      have A33 := Aside0.mk A330
                                      clear A330
                                      obtain rfl := Option.some.inj H
                                      try go_wp2_with (first | ((with_reducible refine gate_callee (f := 18) rfl ?_); refine goesL_ (some 33) rfl rfl Try.func18 (by kernel_rfl) rfl #[.slice A0 l0.length c0, .slice A1 l1.length c1] rfl (by (try simp only [List.map_toArray, List.map_cons, List.map_nil]); first | done | rfl | (simp only [List.length_drop, List.length_take]; rfl)) ?_; (with_reducible refine (delta_Apply.calls kj3 _ _ l0 _ _ l1 t154 t155 _ ?side1 ?side2 ?side3 ?side4 A11.out).mono ?_); (case side1 => repeat (first | exact (Kd.C_below HR0.out HB.out) | (with_reducible refine Kd.C_alloc ?_ _) | (with_reducible refine Kd.C_drewN ?_ _) | (with_reducible refine Kd.C_drew ?_))); (case side2 => exact HC0.out); (case side3 => repeat (first | exact (Kd.C_below HR1.out HB.out) | (with_reducible refine Kd.C_alloc ?_ _) | (with_reducible refine Kd.C_drewN ?_ _) | (with_reducible refine Kd.C_drew ?_))); (case side4 => exact HC1.out); rintro e w34 ⟨v156, rfl, ho0, hb⟩; refine ⟨_, rfl, ?_⟩; have n0_ := Aside0.mk (Kd.R_lower ho0 (below_size (by repeat (first | (with_reducible first | exact HB.out | apply below_alloc | apply pw_below_drewN | apply below_drew1 | refine below_set ?_ GE151.out) | exact HB.out)))); have n1_ := Aside0.mk (blk_below (g := gb151) (o := .cells #[.int .u16 a2_0, .int .u16 a2_1] 46 (0, 0)) (by (with_reducible repeat (first | refine blk_drewN ?_ _ | refine blk_drew ?_ | refine blk_alloc ?_ _)); exact BK151.out) hb); have n2_ := Aside0.mk (below_step (by repeat (first | (with_reducible first | exact HB.out | apply below_alloc | apply pw_below_drewN | apply below_drew1 | refine below_set ?_ GE151.out) | exact HB.out)) hb); clear BK151; clear HB; have HO157 := n0_; have BK151 := n1_; have HB := n2_; clear n0_ n1_ n2_; (try clear hb); (try clear hb2); (try clear hk); (try clear hi); (try clear ho0); have hcz35_0 : w34.cell? ⟨gb151, 0, none⟩ = some (.int .u16 a2_0) := (blk_cell BK151.out 0).trans rfl; have hcz35_1 : w34.cell? ⟨gb151, 1, none⟩ = some (.int .u16 a2_1) := (blk_cell BK151.out 1).trans rfl; have hfz35_0 := blk_frozen BK151.out 0; have hfz35_1 := blk_frozen BK151.out 1; obtain ⟨Ao36, co36, eo36⟩ := Kd.R_slice HO157.out; subst eo36) | ((with_reducible refine gate_callee (f := 27) rfl ?_); refine goesL_ (some 61) rfl rfl Try.func27 (by kernel_rfl) rfl #[.slice A1 l1.length c1, .int .i64 ji24, .int .i64 (wrap64 ((ji24) + (Int.tmod (wrap64 (a2_1)) (wrap64 ((wrap64 ((t154.length : Int) - (ji24))) + 1)))))] rfl (by (try simp only [List.map_toArray, List.map_cons, List.map_nil]); first | done | (simp only [hji24]; rfl) | rfl | (simp only [List.length_drop, List.length_take]; rfl)) ?_; (with_reducible refine (delta_Part.calls kj3 _ _ l1 ji24 (wrap64 ((ji24) + (Int.tmod (wrap64 (a2_1)) (wrap64 ((wrap64 ((t154.length : Int) - (ji24))) + 1))))) t159 t160 _ ?side1 ?side2 A15.out).mono ?_); (case side1 => repeat (first | exact (Kd.C_below HR1.out HB.out) | (with_reducible refine Kd.C_alloc ?_ _) | (with_reducible refine Kd.C_drewN ?_ _) | (with_reducible refine Kd.C_drew ?_))); (case side2 => exact HC1.out); rintro e w37 ⟨v161, rfl, ho0, hb⟩; refine ⟨_, rfl, ?_⟩; have n0_ := Aside0.mk (Kd.R_below (by (with_reducible repeat (first | apply Kd.R_alloc | apply Kd.R_drewN | apply Kd.R_drew)); exact HO157.out) hb); have n1_ := Aside0.mk (Kd.N_lower (Kd.N_mono (ok' := fun k_ => some k_ ≠ (.slice Ao36 t154.length co36 : Value).ownBlock ∧ k_ ≠ gb151) (Kd.S_N (Kd.S_bound ho0)) (fun k_ hk_ => ⟨(Kd.fresh' (Kd.R_lt (by (with_reducible repeat (first | apply Kd.R_alloc | apply Kd.R_drewN | apply Kd.R_drew)); exact HO157.out)) k_ hk_.2.1), (Kd.freshB (g := gb151) (o := .cells #[.int .u16 a2_0, .int .u16 a2_1] 46 (0, 0)) (by (with_reducible repeat (first | refine blk_drewN ?_ _ | refine blk_drew ?_ | refine blk_alloc ?_ _)); exact BK151.out) k_ hk_.2.1)⟩)) (below_size (by repeat (first | (with_reducible first | exact HB.out | apply below_alloc | apply pw_below_drewN | apply below_drew1 | refine below_set ?_ GE151.out) | exact HB.out)))); have n2_ := Aside0.mk (blk_below (g := gb151) (o := .cells #[.int .u16 a2_0, .int .u16 a2_1] 46 (0, 0)) (by (with_reducible repeat (first | refine blk_drewN ?_ _ | refine blk_drew ?_ | refine blk_alloc ?_ _)); exact BK151.out) hb); have n3_ := Aside0.mk (below_step (by repeat (first | (with_reducible first | exact HB.out | apply below_alloc | apply pw_below_drewN | apply below_drew1 | refine below_set ?_ GE151.out) | exact HB.out)) hb); clear HO157; clear BK151; clear HB; have HO157 := n0_; have HO162 := n1_; have BK151 := n2_; have HB := n3_; clear n0_ n1_ n2_ n3_; (try clear hb); (try clear hb2); (try clear hk); (try clear hi); (try clear ho0); obtain ⟨Ao38, co38, eo38⟩ := Kd.N_slice HO162.out; subst eo38) | ((with_reducible refine gate_callee (f := 18) rfl ?_); refine goesL_ (some 67) rfl rfl Try.func18 (by kernel_rfl) rfl #[.slice A0 l0.length c0, .slice Ao38 t159.length co38] rfl (by (try simp only [List.map_toArray, List.map_cons, List.map_nil]); first | done | rfl | (simp only [List.length_drop, List.length_take]; rfl)) ?_; (with_reducible refine (delta_Apply.calls kj3 _ _ l0 _ _ t159 t163 t164 _ ?side1 ?side2 ?side3 ?side4 A16.out).mono ?_); (case side1 => repeat (first | exact (Kd.C_below HR0.out HB.out) | (with_reducible refine Kd.C_alloc ?_ _) | (with_reducible refine Kd.C_drewN ?_ _) | (with_reducible refine Kd.C_drew ?_))); (case side2 => exact HC0.out); (case side3 => repeat (first | exact (Kd.N_reads' HO162.out).2.2 | (with_reducible refine Kd.C_alloc ?_ _) | (with_reducible refine Kd.C_drewN ?_ _) | (with_reducible refine Kd.C_drew ?_))); (case side4 => exact (Kd.N_reads' HO162.out).2.1); rintro e w39 ⟨v165, rfl, ho0, hb⟩; refine ⟨_, rfl, ?_⟩; have n0_ := Aside0.mk (Kd.R_elder' (by (with_reducible repeat (first | apply Kd.R_alloc | apply Kd.R_drewN | apply Kd.R_drew)); exact HO157.out) (Kd.R_base ho0) hb); have n1_ := Aside0.mk (Kd.N_elder' (by (with_reducible repeat (first | apply Kd.N_alloc | apply Kd.N_drewN | apply Kd.N_drew)); exact HO162.out) (Kd.R_base ho0) hb); have n2_ := Aside0.mk (Kd.R_lower (Kd.R_new' ho0 (Kd.R_lt (by (with_reducible repeat (first | apply Kd.R_alloc | apply Kd.R_drewN | apply Kd.R_drew)); exact HO157.out))) (below_size (by repeat (first | (with_reducible first | exact HB.out | apply below_alloc | apply pw_below_drewN | apply below_drew1 | refine below_set ?_ GE151.out) | exact HB.out)))); have n3_ := Aside0.mk (blk_below (g := gb151) (o := .cells #[.int .u16 a2_0, .int .u16 a2_1] 46 (0, 0)) (by (with_reducible repeat (first | refine blk_drewN ?_ _ | refine blk_drew ?_ | refine blk_alloc ?_ _)); exact BK151.out) hb); have n4_ := Aside0.mk (below_step (by repeat (first | (with_reducible first | exact HB.out | apply below_alloc | apply pw_below_drewN | apply below_drew1 | refine below_set ?_ GE151.out) | exact HB.out)) hb); clear HO157; clear HO162; clear BK151; clear HB; have HO157 := n0_; have HO162 := n1_; have HO166 := n2_; have BK151 := n3_; have HB := n4_; clear n0_ n1_ n2_ n3_ n4_; (try clear hb); (try clear hb2); (try clear hk); (try clear hi); (try clear ho0)) | ((with_reducible refine gate_callee (f := 27) rfl ?_); refine goesL_ (some 73) rfl rfl Try.func27 (by kernel_rfl) rfl #[.slice A1 l1.length c1, .int .i64 0, .int .i64 ji24] rfl (by (try simp only [List.map_toArray, List.map_cons, List.map_nil]); first | done | (simp only [hji24]; rfl) | rfl | (simp only [List.length_drop, List.length_take]; rfl)) ?_; (with_reducible refine (delta_Part.calls kj3 _ _ l1 0 ji24 t167 t168 _ ?side1 ?side2 A17.out).mono ?_); (case side1 => repeat (first | exact (Kd.C_below HR1.out HB.out) | (with_reducible refine Kd.C_alloc ?_ _) | (with_reducible refine Kd.C_drewN ?_ _) | (with_reducible refine Kd.C_drew ?_))); (case side2 => exact HC1.out); rintro e w40 ⟨v169, rfl, ho0, hb⟩; refine ⟨_, rfl, ?_⟩; have n0_ := Aside0.mk (Kd.R_below (by (with_reducible repeat (first | apply Kd.R_alloc | apply Kd.R_drewN | apply Kd.R_drew)); exact HO157.out) hb); have n1_ := Aside0.mk (Kd.N_elder' (by (with_reducible repeat (first | apply Kd.N_alloc | apply Kd.N_drewN | apply Kd.N_drew)); exact HO162.out) (by first | exact Kd.N_base ho0 | exact Kd.S_base ho0 | exact Kd.R_base ho0) hb); have n2_ := Aside0.mk (Kd.R_below (by (with_reducible repeat (first | apply Kd.R_alloc | apply Kd.R_drewN | apply Kd.R_drew)); exact HO166.out) hb); have n3_ := Aside0.mk (Kd.N_lower (Kd.N_mono (ok' := fun k_ => some k_ ≠ (.slice Ao36 t154.length co36 : Value).ownBlock ∧ some k_ ≠ (.slice Ao38 t159.length co38 : Value).ownBlock ∧ some k_ ≠ (v165 : Value).ownBlock ∧ k_ ≠ gb151) (Kd.S_N (Kd.S_bound ho0)) (fun k_ hk_ => ⟨(Kd.fresh' (Kd.R_lt (by (with_reducible repeat (first | apply Kd.R_alloc | apply Kd.R_drewN | apply Kd.R_drew)); exact HO157.out)) k_ hk_.2.1), (Kd.fresh' (Kd.N_lt (by (with_reducible repeat (first | apply Kd.N_alloc | apply Kd.N_drewN | apply Kd.N_drew)); exact HO162.out)) k_ hk_.2.1), (Kd.fresh' (Kd.R_lt (by (with_reducible repeat (first | apply Kd.R_alloc | apply Kd.R_drewN | apply Kd.R_drew)); exact HO166.out)) k_ hk_.2.1), (Kd.freshB (g := gb151) (o := .cells #[.int .u16 a2_0, .int .u16 a2_1] 46 (0, 0)) (by (with_reducible repeat (first | refine blk_drewN ?_ _ | refine blk_drew ?_ | refine blk_alloc ?_ _)); exact BK151.out) k_ hk_.2.1)⟩)) (below_size (by repeat (first | (with_reducible first | exact HB.out | apply below_alloc | apply pw_below_drewN | apply below_drew1 | refine below_set ?_ GE151.out) | exact HB.out)))); have n4_ := Aside0.mk (blk_below (g := gb151) (o := .cells #[.int .u16 a2_0, .int .u16 a2_1] 46 (0, 0)) (by (with_reducible repeat (first | refine blk_drewN ?_ _ | refine blk_drew ?_ | refine blk_alloc ?_ _)); exact BK151.out) hb); have n5_ := Aside0.mk (below_step (by repeat (first | (with_reducible first | exact HB.out | apply below_alloc | apply pw_below_drewN | apply below_drew1 | refine below_set ?_ GE151.out) | exact HB.out)) hb); clear HO157; clear HO162; clear HO166; clear BK151; clear HB; have HO157 := n0_; have HO162 := n1_; have HO166 := n2_; have HO170 := n3_; have BK151 := n4_; have HB := n5_; clear n0_ n1_ n2_ n3_ n4_ n5_; (try clear hb); (try clear hb2); (try clear hk); (try clear hi); (try clear ho0)) | ((with_reducible refine gate_callee (f := 27) rfl ?_); refine goesL_ (some 81) rfl rfl Try.func27 (by kernel_rfl) rfl #[.slice A1 l1.length c1, .int .i64 ji24, .int .i64 (t154.length : Int)] rfl (by (try simp only [List.map_toArray, List.map_cons, List.map_nil]); first | done | (simp only [hji24]; rfl) | rfl | (simp only [List.length_drop, List.length_take]; rfl)) ?_; (with_reducible refine (delta_Part.calls kj3 _ _ l1 ji24 (t154.length : Int) t171 t172 _ ?side1 ?side2 A18.out).mono ?_); (case side1 => repeat (first | exact (Kd.C_below HR1.out HB.out) | (with_reducible refine Kd.C_alloc ?_ _) | (with_reducible refine Kd.C_drewN ?_ _) | (with_reducible refine Kd.C_drew ?_))); (case side2 => exact HC1.out); rintro e w41 ⟨v173, rfl, ho0, hb⟩; refine ⟨_, rfl, ?_⟩; have n0_ := Aside0.mk (Kd.R_below (by (with_reducible repeat (first | apply Kd.R_alloc | apply Kd.R_drewN | apply Kd.R_drew)); exact HO157.out) hb); have n1_ := Aside0.mk (Kd.N_elder' (by (with_reducible repeat (first | apply Kd.N_alloc | apply Kd.N_drewN | apply Kd.N_drew)); exact HO162.out) (by first | exact Kd.N_base ho0 | exact Kd.S_base ho0 | exact Kd.R_base ho0) hb); have n2_ := Aside0.mk (Kd.R_below (by (with_reducible repeat (first | apply Kd.R_alloc | apply Kd.R_drewN | apply Kd.R_drew)); exact HO166.out) hb); have n3_ := Aside0.mk (Kd.N_elder' (by (with_reducible repeat (first | apply Kd.N_alloc | apply Kd.N_drewN | apply Kd.N_drew)); exact HO170.out) (by first | exact Kd.N_base ho0 | exact Kd.S_base ho0 | exact Kd.R_base ho0) hb); have n4_ := Aside0.mk (Kd.N_lower (Kd.N_mono (ok' := fun k_ => some k_ ≠ (.slice Ao36 t154.length co36 : Value).ownBlock ∧ some k_ ≠ (.slice Ao38 t159.length co38 : Value).ownBlock ∧ some k_ ≠ (v165 : Value).ownBlock ∧ some k_ ≠ (v169 : Value).ownBlock ∧ k_ ≠ gb151) (Kd.S_N (Kd.S_bound ho0)) (fun k_ hk_ => ⟨(Kd.fresh' (Kd.R_lt (by (with_reducible repeat (first | apply Kd.R_alloc | apply Kd.R_drewN | apply Kd.R_drew)); exact HO157.out)) k_ hk_.2.1), (Kd.fresh' (Kd.N_lt (by (with_reducible repeat (first | apply Kd.N_alloc | apply Kd.N_drewN | apply Kd.N_drew)); exact HO162.out)) k_ hk_.2.1), (Kd.fresh' (Kd.R_lt (by (with_reducible repeat (first | apply Kd.R_alloc | apply Kd.R_drewN | apply Kd.R_drew)); exact HO166.out)) k_ hk_.2.1), (Kd.fresh' (Kd.N_lt (by (with_reducible repeat (first | apply Kd.N_alloc | apply Kd.N_drewN | apply Kd.N_drew)); exact HO170.out)) k_ hk_.2.1), (Kd.freshB (g := gb151) (o := .cells #[.int .u16 a2_0, .int .u16 a2_1] 46 (0, 0)) (by (with_reducible repeat (first | refine blk_drewN ?_ _ | refine blk_drew ?_ | refine blk_alloc ?_ _)); exact BK151.out) k_ hk_.2.1)⟩)) (below_size (by repeat (first | (with_reducible first | exact HB.out | apply below_alloc | apply pw_below_drewN | apply below_drew1 | refine below_set ?_ GE151.out) | exact HB.out)))); have n5_ := Aside0.mk (blk_below (g := gb151) (o := .cells #[.int .u16 a2_0, .int .u16 a2_1] 46 (0, 0)) (by (with_reducible repeat (first | refine blk_drewN ?_ _ | refine blk_drew ?_ | refine blk_alloc ?_ _)); exact BK151.out) hb); have n6_ := Aside0.mk (below_step (by repeat (first | (with_reducible first | exact HB.out | apply below_alloc | apply pw_below_drewN | apply below_drew1 | refine below_set ?_ GE151.out) | exact HB.out)) hb); clear HO157; clear HO162; clear HO166; clear HO170; clear BK151; clear HB; have HO157 := n0_; have HO162 := n1_; have HO166 := n2_; have HO170 := n3_; have HO174 := n4_; have BK151 := n5_; have HB := n6_; clear n0_ n1_ n2_ n3_ n4_ n5_ n6_; (try clear hb); (try clear hb2); (try clear hk); (try clear hi); (try clear ho0)) | ((with_reducible refine gate_dst (N := 86) rfl ?_); (try (refine gate_guard (by rfl) ?_; dsimp only)); refine Kd.N_lit k40 _ 40 ?hg (N' := 86) ?hd (xs := ([] : List (S40))) (inner := []) (ok := (fun k_ => some k_ ≠ (.slice Ao36 t154.length co36 : Value).ownBlock ∧ some k_ ≠ (.slice Ao38 t159.length co38 : Value).ownBlock ∧ some k_ ≠ (v165 : Value).ownBlock ∧ some k_ ≠ (v169 : Value).ownBlock ∧ some k_ ≠ (v173 : Value).ownBlock ∧ k_ ≠ gb151)) (okp := (fun k_ => some k_ ≠ (.slice Ao36 t154.length co36 : Value).ownBlock ∧ some k_ ≠ (.slice Ao38 t159.length co38 : Value).ownBlock ∧ some k_ ≠ (v165 : Value).ownBlock ∧ some k_ ≠ (v169 : Value).ownBlock ∧ some k_ ≠ (v173 : Value).ownBlock ∧ k_ ≠ gb151)) ?hr ?hp (fun _ hk => hk) ((show ∀ k_, w41.heap.size ≤ k_ → (fun k_ => some k_ ≠ (.slice Ao36 t154.length co36 : Value).ownBlock ∧ some k_ ≠ (.slice Ao38 t159.length co38 : Value).ownBlock ∧ some k_ ≠ (v165 : Value).ownBlock ∧ some k_ ≠ (v169 : Value).ownBlock ∧ some k_ ≠ (v173 : Value).ownBlock ∧ k_ ≠ gb151) k_ from fun k_ hk => ⟨Kd.fresh' (Kd.R_lt (by (with_reducible repeat (first | apply Kd.R_alloc | apply Kd.R_drewN | apply Kd.R_drew)); exact HO157.out)) k_ hk, Kd.fresh' (Kd.N_lt (by (with_reducible repeat (first | apply Kd.N_alloc | apply Kd.N_drewN | apply Kd.N_drew)); exact HO162.out)) k_ hk, Kd.fresh' (Kd.R_lt (by (with_reducible repeat (first | apply Kd.R_alloc | apply Kd.R_drewN | apply Kd.R_drew)); exact HO166.out)) k_ hk, Kd.fresh' (Kd.N_lt (by (with_reducible repeat (first | apply Kd.N_alloc | apply Kd.N_drewN | apply Kd.N_drew)); exact HO170.out)) k_ hk, Kd.fresh' (Kd.N_lt (by (with_reducible repeat (first | apply Kd.N_alloc | apply Kd.N_drewN | apply Kd.N_drew)); exact HO174.out)) k_ hk, Kd.freshB (g := gb151) (o := .cells #[.int .u16 a2_0, .int .u16 a2_1] 46 (0, 0)) (by (with_reducible repeat (first | refine blk_drewN ?_ _ | refine blk_drew ?_ | refine blk_alloc ?_ _)); exact BK151.out) k_ hk⟩) _ (Nat.le_refl _)) (Below.refl _ _) (Nat.le_refl _) (by simp) ?_; (case hd => rfl); (case hg => rfl); (case hr => first | (go_simp; done) | (go_simp; rfl)); (case hp => exact (Reps.none _ _)); intro v176 w42 ho43 hb hg_ hnew_; clear hg_ hnew_; (first | rw [← Ny175.out] at ho43 | (simp only [Int.reduceToNat] at ho43; rw [← Ny175.out] at ho43)); have n0_ := Aside0.mk (Kd.R_below (by (with_reducible repeat (first | apply Kd.R_alloc | apply Kd.R_drewN | apply Kd.R_drew)); exact HO157.out) hb); have n1_ := Aside0.mk (Kd.N_elder' (by (with_reducible repeat (first | apply Kd.N_alloc | apply Kd.N_drewN | apply Kd.N_drew)); exact HO162.out) (by first | exact Kd.N_base ho43 | exact Kd.S_base ho43 | exact Kd.R_base ho43) hb); have n2_ := Aside0.mk (Kd.R_below (by (with_reducible repeat (first | apply Kd.R_alloc | apply Kd.R_drewN | apply Kd.R_drew)); exact HO166.out) hb); have n3_ := Aside0.mk (Kd.N_elder' (by (with_reducible repeat (first | apply Kd.N_alloc | apply Kd.N_drewN | apply Kd.N_drew)); exact HO170.out) (by first | exact Kd.N_base ho43 | exact Kd.S_base ho43 | exact Kd.R_base ho43) hb); have n4_ := Aside0.mk (Kd.N_elder' (by (with_reducible repeat (first | apply Kd.N_alloc | apply Kd.N_drewN | apply Kd.N_drew)); exact HO174.out) (by first | exact Kd.N_base ho43 | exact Kd.S_base ho43 | exact Kd.R_base ho43) hb); have n5_ := Aside0.mk (Kd.N_lower ho43 (below_size (by repeat (first | (with_reducible first | exact HB.out | apply below_alloc | apply pw_below_drewN | apply below_drew1 | refine below_set ?_ GE151.out) | exact HB.out)))); have n6_ := Aside0.mk (blk_below (g := gb151) (o := .cells #[.int .u16 a2_0, .int .u16 a2_1] 46 (0, 0)) (by (with_reducible repeat (first | refine blk_drewN ?_ _ | refine blk_drew ?_ | refine blk_alloc ?_ _)); exact BK151.out) hb); have n7_ := Aside0.mk (below_step (by repeat (first | (with_reducible first | exact HB.out | apply below_alloc | apply pw_below_drewN | apply below_drew1 | refine below_set ?_ GE151.out) | exact HB.out)) hb); clear HO157; clear HO162; clear HO166; clear HO170; clear HO174; clear BK151; clear HB; have HO157 := n0_; have HO162 := n1_; have HO166 := n2_; have HO170 := n3_; have HO174 := n4_; have HO177 := n5_; have BK151 := n6_; have HB := n7_; clear n0_ n1_ n2_ n3_ n4_ n5_ n6_ n7_; clear hb ho43; obtain ⟨Ao45, co45, eo45⟩ := Kd.N_slice HO170.out; subst eo45) | ((with_reducible refine gate_builtin (b := .append) (xs := #[.tmp 86, .tmp 87]) rfl ?_); (try (refine gate_guard (by rfl) ?_; dsimp only)); at_builtin; refine Kd.N_append_rows k40 (w0 := w) w.heap.size rfl (.tmp 86) (.tmp 87) 22 40 (.agg #[(.int .i64 0), (.int .i64 0), (.slice none 0 0)]) 40 rfl Try.underlying22 info40 rfl (by decide) (by omega) v176 y175 t167 _ _ _ (fun k_ => some k_ ≠ (.slice Ao36 t154.length co36 : Value).ownBlock ∧ some k_ ≠ (.slice Ao38 t159.length co38 : Value).ownBlock ∧ some k_ ≠ (v165 : Value).ownBlock ∧ some k_ ≠ (v173 : Value).ownBlock ∧ k_ ≠ gb151) (fun k_ => ((fun k_ => some k_ ≠ (.slice Ao36 t154.length co36 : Value).ownBlock ∧ some k_ ≠ (.slice Ao38 t159.length co38 : Value).ownBlock ∧ some k_ ≠ (v165 : Value).ownBlock ∧ some k_ ≠ (v173 : Value).ownBlock ∧ k_ ≠ gb151)) k_ ∧ some k_ ≠ (v176 : Value).ownBlock) rfl rfl ?aO ?aR (fun _ hk => hk) ?aF ?aB ?aS ?aL ?_; (case aR => exact (by skip; exact Kd.N_F (Kd.N_mono (ok' := (fun k_ => ((fun k_ => some k_ ≠ (.slice Ao36 t154.length co36 : Value).ownBlock ∧ some k_ ≠ (.slice Ao38 t159.length co38 : Value).ownBlock ∧ some k_ ≠ (v165 : Value).ownBlock ∧ some k_ ≠ (v173 : Value).ownBlock ∧ k_ ≠ gb151)) k_ ∧ some k_ ≠ (v176 : Value).ownBlock)) (HO170.out) (fun k_ hk => ⟨⟨hk.1.1.1, ⟨hk.1.1.2.1, ⟨hk.1.1.2.2.1, ⟨hk.1.2, hk.1.1.2.2.2⟩⟩⟩⟩, hk.2⟩)))); (case aB => exact (by repeat (first | (with_reducible first | exact HB.out | apply below_alloc | apply pw_below_drewN | apply below_drew1 | refine below_set ?_ GE151.out) | exact HB.out))); (case aF => exact (fun k_ hk => ⟨Kd.fresh' (Kd.R_lt (by (with_reducible repeat (first | apply Kd.R_alloc | apply Kd.R_drewN | apply Kd.R_drew)); exact HO157.out)) k_ hk, Kd.fresh' (Kd.N_lt (by (with_reducible repeat (first | apply Kd.N_alloc | apply Kd.N_drewN | apply Kd.N_drew)); exact HO162.out)) k_ hk, Kd.fresh' (Kd.R_lt (by (with_reducible repeat (first | apply Kd.R_alloc | apply Kd.R_drewN | apply Kd.R_drew)); exact HO166.out)) k_ hk, Kd.fresh' (Kd.N_lt (by (with_reducible repeat (first | apply Kd.N_alloc | apply Kd.N_drewN | apply Kd.N_drew)); exact HO174.out)) k_ hk, Kd.freshB (g := gb151) (o := .cells #[.int .u16 a2_0, .int .u16 a2_1] 46 (0, 0)) (by (with_reducible repeat (first | refine blk_drewN ?_ _ | refine blk_drew ?_ | refine blk_alloc ?_ _)); exact BK151.out) k_ hk⟩)); (case aO => exact (by (with_reducible repeat (first | apply Kd.N_alloc | apply Kd.N_drewN | apply Kd.N_drew)); exact Kd.N_mono HO177.out (fun _ hk => ⟨hk.1, ⟨hk.2.1, ⟨hk.2.2.1, ⟨hk.2.2.2.2.1, hk.2.2.2.2.2⟩⟩⟩⟩))); (case aS => exact (below_size (by repeat (first | (with_reducible first | exact HB.out | apply below_alloc | apply pw_below_drewN | apply below_drew1 | refine below_set ?_ GE151.out) | exact HB.out)))); (case aL => have := LMc19.out; omega); intro v179 w44 ho hb hg hat; rw [← Ny178.out] at ho; have n0_ := Aside0.mk (blk_grown (g := gb151) (o := .cells #[.int .u16 a2_0, .int .u16 a2_1] 46 (0, 0)) (by (with_reducible repeat (first | refine blk_drewN ?_ _ | refine blk_drew ?_ | refine blk_alloc ?_ _)); exact BK151.out) hg (Kd.N_ne HO177.out BK151.out (by decide))); have n1_ := Aside0.mk (Kd.R_over' (by (with_reducible repeat (first | apply Kd.R_alloc | apply Kd.R_drewN | apply Kd.R_drew)); exact HO157.out) (Kd.N_typed (by (with_reducible repeat (first | apply Kd.N_alloc | apply Kd.N_drewN | apply Kd.N_drew)); exact HO177.out)) (by decide) hg); have n2_ := Aside0.mk (Kd.N_afterv (ok := (fun k_ => some k_ ≠ (.slice Ao36 t154.length co36 : Value).ownBlock ∧ some k_ ≠ (v165 : Value).ownBlock ∧ some k_ ≠ (.slice Ao45 t167.length co45 : Value).ownBlock ∧ some k_ ≠ (v173 : Value).ownBlock ∧ k_ ≠ gb151)) (by (with_reducible repeat (first | apply Kd.N_alloc | apply Kd.N_drewN | apply Kd.N_drew)); exact Kd.N_mono HO162.out (fun _ hk => ⟨⟨hk.1.1.1.1.1, ⟨hk.1.1.1.2, ⟨hk.1.1.2, ⟨hk.1.2, hk.1.1.1.1.2⟩⟩⟩⟩, hk.2⟩)) hg hat); have n3_ := Aside0.mk (Kd.R_over' (by (with_reducible repeat (first | apply Kd.R_alloc | apply Kd.R_drewN | apply Kd.R_drew)); exact HO166.out) (Kd.N_typed (by (with_reducible repeat (first | apply Kd.N_alloc | apply Kd.N_drewN | apply Kd.N_drew)); exact HO177.out)) (by decide) hg); have n4_ := Aside0.mk (Kd.N_afterv (ok := (fun k_ => some k_ ≠ (.slice Ao36 t154.length co36 : Value).ownBlock ∧ some k_ ≠ (.slice Ao38 t159.length co38 : Value).ownBlock ∧ some k_ ≠ (v165 : Value).ownBlock ∧ some k_ ≠ (v173 : Value).ownBlock ∧ k_ ≠ gb151)) (by (with_reducible repeat (first | apply Kd.N_alloc | apply Kd.N_drewN | apply Kd.N_drew)); exact Kd.N_mono HO170.out (fun _ hk => ⟨⟨hk.1.1.1, ⟨hk.1.1.2.1, ⟨hk.1.1.2.2.1, ⟨hk.1.2, hk.1.1.2.2.2⟩⟩⟩⟩, hk.2⟩)) hg hat); have n5_ := Aside0.mk (Kd.N_afterv (ok := (fun k_ => some k_ ≠ (.slice Ao36 t154.length co36 : Value).ownBlock ∧ some k_ ≠ (.slice Ao38 t159.length co38 : Value).ownBlock ∧ some k_ ≠ (v165 : Value).ownBlock ∧ some k_ ≠ (.slice Ao45 t167.length co45 : Value).ownBlock ∧ k_ ≠ gb151)) (by (with_reducible repeat (first | apply Kd.N_alloc | apply Kd.N_drewN | apply Kd.N_drew)); exact HO174.out) hg hat); have n6_ := Aside0.mk (hb); have n7_ := Aside0.mk (ho); clear BK151; clear HO157; clear HO162; clear HO166; clear HO170; clear HO174; clear HB; clear HO177; have BK151 := n0_; have HO157 := n1_; have HO162 := n2_; have HO166 := n3_; have HO170 := n4_; have HO174 := n5_; have HB := n6_; have HO180 := n7_; clear n0_ n1_ n2_ n3_ n4_ n5_ n6_ n7_; clear ho hb hg hat; obtain ⟨Ao47, co47, eo47⟩ := Kd.N_slice HO174.out; subst eo47) | ((with_reducible refine gate_builtin (b := .append) (xs := #[.tmp 88, .tmp 89]) rfl ?_); (try (refine gate_guard (by rfl) ?_; dsimp only)); at_builtin; refine Kd.N_append_rows k40 (w0 := w) w.heap.size rfl (.tmp 88) (.tmp 89) 22 40 (.agg #[(.int .i64 0), (.int .i64 0), (.slice none 0 0)]) 40 rfl Try.underlying22 info40 rfl (by decide) (by omega) v179 y178 t171 _ _ _ (fun k_ => some k_ ≠ (.slice Ao36 t154.length co36 : Value).ownBlock ∧ some k_ ≠ (.slice Ao38 t159.length co38 : Value).ownBlock ∧ some k_ ≠ (v165 : Value).ownBlock ∧ k_ ≠ gb151) (fun k_ => ((fun k_ => some k_ ≠ (.slice Ao36 t154.length co36 : Value).ownBlock ∧ some k_ ≠ (.slice Ao38 t159.length co38 : Value).ownBlock ∧ some k_ ≠ (v165 : Value).ownBlock ∧ k_ ≠ gb151)) k_ ∧ some k_ ≠ (v179 : Value).ownBlock) rfl rfl ?aO ?aR (fun _ hk => hk) ?aF ?aB ?aS ?aL ?_; (case aR => exact (by skip; exact Kd.N_F (Kd.N_mono (ok' := (fun k_ => ((fun k_ => some k_ ≠ (.slice Ao36 t154.length co36 : Value).ownBlock ∧ some k_ ≠ (.slice Ao38 t159.length co38 : Value).ownBlock ∧ some k_ ≠ (v165 : Value).ownBlock ∧ k_ ≠ gb151)) k_ ∧ some k_ ≠ (v179 : Value).ownBlock)) (HO174.out) (fun k_ hk => ⟨⟨hk.1.1, ⟨hk.1.2.1, ⟨hk.1.2.2.1, hk.1.2.2.2.2⟩⟩⟩, hk.2⟩)))); (case aB => exact (by repeat (first | (with_reducible first | exact HB.out | apply below_alloc | apply pw_below_drewN | apply below_drew1 | refine below_set ?_ GE151.out) | exact HB.out))); (case aF => exact (fun k_ hk => ⟨Kd.fresh' (Kd.R_lt (by (with_reducible repeat (first | apply Kd.R_alloc | apply Kd.R_drewN | apply Kd.R_drew)); exact HO157.out)) k_ hk, Kd.fresh' (Kd.N_lt (by (with_reducible repeat (first | apply Kd.N_alloc | apply Kd.N_drewN | apply Kd.N_drew)); exact HO162.out)) k_ hk, Kd.fresh' (Kd.R_lt (by (with_reducible repeat (first | apply Kd.R_alloc | apply Kd.R_drewN | apply Kd.R_drew)); exact HO166.out)) k_ hk, Kd.freshB (g := gb151) (o := .cells #[.int .u16 a2_0, .int .u16 a2_1] 46 (0, 0)) (by (with_reducible repeat (first | refine blk_drewN ?_ _ | refine blk_drew ?_ | refine blk_alloc ?_ _)); exact BK151.out) k_ hk⟩)); (case aO => exact (by (with_reducible repeat (first | apply Kd.N_alloc | apply Kd.N_drewN | apply Kd.N_drew)); exact Kd.N_mono HO180.out (fun _ hk => ⟨hk.1, ⟨hk.2.1, ⟨hk.2.2.1, hk.2.2.2.2⟩⟩⟩))); (case aS => exact (below_size (by repeat (first | (with_reducible first | exact HB.out | apply below_alloc | apply pw_below_drewN | apply below_drew1 | refine below_set ?_ GE151.out) | exact HB.out)))); (case aL => have := LMc20.out; omega); intro v182 w46 ho hb hg hat; rw [← Ny181.out] at ho; have n0_ := Aside0.mk (blk_grown (g := gb151) (o := .cells #[.int .u16 a2_0, .int .u16 a2_1] 46 (0, 0)) (by (with_reducible repeat (first | refine blk_drewN ?_ _ | refine blk_drew ?_ | refine blk_alloc ?_ _)); exact BK151.out) hg (Kd.N_ne HO180.out BK151.out (by decide))); have n1_ := Aside0.mk (Kd.R_over' (by (with_reducible repeat (first | apply Kd.R_alloc | apply Kd.R_drewN | apply Kd.R_drew)); exact HO157.out) (Kd.N_typed (by (with_reducible repeat (first | apply Kd.N_alloc | apply Kd.N_drewN | apply Kd.N_drew)); exact HO180.out)) (by decide) hg); have n2_ := Aside0.mk (Kd.N_afterv (ok := (fun k_ => some k_ ≠ (.slice Ao36 t154.length co36 : Value).ownBlock ∧ some k_ ≠ (v165 : Value).ownBlock ∧ some k_ ≠ (.slice Ao45 t167.length co45 : Value).ownBlock ∧ some k_ ≠ (.slice Ao47 t171.length co47 : Value).ownBlock ∧ k_ ≠ gb151)) (by (with_reducible repeat (first | apply Kd.N_alloc | apply Kd.N_drewN | apply Kd.N_drew)); exact HO162.out) hg hat); have n3_ := Aside0.mk (Kd.R_over' (by (with_reducible repeat (first | apply Kd.R_alloc | apply Kd.R_drewN | apply Kd.R_drew)); exact HO166.out) (Kd.N_typed (by (with_reducible repeat (first | apply Kd.N_alloc | apply Kd.N_drewN | apply Kd.N_drew)); exact HO180.out)) (by decide) hg); have n4_ := Aside0.mk (Kd.N_afterv (ok := (fun k_ => some k_ ≠ (.slice Ao36 t154.length co36 : Value).ownBlock ∧ some k_ ≠ (.slice Ao38 t159.length co38 : Value).ownBlock ∧ some k_ ≠ (v165 : Value).ownBlock ∧ some k_ ≠ (.slice Ao47 t171.length co47 : Value).ownBlock ∧ k_ ≠ gb151)) (by (with_reducible repeat (first | apply Kd.N_alloc | apply Kd.N_drewN | apply Kd.N_drew)); exact HO170.out) hg hat); have n5_ := Aside0.mk (Kd.N_afterv (ok := (fun k_ => some k_ ≠ (.slice Ao36 t154.length co36 : Value).ownBlock ∧ some k_ ≠ (.slice Ao38 t159.length co38 : Value).ownBlock ∧ some k_ ≠ (v165 : Value).ownBlock ∧ some k_ ≠ (.slice Ao45 t167.length co45 : Value).ownBlock ∧ k_ ≠ gb151)) (by (with_reducible repeat (first | apply Kd.N_alloc | apply Kd.N_drewN | apply Kd.N_drew)); exact HO174.out) hg hat); have n6_ := Aside0.mk (hb); have n7_ := Aside0.mk (ho); clear BK151; clear HO157; clear HO162; clear HO166; clear HO170; clear HO174; clear HB; clear HO180; have BK151 := n0_; have HO157 := n1_; have HO162 := n2_; have HO166 := n3_; have HO170 := n4_; have HO174 := n5_; have HB := n6_; have HO183 := n7_; clear n0_ n1_ n2_ n3_ n4_ n5_ n6_ n7_; clear ho hb hg hat; obtain ⟨Ao48, co48, eo48⟩ := Kd.N_slice HO183.out; subst eo48) | ((with_reducible refine gate_callee (f := 18) rfl ?_); refine goesL_ (some 91) rfl rfl Try.func18 (by kernel_rfl) rfl #[.slice A0 l0.length c0, .slice Ao48 y181.length co48] rfl (by (try simp only [List.map_toArray, List.map_cons, List.map_nil]); first | done | rfl | (simp only [List.length_drop, List.length_take]; rfl)) ?_; (with_reducible refine (delta_Apply.calls kj3 _ _ l0 _ _ y181 t184 t185 _ ?side1 ?side2 ?side3 ?side4 A21.out).mono ?_); (case side1 => repeat (first | exact (Kd.C_below HR0.out HB.out) | (with_reducible refine Kd.C_alloc ?_ _) | (with_reducible refine Kd.C_drewN ?_ _) | (with_reducible refine Kd.C_drew ?_))); (case side2 => exact HC0.out); (case side3 => repeat (first | exact (Kd.N_reads' HO183.out).2.2 | (with_reducible refine Kd.C_alloc ?_ _) | (with_reducible refine Kd.C_drewN ?_ _) | (with_reducible refine Kd.C_drew ?_))); (case side4 => exact (Kd.N_reads' HO183.out).2.1); rintro e w49 ⟨v186, rfl, ho0, hb⟩; refine ⟨_, rfl, ?_⟩; have n0_ := Aside0.mk (Kd.R_elder' (by (with_reducible repeat (first | apply Kd.R_alloc | apply Kd.R_drewN | apply Kd.R_drew)); exact HO157.out) (Kd.R_base ho0) hb); have n1_ := Aside0.mk (Kd.N_elder' (by (with_reducible repeat (first | apply Kd.N_alloc | apply Kd.N_drewN | apply Kd.N_drew)); exact HO162.out) (Kd.R_base ho0) hb); have n2_ := Aside0.mk (Kd.R_elder' (by (with_reducible repeat (first | apply Kd.R_alloc | apply Kd.R_drewN | apply Kd.R_drew)); exact HO166.out) (Kd.R_base ho0) hb); have n3_ := Aside0.mk (Kd.N_elder' (by (with_reducible repeat (first | apply Kd.N_alloc | apply Kd.N_drewN | apply Kd.N_drew)); exact HO170.out) (Kd.R_base ho0) hb); have n4_ := Aside0.mk (Kd.N_elder' (by (with_reducible repeat (first | apply Kd.N_alloc | apply Kd.N_drewN | apply Kd.N_drew)); exact HO174.out) (Kd.R_base ho0) hb); have n5_ := Aside0.mk (Kd.N_elder' (by (with_reducible repeat (first | apply Kd.N_alloc | apply Kd.N_drewN | apply Kd.N_drew)); exact HO183.out) (Kd.R_base ho0) hb); have n6_ := Aside0.mk (Kd.R_lower (Kd.R_new' (Kd.R_new' ho0 (Kd.R_lt (by (with_reducible repeat (first | apply Kd.R_alloc | apply Kd.R_drewN | apply Kd.R_drew)); exact HO157.out))) (Kd.R_lt (by (with_reducible repeat (first | apply Kd.R_alloc | apply Kd.R_drewN | apply Kd.R_drew)); exact HO166.out))) (below_size (by repeat (first | (with_reducible first | exact HB.out | apply below_alloc | apply pw_below_drewN | apply below_drew1 | refine below_set ?_ GE151.out) | exact HB.out)))); have n7_ := Aside0.mk (blk_below (g := gb151) (o := .cells #[.int .u16 a2_0, .int .u16 a2_1] 46 (0, 0)) (by (with_reducible repeat (first | refine blk_drewN ?_ _ | refine blk_drew ?_ | refine blk_alloc ?_ _)); exact BK151.out) hb); have n8_ := Aside0.mk (below_step (by repeat (first | (with_reducible first | exact HB.out | apply below_alloc | apply pw_below_drewN | apply below_drew1 | refine below_set ?_ GE151.out) | exact HB.out)) hb); clear HO157; clear HO162; clear HO166; clear HO170; clear HO174; clear HO183; clear BK151; clear HB; have HO157 := n0_; have HO162 := n1_; have HO166 := n2_; have HO170 := n3_; have HO174 := n4_; have HO183 := n5_; have HO187 := n6_; have BK151 := n7_; have HB := n8_; clear n0_ n1_ n2_ n3_ n4_ n5_ n6_ n7_ n8_; (try clear hb); (try clear hb2); (try clear hk); (try clear hi); (try clear ho0)))
                                      have n0_ := Aside0.mk (Kd.R_drew HO157.out)
                                      have n1_ := Aside0.mk (Kd.N_drew HO162.out)
                                      have n2_ := Aside0.mk (Kd.R_drew HO166.out)
                                      have n3_ := Aside0.mk (Kd.N_drew HO170.out)
                                      have n4_ := Aside0.mk (Kd.N_drew HO174.out)
                                      have n5_ := Aside0.mk (Kd.N_drew HO183.out)
                                      have n6_ := Aside0.mk (Kd.R_drew HO187.out)
                                      have n7_ := Aside0.mk (blk_drew BK151.out)
                                      have n8_ := Aside0.mk (below_drew1 HB.out)
                                      clear HO157
                                      clear HO162
                                      clear HO166
                                      clear HO170
                                      clear HO174
                                      clear HO183
                                      clear HO187
                                      clear BK151
                                      clear HB
                                      have HO157 := n0_
                                      have HO162 := n1_
                                      have HO166 := n2_
                                      have HO170 := n3_
                                      have HO174 := n4_
                                      have HO183 := n5_
                                      have HO187 := n6_
                                      have BK151 := n7_
                                      have HB := n8_
                                      clear n0_ n1_ n2_ n3_ n4_ n5_ n6_ n7_ n8_
                                      have q51 : ((wrap64 ((ji24) + (Int.tmod (wrap64 (a2_1)) (wrap64 ((wrap64 ((t154.length : Int) - (ji24))) + 1))))) : Int) ≤ ((t154.length : Int) : Int) := of_decide_eq_true (by first | (with_reducible assumption) | assumption)
                                      obtain ⟨i051, hi051, _, hsz51, _⟩ := info_parts info5
                                      have hroom51 : t154.length ≤ co36 := (Kd.R_reads' HO157.out).2.1
                                      have hC51 : Kd.F (Kd.int .u8) _ _ Ao36 t154.length t154 := (Kd.V_at (base := w.heap.size) (Kd.R_V (Kd.R_types (Kd.R_apart' (Kd.R_apart' (Kd.R_apart' (Kd.R_apart' (HO157.out) (Kd.N_typed HO162.out) (by decide)) (Kd.N_typed HO170.out) (by decide)) (Kd.N_typed HO174.out) (by decide)) (Kd.N_typed HO183.out) (by decide)) BK151.out (by decide)))).2.2
                                      have ql51 : ((ji24) : Int) ≤ ((wrap64 ((ji24) + (Int.tmod (wrap64 (a2_1)) (wrap64 ((wrap64 ((t154.length : Int) - (ji24))) + 1))))) : Int) := of_decide_eq_true (by first | (with_reducible assumption) | assumption)
                                      have q051 : (0 : Int) ≤ ((ji24) : Int) := of_decide_eq_true (by first | (with_reducible assumption) | assumption)
                                      have hcut51 := cut_mid (P := Try.prog) 31 5 .i64 .i64 Try.underlying31 hi051 1 hsz51 Ao36 t154.length co36 (ji24) (wrap64 ((ji24) + (Int.tmod (wrap64 (a2_1)) (wrap64 ((wrap64 ((t154.length : Int) - (ji24))) + 1))))) q051 ql51 q51 hroom51
                                      have hr51 := Kd.F_mid (lo := ((ji24) : Int).toNat) (hi := ((wrap64 ((ji24) + (Int.tmod (wrap64 (a2_1)) (wrap64 ((wrap64 ((t154.length : Int) - (ji24))) + 1))))) : Int).toNat) (c := co36) hC51 (by omega) (by omega) hroom51
                                      obtain ⟨A51, hA51⟩ : ∃ A1, A1 = (if co36 = ((ji24) : Int).toNat then Ao36 else (Ao36 : Option Addr).map (·.add (((ji24) : Int).toNat * 1))) := ⟨_, rfl⟩
                                      obtain ⟨c51, hc51⟩ : ∃ c1, c1 = co36 - ((ji24) : Int).toNat := ⟨_, rfl⟩
                                      have hy51 : y188.length = ((wrap64 ((ji24) + (Int.tmod (wrap64 (a2_1)) (wrap64 ((wrap64 ((t154.length : Int) - (ji24))) + 1))))) : Int).toNat - ((ji24) : Int).toNat := (by rw [Ny188.out, List.length_drop, List.length_take] <;> omega)
                                      rw [show ((t154).take ((wrap64 ((ji24) + (Int.tmod (wrap64 (a2_1)) (wrap64 ((wrap64 ((t154.length : Int) - (ji24))) + 1))))) : Int).toNat).drop ((ji24) : Int).toNat = y188 from Ny188.out.symm] at hr51
                                      replace hr51 : Kd.F (Kd.int .u8) _ _ A51 y188.length y188 := (by rw [hA51]; exact hr51)
                                      rw [← hy51, ← hA51, ← hc51] at hcut51
                                      have HO192 := Aside0.mk (show Kd.V (Kd.int .u8) 5 _ w.heap.size _ (.slice A51 y188.length c51) y188 from Kd.V_mk (by rw [hy51, hc51]; exact Nat.sub_le_sub_right (Nat.le_trans (by omega) hroom51) _) hr51)
                                      have HC192 := Aside0.mk (show y188.length ≤ c51 from by rw [hy51, hc51]; exact Nat.sub_le_sub_right (Nat.le_trans (by omega) hroom51) _)
                                      clear hr51 hC51 hroom51 hi051 hsz51 hc51
                                      have KY51 := Aside0.mk hy51
                                      have KA51 := Aside0.mk hA51
                                      clear hy51 hA51
                                      replace q51 := eq_true q51
                                      have hcv52 := own_string (P := Try.prog) Try.underlying31 Try.underlying5 Try.underlying9 (Kd.own_of_R HO166.out)
                                      have hcv54 := own_string (P := Try.prog) Try.underlying31 Try.underlying5 Try.underlying9 (Kd.own_of_R HO187.out)
                                      have hcv55 := own_string (P := Try.prog) Try.underlying31 Try.underlying5 Try.underlying9 (Kd.own_of_R HO157.out)
                                      refine start_ (n := 39) (S := fun W_ => Below (w49.drew).heap.size (w49.drew) W_) (ds := []) #[false, false, false, false, false, false, false, false, false, false, false, false, false, false, false, false, false, false, false, false, false, false, false, false, false, false, false, false, false, false, false, false, false, false, false, false, false, false, false] (by kernel_rfl) rfl rfl (Below.refl _ _) (fun hHeld => ?_); refine with_tabW remoralaw08_DeltaCuts.tab13 remoralaw08_DeltaCuts.bits13 (fun HT_ HW_ => ?_)
                                      generalize w49.drew = w50 at HO157 HO162 HO166 HO170 HO174 HO183 HO187 BK151 HB HO192 hHeld ⊢
                                      refine pure_ (i := 0) (N := some 94) (v := ?_) (a' := ?_) #[true, false, false, false, false, false, false, false, false, false, false, false, false, false, false, false, false, false, false, false, false, false, false, false, false, false, false, false, false, false, false, false, false, false, false, false, false, false, false] rfl rfl (any_of HT_.out (by kernel_rfl)) (fun _ _ _ h => h) (Or.inl ⟨by rfl, ?_⟩) ?_ ?_
                                      rotate_left
                                      · intro w'
                                        go_simp
                                        with_reducible rfl
                                      rotate_left
                                      · simp only [Act.put, List.setIfInBounds_toArray, List.set_cons_zero, List.set_cons_succ, i64_w, i32_w]
                                        rfl
                                      refine pure_ (i := 1) (N := some 95) (v := ?_) (a' := ?_) #[true, true, false, false, false, false, false, false, false, false, false, false, false, false, false, false, false, false, false, false, false, false, false, false, false, false, false, false, false, false, false, false, false, false, false, false, false, false, false] rfl rfl (any_of HT_.out (by kernel_rfl)) (fun _ _ _ h => h) (Or.inl ⟨by rfl, ?_⟩) ?_ ?_
                                      rotate_left
                                      · intro w'
                                        go_simp
                                        with_reducible rfl
                                      rotate_left
                                      · simp only [Act.put, List.setIfInBounds_toArray, List.set_cons_zero, List.set_cons_succ, i64_w, i32_w]
                                        rfl
                                      refine pure_ (i := 2) (N := some 96) (v := ?_) (a' := ?_) #[true, true, true, false, false, false, false, false, false, false, false, false, false, false, false, false, false, false, false, false, false, false, false, false, false, false, false, false, false, false, false, false, false, false, false, false, false, false, false] rfl rfl (any_of HT_.out (by kernel_rfl)) (fun _ _ _ h => h) (Or.inl ⟨by rfl, ?_⟩) ?_ ?_
                                      rotate_left
                                      · intro w'
                                        go_simp
                                        with_reducible rfl
                                      rotate_left
                                      · simp only [Act.put, List.setIfInBounds_toArray, List.set_cons_zero, List.set_cons_succ, i64_w, i32_w]
                                        rfl
                                      refine pure_ (i := 3) (N := some 97) (v := ?_) (a' := ?_) #[true, true, true, true, false, false, false, false, false, false, false, false, false, false, false, false, false, false, false, false, false, false, false, false, false, false, false, false, false, false, false, false, false, false, false, false, false, false, false] rfl rfl (any_of HT_.out (by kernel_rfl)) (fun _ _ _ h => h) (Or.inl ⟨by rfl, ?_⟩) ?_ ?_
                                      rotate_left
                                      · intro w'
                                        go_simp
                                        with_reducible rfl
                                      rotate_left
                                      · simp only [Act.put, List.setIfInBounds_toArray, List.set_cons_zero, List.set_cons_succ, i64_w, i32_w]
                                        rfl
                                      refine pure_ (i := 4) (N := some 98) (v := ?_) (a' := ?_) #[true, true, true, true, true, false, false, false, false, false, false, false, false, false, false, false, false, false, false, false, false, false, false, false, false, false, false, false, false, false, false, false, false, false, false, false, false, false, false] rfl rfl (any_of HT_.out (by kernel_rfl)) (fun _ _ _ h => h) (Or.inl ⟨by rfl, ?_⟩) ?_ ?_
                                      rotate_left
                                      · intro w'
                                        go_simp
                                        with_reducible rfl
                                      rotate_left
                                      · simp only [Act.put, List.setIfInBounds_toArray, List.set_cons_zero, List.set_cons_succ, i64_w, i32_w]
                                        rfl
                                      refine pure_ (i := 5) (N := some 99) (v := ?_) (a' := ?_) #[true, true, true, true, true, true, false, false, false, false, false, false, false, false, false, false, false, false, false, false, false, false, false, false, false, false, false, false, false, false, false, false, false, false, false, false, false, false, false] rfl rfl (any_of HT_.out (by kernel_rfl)) (fun _ _ _ h => h) (Or.inl ⟨by rfl, ?_⟩) ?_ ?_
                                      rotate_left
                                      · intro w'
                                        go_simp
                                        with_reducible rfl
                                      rotate_left
                                      · simp only [Act.put, List.setIfInBounds_toArray, List.set_cons_zero, List.set_cons_succ, i64_w, i32_w]
                                        rfl
                                      refine pure_ (i := 6) (N := some 100) (v := ?_) (a' := ?_) #[true, true, true, true, true, true, true, false, false, false, false, false, false, false, false, false, false, false, false, false, false, false, false, false, false, false, false, false, false, false, false, false, false, false, false, false, false, false, false] rfl rfl (any_of HT_.out (by kernel_rfl)) (fun _ _ _ h => h) (Or.inl ⟨by rfl, ?_⟩) ?_ ?_
                                      rotate_left
                                      · intro w'
                                        go_simp
                                        with_reducible rfl
                                      rotate_left
                                      · simp only [Act.put, List.setIfInBounds_toArray, List.set_cons_zero, List.set_cons_succ, i64_w, i32_w]
                                        rfl
                                      refine pure_ (i := 7) (N := some 101) (v := ?_) (a' := ?_) #[true, true, true, true, true, true, true, true, false, false, false, false, false, false, false, false, false, false, false, false, false, false, false, false, false, false, false, false, false, false, false, false, false, false, false, false, false, false, false] rfl rfl (any_of HT_.out (by kernel_rfl)) (fun _ _ _ h => h) (Or.inl ⟨by rfl, ?_⟩) ?_ ?_
                                      rotate_left
                                      · intro w'
                                        go_simp
                                        with_reducible rfl
                                      rotate_left
                                      · simp only [Act.put, List.setIfInBounds_toArray, List.set_cons_zero, List.set_cons_succ, i64_w, i32_w]
                                        rfl
                                      refine take_ (i := 8) (N := some 102) (v := ?_) (a' := ?_) #[true, true, true, true, true, true, true, true, true, false, false, false, false, false, false, false, false, false, false, false, false, false, false, false, false, false, false, false, false, false, false, false, false, false, false, false, false, false, false] rfl rfl (take_ofW HT_.out HW_.out (by kernel_rfl)) (fun _ _ _ h => h) (Or.inl ⟨by rfl, ?_⟩) hHeld ?_ ?_
                                      rotate_left
                                      · intro w' hb_
                                        have hcvx_ := own_string (P := Try.prog) Try.underlying31 Try.underlying5 Try.underlying9 (Kd.own_of_R (Kd.R_below HO166.out hb_))
                                        go_simp
                                        with_reducible rfl
                                      rotate_left
                                      · simp only [Act.put, List.setIfInBounds_toArray, List.set_cons_zero, List.set_cons_succ, i64_w, i32_w]
                                        rfl
                                      refine pure_ (i := 9) (N := some 103) (v := ?_) (a' := ?_) #[true, true, true, true, true, true, true, true, true, true, false, false, false, false, false, false, false, false, false, false, false, false, false, false, false, false, false, false, false, false, false, false, false, false, false, false, false, false, false] rfl rfl (any_of HT_.out (by kernel_rfl)) (fun _ _ _ h => h) (Or.inl ⟨by rfl, ?_⟩) ?_ ?_
                                      rotate_left
                                      · intro w'
                                        go_simp
                                        with_reducible rfl
                                      rotate_left
                                      · simp only [Act.put, List.setIfInBounds_toArray, List.set_cons_zero, List.set_cons_succ, i64_w, i32_w]
                                        rfl
                                      refine pure_ (i := 10) (N := some 104) (v := ?_) (a' := ?_) #[true, true, true, true, true, true, true, true, true, true, true, false, false, false, false, false, false, false, false, false, false, false, false, false, false, false, false, false, false, false, false, false, false, false, false, false, false, false, false] rfl rfl (any_of HT_.out (by kernel_rfl)) (fun _ _ _ h => h) (Or.inl ⟨by rfl, ?_⟩) ?_ ?_
                                      rotate_left
                                      · intro w'
                                        go_simp
                                        with_reducible rfl
                                      rotate_left
                                      · simp only [Act.put, List.setIfInBounds_toArray, List.set_cons_zero, List.set_cons_succ, i64_w, i32_w]
                                        rfl
                                      refine pure_ (i := 11) (N := some 105) (v := ?_) (a' := ?_) #[true, true, true, true, true, true, true, true, true, true, true, true, false, false, false, false, false, false, false, false, false, false, false, false, false, false, false, false, false, false, false, false, false, false, false, false, false, false, false] rfl rfl (any_of HT_.out (by kernel_rfl)) (fun _ _ _ h => h) (Or.inl ⟨by rfl, ?_⟩) ?_ ?_
                                      rotate_left
                                      · intro w'
                                        go_simp
                                        with_reducible rfl
                                      rotate_left
                                      · simp only [Act.put, List.setIfInBounds_toArray, List.set_cons_zero, List.set_cons_succ, i64_w, i32_w]
                                        rfl
                                      refine pure_ (i := 12) (N := some 106) (v := ?_) (a' := ?_) #[true, true, true, true, true, true, true, true, true, true, true, true, true, false, false, false, false, false, false, false, false, false, false, false, false, false, false, false, false, false, false, false, false, false, false, false, false, false, false] rfl rfl (any_of HT_.out (by kernel_rfl)) (fun _ _ _ h => h) (Or.inl ⟨by rfl, ?_⟩) ?_ ?_
                                      rotate_left
                                      · intro w'
                                        go_simp
                                        with_reducible rfl
                                      rotate_left
                                      · simp only [Act.put, List.setIfInBounds_toArray, List.set_cons_zero, List.set_cons_succ, i64_w, i32_w]
                                        rfl
                                      refine one_ (i := 13) (N := some 107) #[true, true, true, true, true, true, true, true, true, true, true, true, true, true, false, false, false, false, false, false, false, false, false, false, false, false, false, false, false, false, false, false, false, false, false, false, false, false, false] rfl rfl (one_of HT_.out (by kernel_rfl)) (by decide) (fun K hK => ?_)
                                      have hcv53 := Kd.C_string (c := c51) (P := Try.prog) Try.underlying31 Try.underlying5 Try.underlying9 (Kd.F_now (Kd.V_at HO192.out).2.2)
                                      refine value_ (w1 := ?_) (v := ?_) (by rfl) rfl ?_ ?_
                                      rotate_left 2
                                      · go_simp
                                        constructor
                                        · rfl
                                        · rfl
                                      clear hcv53
                                      refine hK.out _ _ (by first | exact hHeld | exact below_step hHeld hHb_.out | exact pw_below_drewN hHeld _) (fun hHeld => ?_)
                                      clear hK K
                                      refine norm_ (a' := ?_) ?_ ?_
                                      rotate_left
                                      · show Act.put _ (some 107) _ = _
                                        simp only [Act.put, List.setIfInBounds_toArray, List.set_cons_zero, List.set_cons_succ, i64_w, i32_w]
                                        rfl
                                      refine pure_ (i := 14) (N := some 108) (v := ?_) (a' := ?_) #[true, true, true, true, true, true, true, true, true, true, true, true, true, true, true, false, false, false, false, false, false, false, false, false, false, false, false, false, false, false, false, false, false, false, false, false, false, false, false] rfl rfl (any_of HT_.out (by kernel_rfl)) (fun _ _ _ h => h) (Or.inl ⟨by rfl, ?_⟩) ?_ ?_
                                      rotate_left
                                      · intro w'
                                        go_simp
                                        with_reducible rfl
                                      rotate_left
                                      · simp only [Act.put, List.setIfInBounds_toArray, List.set_cons_zero, List.set_cons_succ, i64_w, i32_w]
                                        rfl
                                      refine pure_ (i := 15) (N := some 109) (v := ?_) (a' := ?_) #[true, true, true, true, true, true, true, true, true, true, true, true, true, true, true, true, false, false, false, false, false, false, false, false, false, false, false, false, false, false, false, false, false, false, false, false, false, false, false] rfl rfl (any_of HT_.out (by kernel_rfl)) (fun _ _ _ h => h) (Or.inl ⟨by rfl, ?_⟩) ?_ ?_
                                      rotate_left
                                      · intro w'
                                        go_simp
                                        with_reducible rfl
                                      rotate_left
                                      · simp only [Act.put, List.setIfInBounds_toArray, List.set_cons_zero, List.set_cons_succ, i64_w, i32_w]
                                        rfl
                                      refine pure_ (i := 16) (N := some 110) (v := ?_) (a' := ?_) #[true, true, true, true, true, true, true, true, true, true, true, true, true, true, true, true, true, false, false, false, false, false, false, false, false, false, false, false, false, false, false, false, false, false, false, false, false, false, false] rfl rfl (any_of HT_.out (by kernel_rfl)) (fun _ _ _ h => h) (Or.inl ⟨by rfl, ?_⟩) ?_ ?_
                                      rotate_left
                                      · intro w'
                                        go_simp
                                        with_reducible rfl
                                      rotate_left
                                      · simp only [Act.put, List.setIfInBounds_toArray, List.set_cons_zero, List.set_cons_succ, i64_w, i32_w]
                                        rfl
                                      refine pure_ (i := 17) (N := some 111) (v := ?_) (a' := ?_) #[true, true, true, true, true, true, true, true, true, true, true, true, true, true, true, true, true, true, false, false, false, false, false, false, false, false, false, false, false, false, false, false, false, false, false, false, false, false, false] rfl rfl (any_of HT_.out (by kernel_rfl)) (fun _ _ _ h => h) (Or.inl ⟨by rfl, ?_⟩) ?_ ?_
                                      rotate_left
                                      · intro w'
                                        go_simp
                                        with_reducible rfl
                                      rotate_left
                                      · simp only [Act.put, List.setIfInBounds_toArray, List.set_cons_zero, List.set_cons_succ, i64_w, i32_w]
                                        rfl
                                      refine pure_ (i := 18) (N := some 112) (v := ?_) (a' := ?_) #[true, true, true, true, true, true, true, true, true, true, true, true, true, true, true, true, true, true, true, false, false, false, false, false, false, false, false, false, false, false, false, false, false, false, false, false, false, false, false] rfl rfl (any_of HT_.out (by kernel_rfl)) (fun _ _ _ h => h) (Or.inl ⟨by rfl, ?_⟩) ?_ ?_
                                      rotate_left
                                      · intro w'
                                        go_simp
                                        with_reducible rfl
                                      rotate_left
                                      · simp only [Act.put, List.setIfInBounds_toArray, List.set_cons_zero, List.set_cons_succ, i64_w, i32_w]
                                        rfl
                                      refine pure_ (i := 19) (N := some 113) (v := ?_) (a' := ?_) #[true, true, true, true, true, true, true, true, true, true, true, true, true, true, true, true, true, true, true, true, false, false, false, false, false, false, false, false, false, false, false, false, false, false, false, false, false, false, false] rfl rfl (any_of HT_.out (by kernel_rfl)) (fun _ _ _ h => h) (Or.inl ⟨by rfl, ?_⟩) ?_ ?_
                                      rotate_left
                                      · intro w'
                                        go_simp
                                        with_reducible rfl
                                      rotate_left
                                      · simp only [Act.put, List.setIfInBounds_toArray, List.set_cons_zero, List.set_cons_succ, i64_w, i32_w]
                                        rfl
                                      refine pure_ (i := 20) (N := some 114) (v := ?_) (a' := ?_) #[true, true, true, true, true, true, true, true, true, true, true, true, true, true, true, true, true, true, true, true, true, false, false, false, false, false, false, false, false, false, false, false, false, false, false, false, false, false, false] rfl rfl (any_of HT_.out (by kernel_rfl)) (fun _ _ _ h => h) (Or.inl ⟨by rfl, ?_⟩) ?_ ?_
                                      rotate_left
                                      · intro w'
                                        go_simp
                                        with_reducible rfl
                                      rotate_left
                                      · simp only [Act.put, List.setIfInBounds_toArray, List.set_cons_zero, List.set_cons_succ, i64_w, i32_w]
                                        rfl
                                      refine pure_ (i := 21) (N := some 115) (v := ?_) (a' := ?_) #[true, true, true, true, true, true, true, true, true, true, true, true, true, true, true, true, true, true, true, true, true, true, false, false, false, false, false, false, false, false, false, false, false, false, false, false, false, false, false] rfl rfl (any_of HT_.out (by kernel_rfl)) (fun _ _ _ h => h) (Or.inl ⟨by rfl, ?_⟩) ?_ ?_
                                      rotate_left
                                      · intro w'
                                        go_simp
                                        with_reducible rfl
                                      rotate_left
                                      · simp only [Act.put, List.setIfInBounds_toArray, List.set_cons_zero, List.set_cons_succ, i64_w, i32_w]
                                        rfl
                                      refine pure_ (i := 22) (N := some 116) (v := ?_) (a' := ?_) #[true, true, true, true, true, true, true, true, true, true, true, true, true, true, true, true, true, true, true, true, true, true, true, false, false, false, false, false, false, false, false, false, false, false, false, false, false, false, false] rfl rfl (any_of HT_.out (by kernel_rfl)) (fun _ _ _ h => h) (Or.inl ⟨by rfl, ?_⟩) ?_ ?_
                                      rotate_left
                                      · intro w'
                                        go_simp
                                        with_reducible rfl
                                      rotate_left
                                      · simp only [Act.put, List.setIfInBounds_toArray, List.set_cons_zero, List.set_cons_succ, i64_w, i32_w]
                                        rfl
                                      refine pure_ (i := 23) (N := some 117) (v := ?_) (a' := ?_) #[true, true, true, true, true, true, true, true, true, true, true, true, true, true, true, true, true, true, true, true, true, true, true, true, false, false, false, false, false, false, false, false, false, false, false, false, false, false, false] rfl rfl (any_of HT_.out (by kernel_rfl)) (fun _ _ _ h => h) (Or.inl ⟨by rfl, ?_⟩) ?_ ?_
                                      rotate_left
                                      · intro w'
                                        go_simp
                                        with_reducible rfl
                                      rotate_left
                                      · simp only [Act.put, List.setIfInBounds_toArray, List.set_cons_zero, List.set_cons_succ, i64_w, i32_w]
                                        rfl
                                      refine pure_ (i := 24) (N := some 118) (v := ?_) (a' := ?_) #[true, true, true, true, true, true, true, true, true, true, true, true, true, true, true, true, true, true, true, true, true, true, true, true, true, false, false, false, false, false, false, false, false, false, false, false, false, false, false] rfl rfl (any_of HT_.out (by kernel_rfl)) (fun _ _ _ h => h) (Or.inl ⟨by rfl, ?_⟩) ?_ ?_
                                      rotate_left
                                      · intro w'
                                        go_simp
                                        with_reducible rfl
                                      rotate_left
                                      · simp only [Act.put, List.setIfInBounds_toArray, List.set_cons_zero, List.set_cons_succ, i64_w, i32_w]
                                        rfl
                                      refine pure_ (i := 25) (N := some 119) (v := ?_) (a' := ?_) #[true, true, true, true, true, true, true, true, true, true, true, true, true, true, true, true, true, true, true, true, true, true, true, true, true, true, false, false, false, false, false, false, false, false, false, false, false, false, false] rfl rfl (any_of HT_.out (by kernel_rfl)) (fun _ _ _ h => h) (Or.inl ⟨by rfl, ?_⟩) ?_ ?_
                                      rotate_left
                                      · intro w'
                                        go_simp
                                        with_reducible rfl
                                      rotate_left
                                      · simp only [Act.put, List.setIfInBounds_toArray, List.set_cons_zero, List.set_cons_succ, i64_w, i32_w]
                                        rfl
                                      refine pure_ (i := 26) (N := some 120) (v := ?_) (a' := ?_) #[true, true, true, true, true, true, true, true, true, true, true, true, true, true, true, true, true, true, true, true, true, true, true, true, true, true, true, false, false, false, false, false, false, false, false, false, false, false, false] rfl rfl (any_of HT_.out (by kernel_rfl)) (fun _ _ _ h => h) (Or.inl ⟨by rfl, ?_⟩) ?_ ?_
                                      rotate_left
                                      · intro w'
                                        go_simp
                                        with_reducible rfl
                                      rotate_left
                                      · simp only [Act.put, List.setIfInBounds_toArray, List.set_cons_zero, List.set_cons_succ, i64_w, i32_w]
                                        rfl
                                      refine pure_ (i := 27) (N := some 121) (v := ?_) (a' := ?_) #[true, true, true, true, true, true, true, true, true, true, true, true, true, true, true, true, true, true, true, true, true, true, true, true, true, true, true, true, false, false, false, false, false, false, false, false, false, false, false] rfl rfl (any_of HT_.out (by kernel_rfl)) (fun _ _ _ h => h) (Or.inl ⟨by rfl, ?_⟩) ?_ ?_
                                      rotate_left
                                      · intro w'
                                        go_simp
                                        with_reducible rfl
                                      rotate_left
                                      · simp only [Act.put, List.setIfInBounds_toArray, List.set_cons_zero, List.set_cons_succ, i64_w, i32_w]
                                        rfl
                                      refine pure_ (i := 28) (N := some 122) (v := ?_) (a' := ?_) #[true, true, true, true, true, true, true, true, true, true, true, true, true, true, true, true, true, true, true, true, true, true, true, true, true, true, true, true, true, false, false, false, false, false, false, false, false, false, false] rfl rfl (any_of HT_.out (by kernel_rfl)) (fun _ _ _ h => h) (Or.inl ⟨by rfl, ?_⟩) ?_ ?_
                                      rotate_left
                                      · intro w'
                                        go_simp
                                        with_reducible rfl
                                      rotate_left
                                      · simp only [Act.put, List.setIfInBounds_toArray, List.set_cons_zero, List.set_cons_succ, i64_w, i32_w]
                                        rfl
                                      refine pure_ (i := 29) (N := some 123) (v := ?_) (a' := ?_) #[true, true, true, true, true, true, true, true, true, true, true, true, true, true, true, true, true, true, true, true, true, true, true, true, true, true, true, true, true, true, false, false, false, false, false, false, false, false, false] rfl rfl (any_of HT_.out (by kernel_rfl)) (fun _ _ _ h => h) (Or.inl ⟨by rfl, ?_⟩) ?_ ?_
                                      rotate_left
                                      · intro w'
                                        go_simp
                                        with_reducible rfl
                                      rotate_left
                                      · simp only [Act.put, List.setIfInBounds_toArray, List.set_cons_zero, List.set_cons_succ, i64_w, i32_w]
                                        rfl
                                      refine take_ (i := 30) (N := some 124) (v := ?_) (a' := ?_) #[true, true, true, true, true, true, true, true, true, true, true, true, true, true, true, true, true, true, true, true, true, true, true, true, true, true, true, true, true, true, true, false, false, false, false, false, false, false, false] rfl rfl (take_ofW HT_.out HW_.out (by kernel_rfl)) (fun _ _ _ h => h) (Or.inl ⟨by rfl, ?_⟩) hHeld ?_ ?_
                                      rotate_left
                                      · intro w' hb_
                                        have hcvx_ := own_string (P := Try.prog) Try.underlying31 Try.underlying5 Try.underlying9 (Kd.own_of_R (Kd.R_below HO187.out hb_))
                                        go_simp
                                        with_reducible rfl
                                      rotate_left
                                      · simp only [Act.put, List.setIfInBounds_toArray, List.set_cons_zero, List.set_cons_succ, i64_w, i32_w]
                                        rfl
                                      refine pure_ (i := 31) (N := some 125) (v := ?_) (a' := ?_) #[true, true, true, true, true, true, true, true, true, true, true, true, true, true, true, true, true, true, true, true, true, true, true, true, true, true, true, true, true, true, true, true, false, false, false, false, false, false, false] rfl rfl (any_of HT_.out (by kernel_rfl)) (fun _ _ _ h => h) (Or.inl ⟨by rfl, ?_⟩) ?_ ?_
                                      rotate_left
                                      · intro w'
                                        go_simp
                                        with_reducible rfl
                                      rotate_left
                                      · simp only [Act.put, List.setIfInBounds_toArray, List.set_cons_zero, List.set_cons_succ, i64_w, i32_w]
                                        rfl
                                      refine take_ (i := 32) (N := some 126) (v := ?_) (a' := ?_) #[true, true, true, true, true, true, true, true, true, true, true, true, true, true, true, true, true, true, true, true, true, true, true, true, true, true, true, true, true, true, true, true, true, false, false, false, false, false, false] rfl rfl (take_ofW HT_.out HW_.out (by kernel_rfl)) (fun _ _ _ h => h) (Or.inl ⟨by rfl, ?_⟩) hHeld ?_ ?_
                                      rotate_left
                                      · intro w' hb_
                                        have hcvx_ := own_string (P := Try.prog) Try.underlying31 Try.underlying5 Try.underlying9 (Kd.own_of_R (Kd.R_below HO157.out hb_))
                                        go_simp
                                        with_reducible rfl
                                      rotate_left
                                      · simp only [Act.put, List.setIfInBounds_toArray, List.set_cons_zero, List.set_cons_succ, i64_w, i32_w]
                                        rfl
                                      refine pure_ (i := 33) (N := some 127) (v := ?_) (a' := ?_) #[true, true, true, true, true, true, true, true, true, true, true, true, true, true, true, true, true, true, true, true, true, true, true, true, true, true, true, true, true, true, true, true, true, true, false, false, false, false, false] rfl rfl (any_of HT_.out (by kernel_rfl)) (fun _ _ _ h => h) (Or.inl ⟨by rfl, ?_⟩) ?_ ?_
                                      rotate_left
                                      · intro w'
                                        go_simp
                                        with_reducible rfl
                                      rotate_left
                                      · simp only [Act.put, List.setIfInBounds_toArray, List.set_cons_zero, List.set_cons_succ, i64_w, i32_w]
                                        rfl
                                      refine pure_ (i := 34) (N := some 128) (v := ?_) (a' := ?_) #[true, true, true, true, true, true, true, true, true, true, true, true, true, true, true, true, true, true, true, true, true, true, true, true, true, true, true, true, true, true, true, true, true, true, true, false, false, false, false] rfl rfl (any_of HT_.out (by kernel_rfl)) (fun _ _ _ h => h) (Or.inl ⟨by rfl, ?_⟩) ?_ ?_
                                      rotate_left
                                      · intro w'
                                        go_simp
                                        with_reducible rfl
                                      rotate_left
                                      · simp only [Act.put, List.setIfInBounds_toArray, List.set_cons_zero, List.set_cons_succ, i64_w, i32_w]
                                        rfl
                                      refine pure_ (i := 35) (N := some 129) (v := ?_) (a' := ?_) #[true, true, true, true, true, true, true, true, true, true, true, true, true, true, true, true, true, true, true, true, true, true, true, true, true, true, true, true, true, true, true, true, true, true, true, true, false, false, false] rfl rfl (any_of HT_.out (by kernel_rfl)) (fun _ _ _ h => h) (Or.inl ⟨by rfl, ?_⟩) ?_ ?_
                                      rotate_left
                                      · intro w'
                                        go_simp
                                        with_reducible rfl
                                      rotate_left
                                      · simp only [Act.put, List.setIfInBounds_toArray, List.set_cons_zero, List.set_cons_succ, i64_w, i32_w]
                                        rfl
                                      refine one_ (i := 36) (N := some 130) #[true, true, true, true, true, true, true, true, true, true, true, true, true, true, true, true, true, true, true, true, true, true, true, true, true, true, true, true, true, true, true, true, true, true, true, true, true, false, false] rfl rfl (one_of HT_.out (by kernel_rfl)) (by decide) (fun K hK => ?_)
                                      refine goes_ Try.func11 (by kernel_rfl) rfl #[] (by rfl) rfl rfl (by (try simp only [List.map_toArray, List.map_cons, List.map_nil]); first | done | rfl | (simp only [List.length_drop, List.length_take]; rfl)) ?_
                                      with_reducible refine (remoralaw08_awake.calls  t193 _ A33.out).mono ?_
                                      rintro e w57 ⟨rfl, hb⟩
                                      refine ⟨_, rfl, ?_⟩
                                      (try have hHb_ := Aside0.mk hb)
                                      have n0_ := Aside0.mk (Kd.R_below (by (with_reducible repeat (first | apply Kd.R_alloc | apply Kd.R_drewN | apply Kd.R_drew)); exact HO157.out) hb)
                                      have n1_ := Aside0.mk (Kd.N_below (by (with_reducible repeat (first | apply Kd.N_alloc | apply Kd.N_drewN | apply Kd.N_drew)); exact HO162.out) hb)
                                      have n2_ := Aside0.mk (Kd.R_below (by (with_reducible repeat (first | apply Kd.R_alloc | apply Kd.R_drewN | apply Kd.R_drew)); exact HO166.out) hb)
                                      have n3_ := Aside0.mk (Kd.N_below (by (with_reducible repeat (first | apply Kd.N_alloc | apply Kd.N_drewN | apply Kd.N_drew)); exact HO170.out) hb)
                                      have n4_ := Aside0.mk (Kd.N_below (by (with_reducible repeat (first | apply Kd.N_alloc | apply Kd.N_drewN | apply Kd.N_drew)); exact HO174.out) hb)
                                      have n5_ := Aside0.mk (Kd.N_below (by (with_reducible repeat (first | apply Kd.N_alloc | apply Kd.N_drewN | apply Kd.N_drew)); exact HO183.out) hb)
                                      have n6_ := Aside0.mk (Kd.R_below (by (with_reducible repeat (first | apply Kd.R_alloc | apply Kd.R_drewN | apply Kd.R_drew)); exact HO187.out) hb)
                                      have n7_ := Aside0.mk (Kd.V_below (by (with_reducible repeat (first | apply Kd.V_alloc | apply Kd.V_drewN | apply Kd.V_drew)); exact HO192.out) hb)
                                      have n8_ := Aside0.mk (blk_below (g := gb151) (o := .cells #[.int .u16 a2_0, .int .u16 a2_1] 46 (0, 0)) (by (with_reducible repeat (first | refine blk_drewN ?_ _ | refine blk_drew ?_ | refine blk_alloc ?_ _)); exact BK151.out) hb)
                                      have n9_ := Aside0.mk (below_step (by repeat (first | (with_reducible first | exact HB.out | apply below_alloc | apply pw_below_drewN | apply below_drew1 | refine below_set ?_ GE151.out) | exact HB.out)) hb)
                                      clear HO157
                                      clear HO162
                                      clear HO166
                                      clear HO170
                                      clear HO174
                                      clear HO183
                                      clear HO187
                                      clear HO192
                                      clear BK151
                                      clear HB
                                      have HO157 := n0_
                                      have HO162 := n1_
                                      have HO166 := n2_
                                      have HO170 := n3_
                                      have HO174 := n4_
                                      have HO183 := n5_
                                      have HO187 := n6_
                                      have HO192 := n7_
                                      have BK151 := n8_
                                      have HB := n9_
                                      clear n0_ n1_ n2_ n3_ n4_ n5_ n6_ n7_ n8_ n9_
                                      (try clear hb)
                                      (try clear hb2)
                                      (try clear hk)
                                      (try clear hi)
                                      refine hK.out _ _ (by first | exact hHeld | exact below_step hHeld hHb_.out | exact pw_below_drewN hHeld _) (fun hHeld => ?_)
                                      clear hK K
                                      refine norm_ (a' := ?_) ?_ ?_
                                      rotate_left
                                      · show Act.put _ (some 130) _ = _
                                        simp only [Act.put, List.setIfInBounds_toArray, List.set_cons_zero, List.set_cons_succ, i64_w, i32_w]
                                        rfl
                                      refine pure_ (i := 37) (N := some 131) (v := ?_) (a' := ?_) #[true, true, true, true, true, true, true, true, true, true, true, true, true, true, true, true, true, true, true, true, true, true, true, true, true, true, true, true, true, true, true, true, true, true, true, true, true, true, false] rfl rfl (any_of HT_.out (by kernel_rfl)) (fun _ _ _ h => h) (Or.inl ⟨by rfl, ?_⟩) ?_ ?_
                                      rotate_left
                                      · intro w'
                                        go_simp
                                        with_reducible rfl
                                      rotate_left
                                      · simp only [Act.put, List.setIfInBounds_toArray, List.set_cons_zero, List.set_cons_succ, i64_w, i32_w]
                                        rfl
                                      refine pure_ (i := 38) (N := some 6) (v := ?_) (a' := ?_) #[true, true, true, true, true, true, true, true, true, true, true, true, true, true, true, true, true, true, true, true, true, true, true, true, true, true, true, true, true, true, true, true, true, true, true, true, true, true, true] rfl rfl (any_of HT_.out (by kernel_rfl)) (fun _ _ _ h => h) (Or.inl ⟨by rfl, ?_⟩) ?_ ?_
                                      rotate_left
                                      · intro w'
                                        go_simp
                                        with_reducible rfl
                                      rotate_left
                                      · simp only [Act.put, List.setIfInBounds_toArray, List.set_cons_zero, List.set_cons_succ, i64_w, i32_w]
                                        rfl
                                      refine done_ (done_of HT_.out (by kernel_rfl)) ?_
                                      try go_wp2
                                      go_ret
                                      exact ⟨by first | rfl | (simp [errW_none, errW_some] <;> rfl) | (simp only [← hji24]; first | rfl | (simp [errW_none, errW_some] <;> rfl)) | (simp [*, errW_none, errW_some] <;> rfl), by repeat (first | (with_reducible first | exact HB.out | apply below_alloc | apply pw_below_drewN | apply below_drew1 | refine below_set ?_ GE151.out) | exact HB.out)⟩
                                    · rw [if_neg c32] at H
                                      have c32b0 : ((strOfNums t184).toList == (strOfNums t154).toList) = false := beq_eq_false_iff_ne.mpr c32
                                      have c32b1 : ((strOfNums t184).toList != (strOfNums t154).toList) = true := bne_iff_ne.mpr c32
                                      exact absurd H (by simp)
                                  · rw [if_neg c31] at H
                                    have c31b0 : (t185 == 0) = false := beq_eq_false_iff_ne.mpr c31
                                    have c31b1 : (t185 != 0) = true := bne_iff_ne.mpr c31
                                    exact absurd H (by simp)
                                · rw [if_neg c30] at H
                                  have c30b0 : (t172 == 0) = false := beq_eq_false_iff_ne.mpr c30
                                  have c30b1 : (t172 != 0) = true := bne_iff_ne.mpr c30
                                  exact absurd H (by simp)
                              · rw [if_neg c29] at H
                                have c29b0 : (t168 == 0) = false := beq_eq_false_iff_ne.mpr c29
                                have c29b1 : (t168 != 0) = true := bne_iff_ne.mpr c29
                                exact absurd H (by simp)
                            · rw [if_neg c28] at H
                              have c28b0 : ((strOfNums t163).toList == (strOfNums y188).toList) = false := beq_eq_false_iff_ne.mpr c28
                              have c28b1 : ((strOfNums t163).toList != (strOfNums y188).toList) = true := bne_iff_ne.mpr c28
                              exact absurd H (by simp)
                          · rw [if_neg c27] at H
                            exact absurd H (by simp)
                        · rw [if_neg c26] at H
                          exact absurd H (by simp)
                      · rw [if_neg c25] at H
                        exact absurd H (by simp)
                    · rw [if_neg c23] at H
                      have c23b0 : (t164 == 0) = false := beq_eq_false_iff_ne.mpr c23
                      have c23b1 : (t164 != 0) = true := bne_iff_ne.mpr c23
                      exact absurd H (by simp)
                  · rw [if_neg c22] at H
                    have c22b0 : (t160 == 0) = false := beq_eq_false_iff_ne.mpr c22
                    have c22b1 : (t160 != 0) = true := bne_iff_ne.mpr c22
                    exact absurd H (by simp)
                · rw [if_neg c20] at H
                  exact absurd H (by simp)
              · rw [if_neg c19] at H
                exact absurd H (by simp)
        · rw [if_neg c12] at H
          have c12b0 : (t155 == 0) = false := beq_eq_false_iff_ne.mpr c12
          have c12b1 : (t155 != 0) = true := bne_iff_ne.mpr c12
          replace H := Option.bind_eq_some_iff.mp H
          obtain ⟨t158, A580, H⟩ := H
          replace H : (some t158) = some r := H
          have A58 := Aside0.mk A580
          clear A580
          obtain rfl := Option.some.inj H
          go_wp2_with (first | ((with_reducible refine gate_callee (f := 18) rfl ?_); refine goesL_ (some 33) rfl rfl Try.func18 (by kernel_rfl) rfl #[.slice A0 l0.length c0, .slice A1 l1.length c1] rfl (by (try simp only [List.map_toArray, List.map_cons, List.map_nil]); first | done | rfl | (simp only [List.length_drop, List.length_take]; rfl)) ?_; (with_reducible refine (delta_Apply.calls kj3 _ _ l0 _ _ l1 t154 t155 _ ?side1 ?side2 ?side3 ?side4 A11.out).mono ?_); (case side1 => repeat (first | exact (Kd.C_below HR0.out HB.out) | (with_reducible refine Kd.C_alloc ?_ _) | (with_reducible refine Kd.C_drewN ?_ _) | (with_reducible refine Kd.C_drew ?_))); (case side2 => exact HC0.out); (case side3 => repeat (first | exact (Kd.C_below HR1.out HB.out) | (with_reducible refine Kd.C_alloc ?_ _) | (with_reducible refine Kd.C_drewN ?_ _) | (with_reducible refine Kd.C_drew ?_))); (case side4 => exact HC1.out); rintro e w59 ⟨v156, rfl, ho0, hb⟩; refine ⟨_, rfl, ?_⟩; have n0_ := Aside0.mk (Kd.R_lower ho0 (below_size (by repeat (first | (with_reducible first | exact HB.out | apply below_alloc | apply pw_below_drewN | apply below_drew1 | refine below_set ?_ GE151.out) | exact HB.out)))); have n1_ := Aside0.mk (blk_below (g := gb151) (o := .cells #[.int .u16 a2_0, .int .u16 a2_1] 46 (0, 0)) (by (with_reducible repeat (first | refine blk_drewN ?_ _ | refine blk_drew ?_ | refine blk_alloc ?_ _)); exact BK151.out) hb); have n2_ := Aside0.mk (below_step (by repeat (first | (with_reducible first | exact HB.out | apply below_alloc | apply pw_below_drewN | apply below_drew1 | refine below_set ?_ GE151.out) | exact HB.out)) hb); clear BK151; clear HB; have HO157 := n0_; have BK151 := n1_; have HB := n2_; clear n0_ n1_ n2_; (try clear hb); (try clear hb2); (try clear hk); (try clear hi); (try clear ho0)) | ((with_reducible refine gate_callee (f := 11) rfl ?_); refine goesL_ (some 38) rfl rfl Try.func11 (by kernel_rfl) rfl #[] rfl (by (try simp only [List.map_toArray, List.map_cons, List.map_nil]); first | done | rfl | (simp only [List.length_drop, List.length_take]; rfl)) ?_; (with_reducible refine (remoralaw08_awake.calls  t158 _ A58.out).mono ?_); rintro e w60 ⟨rfl, hb⟩; refine ⟨_, rfl, ?_⟩; have n0_ := Aside0.mk (Kd.R_below (by (with_reducible repeat (first | apply Kd.R_alloc | apply Kd.R_drewN | apply Kd.R_drew)); exact HO157.out) hb); have n1_ := Aside0.mk (blk_below (g := gb151) (o := .cells #[.int .u16 a2_0, .int .u16 a2_1] 46 (0, 0)) (by (with_reducible repeat (first | refine blk_drewN ?_ _ | refine blk_drew ?_ | refine blk_alloc ?_ _)); exact BK151.out) hb); have n2_ := Aside0.mk (below_step (by repeat (first | (with_reducible first | exact HB.out | apply below_alloc | apply pw_below_drewN | apply below_drew1 | refine below_set ?_ GE151.out) | exact HB.out)) hb); clear HO157; clear BK151; clear HB; have HO157 := n0_; have BK151 := n1_; have HB := n2_; clear n0_ n1_ n2_; (try clear hb); (try clear hb2); (try clear hk); (try clear hi)))
          go_ret
          exact ⟨by first | rfl | (simp [errW_none, errW_some] <;> rfl) | (simp [*, errW_none, errW_some] <;> rfl), by repeat (first | (with_reducible first | exact HB.out | apply below_alloc | apply pw_below_drewN | apply below_drew1 | refine below_set ?_ GE151.out) | exact HB.out)⟩


/-- THE ONE PURE STATEMENT of remoralaw08_DeltaCuts. -/
def remoralaw08_DeltaCuts.Pure : Prop := ∀ (l0 : List Int) (l1 : List (S40)) (a2_0 : Int) (a2_1 : Int), (l0.length ≤ maxLen ∧ ∀ q0_ ∈ l0, (Lit.int .u8 q0_).wf = true) → l0.length * 1 ≤ 140737488351232 → (l1.length ≤ maxLen ∧ ∀ q0_ ∈ l1, ((Lit.int .i64 q0_.f0).wf = true ∧ ((Lit.int .i64 q0_.f1).wf = true ∧ (q0_.f2.length ≤ maxLen ∧ ∀ q1_ ∈ q0_.f2, (Lit.int .u8 q1_).wf = true)))) → l1.length * 40 ≤ 140737488351232 → (Lit.int .u16 a2_0).wf = true → (Lit.int .u16 a2_1).wf = true → ∃ k, remoralaw08_DeltaCuts.f k l0 l1 a2_0 a2_1 = some true

end Go.Proofs.Ytifmajnhcbicnaa.PDeltaCuts
