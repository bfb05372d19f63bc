-- Written by a program of this session (the kit's printer with hand-written contracts among its functions).
import Derived.Test.YtffiakioddhicaaPShaTextsx0
import Derived.Test.YtffiakioddhicaaPShaTextsx1
namespace Go.Proofs.Ytffiakioddhicaa.PShaTexts
open Go.RowKit Go.Proofs.YtffiakioddhicaaW.PrintWords Go.Proofs.YtffiakioddhicaaW.PrintLast Go.Proofs.YtffiakioddhicaaW.PrintMore
attribute [local go_sem] max2_int min2_int max_two min_two max_three min_three max_four min_four   -- for this text's walks alone
set_option linter.unusedVariables false
set_option linter.unusedSimpArgs false

/-! ### remoraref03_Parse: function 6 -/
def remoraref03_Parse.l0 : Nat → ByteArray → List Int → Int → Option (ByteArray × Int)
  | 0, _, _, _ => none
  | k + 1, x0, x4, x5 => if x5 < 64 then (if 0 ≤ x5 then (if x5 < (x0.size : Int) then ((remoraref03_digit.f k (bt x0 x5)).bind fun t104 => (if 0 ≤ (wrap64 (x5 + 1)) then (if (wrap64 (x5 + 1)) < (x0.size : Int) then ((remoraref03_digit.f k (bt x0 (wrap64 (x5 + 1)))).bind fun t105 => (if t104 < 0 then (some ((⟨#[]⟩ : ByteArray), 5)) else (if t105 < 0 then (some ((⟨#[]⟩ : ByteArray), 5)) else (if x4.length < 140737488355328 then (remoraref03_Parse.l0 k x0 (x4 ++ [(wrap64 ((wrap64 (16 * t104)) + t105)) % 256]) (wrap64 (x5 + 2))) else (none))))) else (none)) else (none))) else (none)) else (none)) else (some (strOfNums x4, 0))
def remoraref03_Parse.f (k : Nat) (a0 : ByteArray) : Option (ByteArray × Int) := if (a0.size : Int) = 64 then (if 32 ≤ 281474976710656 then (remoraref03_Parse.l0 k a0 (List.replicate 0 0) 0) else (none)) else (some ((⟨#[]⟩ : ByteArray), 5))
theorem remoraref03_Parse.mono_l : ∀ k, (∀ y0 y1 y2, LeO (remoraref03_Parse.l0 k y0 y1 y2) (remoraref03_Parse.l0 (k + 1) y0 y1 y2))
  | 0 => fun _ _ _ r h => by simp [remoraref03_Parse.l0] at h
  | k + 1 => by
    have ih0 := remoraref03_Parse.mono_l k
    · intro y0 y1 y2
      unfold remoraref03_Parse.l0
      repeat' first
      | (with_reducible exact ih0 _ _ _)
      | (with_reducible exact remoraref03_digit.mono _ _)
      | (with_reducible exact LeO.refl _)
      | (with_reducible exact LeO.none _)
      | (with_reducible refine LeO.ite ?_ ?_)
      | (with_reducible refine LeO.bind ?_ (fun _ => ?_))
      | exact ih0 _ _ _
      | exact remoraref03_digit.mono _ _
      | exact LeO.none _
      | refine LeO.ite ?_ ?_
      | refine LeO.bind ?_ (fun _ => ?_)
theorem remoraref03_Parse.mono : ∀ a0 k, LeO (remoraref03_Parse.f k a0) (remoraref03_Parse.f (k + 1) a0) := by
  intro a0 k
  have ih0 := remoraref03_Parse.mono_l k
  unfold remoraref03_Parse.f
  repeat' first
      | (with_reducible exact ih0 _ _ _)
      | (with_reducible exact remoraref03_digit.mono _ _)
      | (with_reducible exact LeO.refl _)
      | (with_reducible exact LeO.none _)
      | (with_reducible refine LeO.ite ?_ ?_)
      | (with_reducible refine LeO.bind ?_ (fun _ => ?_))
      | exact ih0 _ _ _
      | exact remoraref03_digit.mono _ _
      | exact LeO.none _
      | refine LeO.ite ?_ ?_
      | refine LeO.bind ?_ (fun _ => ?_)
set_option maxHeartbeats 8000000 in
set_option maxRecDepth 100000 in
theorem remoraref03_Parse.calls (k : Nat) (a0 : ByteArray) (r1 : ByteArray) (r2 : Int) (w : World) (h : remoraref03_Parse.f k a0 = some (r1, r2)) :
    Calls Try.prog 6 #[.string a0] w fun e w' => e = .returned (.tuple #[.string r1, .int .i64 r2]) ∧ Below w.heap.size w w' := by
  have HB := Aside0.mk (Below.refl w.heap.size w)
  have H : (if (a0.size : Int) = 64 then (if 32 ≤ 281474976710656 then (remoraref03_Parse.l0 k a0 (List.replicate 0 0) 0) else (none)) else (some ((⟨#[]⟩ : ByteArray), 5))) = some (r1, r2) := h
  clear h
  by_cases c2 : (a0.size : Int) = 64
  · rw [if_pos c2] at H
    have c2b0 : ((a0.size : Int) == 64) = true := beq_iff_eq.mpr c2
    have c2b1 : ((a0.size : Int) != 64) = false := bne_eq_false_iff_eq.mpr c2
    clear c2
    by_cases c3 : 32 ≤ 281474976710656
    · rw [if_pos c3] at H
      have c3b0 := eq_true c3
      have c3b1 : decide (32 ≤ 281474976710656) = true := decide_eq_true c3
      clear c3
      obtain ⟨y101, hy101⟩ : ∃ y_ : List Int, y_ = (List.replicate 0 0) := ⟨_, rfl⟩
      replace H : (remoraref03_Parse.l0 k a0 y101 0) = some (r1, r2) := by first | (rw [hy101]; with_reducible exact H) | (have H2_ := (Option.bind_some _ _).symm.trans H; rw [hy101]; with_reducible exact H2_) | (have H2_ := (Option.bind_some _ _).symm.trans H; with_reducible exact H2_) | with_reducible exact H | (rw [hy101]; exact H) | exact H
      have Ny101 := Aside0.mk hy101
      clear hy101
      have H' := Aside0.mk H
      clear H
      go_enter Try.func6, Try.ntmps6
      go_wp2_with (first | ((with_reducible refine gate_dst (N := 11) rfl ?_); refine R_make0 (Kd.int .u8) _ 5 rfl (N := 11) rfl 28 _ _ rfl 32 rfl rfl Try.underlying28 (.int .u8 0) 1 info5 rfl (by decide) (by omega) 0 (ok := fun _ => True) (okp := fun _ => True) rfl (fun _ hk => hk) trivial (by omega) (by omega) (Below.refl _ _) (Nat.le_refl _) ?_; intro v102 w4 ho5 hb hg_ hnew_; clear hg_ hnew_; (first | rw [← Ny101.out] at ho5 | (simp only [Int.reduceToNat] at ho5; rw [← Ny101.out] at ho5)); have n0_ := Aside0.mk (Kd.R_lower ho5 (below_size (by repeat (first | (with_reducible first | exact HB.out | apply below_alloc | apply pw_below_drewN | apply below_drew1) | exact HB.out)))); have n1_ := Aside0.mk (below_step (by repeat (first | (with_reducible first | exact HB.out | apply below_alloc | apply pw_below_drewN | apply below_drew1) | exact HB.out)) hb); clear HB; have HO103 := n0_; have HB := n1_; clear n0_ n1_; clear hb ho5))
      repeat (go_quiet (first | ((with_reducible refine gate_dst (N := 11) rfl ?_); refine R_make0 (Kd.int .u8) _ 5 rfl (N := 11) rfl 28 _ _ rfl 32 rfl rfl Try.underlying28 (.int .u8 0) 1 info5 rfl (by decide) (by omega) 0 (ok := fun _ => True) (okp := fun _ => True) rfl (fun _ hk => hk) trivial (by omega) (by omega) (Below.refl _ _) (Nat.le_refl _) ?_; intro v102 w4 ho5 hb hg_ hnew_; clear hg_ hnew_; (first | rw [← Ny101.out] at ho5 | (simp only [Int.reduceToNat] at ho5; rw [← Ny101.out] at ho5)); have n0_ := Aside0.mk (Kd.R_lower ho5 (below_size (by repeat (first | (with_reducible first | exact HB.out | apply below_alloc | apply pw_below_drewN | apply below_drew1) | exact HB.out)))); have n1_ := Aside0.mk (below_step (by repeat (first | (with_reducible first | exact HB.out | apply below_alloc | apply pw_below_drewN | apply below_drew1) | exact HB.out)) hb); clear HB; have HO103 := n0_; have HB := n1_; clear n0_ n1_; clear hb ho5)); try go_wp2_with (first | ((with_reducible refine gate_dst (N := 11) rfl ?_); refine R_make0 (Kd.int .u8) _ 5 rfl (N := 11) rfl 28 _ _ rfl 32 rfl rfl Try.underlying28 (.int .u8 0) 1 info5 rfl (by decide) (by omega) 0 (ok := fun _ => True) (okp := fun _ => True) rfl (fun _ hk => hk) trivial (by omega) (by omega) (Below.refl _ _) (Nat.le_refl _) ?_; intro v102 w4 ho5 hb hg_ hnew_; clear hg_ hnew_; (first | rw [← Ny101.out] at ho5 | (simp only [Int.reduceToNat] at ho5; rw [← Ny101.out] at ho5)); have n0_ := Aside0.mk (Kd.R_lower ho5 (below_size (by repeat (first | (with_reducible first | exact HB.out | apply below_alloc | apply pw_below_drewN | apply below_drew1) | exact HB.out)))); have n1_ := Aside0.mk (below_step (by repeat (first | (with_reducible first | exact HB.out | apply below_alloc | apply pw_below_drewN | apply below_drew1) | exact HB.out)) hb); clear HB; have HO103 := n0_; have HB := n1_; clear n0_ n1_; clear hb ho5)))
      go_loopg [4, 5] k (fun kq v4 v5 w' => ∃ (x4_1 : List Int) (x5_1 : Int), v5 = .int .i64 x5_1 ∧ Aside0 (remoraref03_Parse.l0 kq a0 x4_1 x5_1 = some (r1, r2)) ∧ Aside0 (kq ≤ k) ∧ Aside0 (Kd.R (Kd.int .u8) 5 w' w.heap.size (fun _ => True) v4 x4_1) ∧ Aside0 (Below w.heap.size w w'))
      case atStart => exact ⟨(y101), (0), (by first | rfl | (simp; done) | (simp [*]; done)), H', ⟨Nat.le_refl _⟩, ⟨by (with_reducible repeat (first | apply Kd.R_alloc | apply Kd.R_drewN | apply Kd.R_drew)); exact HO103.out⟩, ⟨by repeat (first | (with_reducible first | exact HB.out | apply below_alloc | apply pw_below_drewN | apply below_drew1) | exact HB.out)⟩⟩
      case round =>
        clear H'
        try clear c2
        try clear c2b0
        try clear c2b1
        try clear p2
        try clear c3
        try clear c3b0
        try clear c3b1
        obtain ⟨x4_1, x5_1, rfl, HA, HK1, HO_4, HB⟩ := hrel
        cases gk with
        | zero => exact absurd HA.out (by simp [remoraref03_Parse.l0])
        | succ k1 =>
          have H := HA.out
          clear HA
          simp only [remoraref03_Parse.l0] at H
          by_cases c6 : x5_1 < 64
          · rw [if_pos c6] at H
            have c6b0 : decide (x5_1 < 64) = true := decide_eq_true c6
            clear c6
            by_cases c7 : 0 ≤ x5_1
            · rw [if_pos c7] at H
              have c7b0 : decide (0 ≤ x5_1) = true := decide_eq_true c7
              clear c7
              by_cases c8 : x5_1 < (a0.size : Int)
              · rw [if_pos c8] at H
                have c8b0 : decide (x5_1 < (a0.size : Int)) = true := decide_eq_true c8
                clear c8
                replace H := Option.bind_eq_some_iff.mp H
                obtain ⟨t104, A100, H⟩ := H
                replace H : (if 0 ≤ (wrap64 (x5_1 + 1)) then (if (wrap64 (x5_1 + 1)) < (a0.size : Int) then ((remoraref03_digit.f k1 (bt a0 (wrap64 (x5_1 + 1)))).bind fun t105 => (if t104 < 0 then (some ((⟨#[]⟩ : ByteArray), 5)) else (if t105 < 0 then (some ((⟨#[]⟩ : ByteArray), 5)) else (if x4_1.length < 140737488355328 then (remoraref03_Parse.l0 k1 a0 (x4_1 ++ [(wrap64 ((wrap64 (16 * t104)) + t105)) % 256]) (wrap64 (x5_1 + 2))) else (none))))) else (none)) else (none)) = some (r1, r2) := H
                have A10 := Aside0.mk A100
                clear A100
                obtain ⟨ji11, hji11⟩ : ∃ j_ : Int, (wrap64 (x5_1 + 1)) = j_ := ⟨_, rfl⟩
                replace H : (if 0 ≤ (ji11) then (if (ji11) < (a0.size : Int) then ((remoraref03_digit.f k1 (bt a0 (ji11))).bind fun t105 => (if t104 < 0 then (some ((⟨#[]⟩ : ByteArray), 5)) else (if t105 < 0 then (some ((⟨#[]⟩ : ByteArray), 5)) else (if x4_1.length < 140737488355328 then (remoraref03_Parse.l0 k1 a0 (x4_1 ++ [(wrap64 ((wrap64 (16 * t104)) + t105)) % 256]) (wrap64 (x5_1 + 2))) else (none))))) else (none)) else (none)) = some (r1, r2) := by first | (rw [hji11] at H; exact H) | (simp only [hji11] at H ⊢; exact H)
                (try rw [hji11] at A10)
                have hji11w : (IntKind.i64.wrap (x5_1 + 1)) = ji11 := (i64_w _).trans hji11
                by_cases c12 : 0 ≤ (ji11)
                · rw [if_pos c12] at H
                  have c12b0 : decide (0 ≤ (ji11)) = true := decide_eq_true c12
                  clear c12
                  by_cases c13 : (ji11) < (a0.size : Int)
                  · rw [if_pos c13] at H
                    have c13b0 : decide ((ji11) < (a0.size : Int)) = true := decide_eq_true c13
                    clear c13
                    replace H := Option.bind_eq_some_iff.mp H
                    obtain ⟨t105, A150, H⟩ := H
                    replace H : (if t104 < 0 then (some ((⟨#[]⟩ : ByteArray), 5)) else (if t105 < 0 then (some ((⟨#[]⟩ : ByteArray), 5)) else (if x4_1.length < 140737488355328 then (remoraref03_Parse.l0 k1 a0 (x4_1 ++ [(wrap64 ((wrap64 (16 * t104)) + t105)) % 256]) (wrap64 (x5_1 + 2))) else (none)))) = some (r1, r2) := H
                    have A15 := Aside0.mk A150
                    clear A150
                    by_cases c16 : t104 < 0
                    · rw [if_pos c16] at H
                      have c16b0 : decide (t104 < 0) = true := decide_eq_true c16
                      clear c16
                      simp only [Option.some.injEq, Prod.mk.injEq] at H
                      obtain ⟨rfl, rfl⟩ := H
                      have p9 : 0 ≤ (x5_1 : Int) := of_decide_eq_true (by first | (with_reducible assumption) | assumption)
                      have q9 : x5_1 < (a0.size : Int) := of_decide_eq_true (by first | (with_reducible assumption) | assumption)
                      have hx9 := bt_at a0 x5_1
                      replace p9 := eq_true p9
                      replace q9 := eq_true q9
                      go_wp2_with (first | (go_at_call 12; (with_reducible refine (remoraref03_digit.calls k1 (bt a0 x5_1) t104 _ A10.out).mono ?_); rintro e w' ⟨rfl, ⟨nd, rfl⟩⟩; (try first | exact ⟨rfl, _, World.drewN_drewN _ _ _⟩ | exact ⟨rfl, _, Eq.trans (World.drewN_drewN _ _ _) (congrArg (World.drewN _) (Nat.add_assoc _ _ _))⟩); have p14 : 0 ≤ ((ji11) : Int) := of_decide_eq_true (by first | (with_reducible assumption) | assumption); have q14 : (ji11) < (a0.size : Int) := of_decide_eq_true (by first | (with_reducible assumption) | assumption); have hx14 := bt_at a0 (ji11); replace p14 := eq_true p14; replace q14 := eq_true q14) | (go_at_call 12; (with_reducible refine (remoraref03_digit.calls k1 (bt a0 (ji11)) t105 _ A15.out).mono ?_); rintro e w' ⟨rfl, ⟨nd, rfl⟩⟩; (try first | exact ⟨rfl, _, World.drewN_drewN _ _ _⟩ | exact ⟨rfl, _, Eq.trans (World.drewN_drewN _ _ _) (congrArg (World.drewN _) (Nat.add_assoc _ _ _))⟩)))
                      repeat (go_quiet (first | (go_at_call 12; (with_reducible refine (remoraref03_digit.calls k1 (bt a0 x5_1) t104 _ A10.out).mono ?_); rintro e w' ⟨rfl, ⟨nd, rfl⟩⟩; (try first | exact ⟨rfl, _, World.drewN_drewN _ _ _⟩ | exact ⟨rfl, _, Eq.trans (World.drewN_drewN _ _ _) (congrArg (World.drewN _) (Nat.add_assoc _ _ _))⟩); have p14 : 0 ≤ ((ji11) : Int) := of_decide_eq_true (by first | (with_reducible assumption) | assumption); have q14 : (ji11) < (a0.size : Int) := of_decide_eq_true (by first | (with_reducible assumption) | assumption); have hx14 := bt_at a0 (ji11); replace p14 := eq_true p14; replace q14 := eq_true q14) | (go_at_call 12; (with_reducible refine (remoraref03_digit.calls k1 (bt a0 (ji11)) t105 _ A15.out).mono ?_); rintro e w' ⟨rfl, ⟨nd, rfl⟩⟩; (try first | exact ⟨rfl, _, World.drewN_drewN _ _ _⟩ | exact ⟨rfl, _, Eq.trans (World.drewN_drewN _ _ _) (congrArg (World.drewN _) (Nat.add_assoc _ _ _))⟩))); try go_wp2_with (first | (go_at_call 12; (with_reducible refine (remoraref03_digit.calls k1 (bt a0 x5_1) t104 _ A10.out).mono ?_); rintro e w' ⟨rfl, ⟨nd, rfl⟩⟩; (try first | exact ⟨rfl, _, World.drewN_drewN _ _ _⟩ | exact ⟨rfl, _, Eq.trans (World.drewN_drewN _ _ _) (congrArg (World.drewN _) (Nat.add_assoc _ _ _))⟩); have p14 : 0 ≤ ((ji11) : Int) := of_decide_eq_true (by first | (with_reducible assumption) | assumption); have q14 : (ji11) < (a0.size : Int) := of_decide_eq_true (by first | (with_reducible assumption) | assumption); have hx14 := bt_at a0 (ji11); replace p14 := eq_true p14; replace q14 := eq_true q14) | (go_at_call 12; (with_reducible refine (remoraref03_digit.calls k1 (bt a0 (ji11)) t105 _ A15.out).mono ?_); rintro e w' ⟨rfl, ⟨nd, rfl⟩⟩; (try first | exact ⟨rfl, _, World.drewN_drewN _ _ _⟩ | exact ⟨rfl, _, Eq.trans (World.drewN_drewN _ _ _) (congrArg (World.drewN _) (Nat.add_assoc _ _ _))⟩))))
                      go_ret2
                      exact ⟨by first | rfl | (simp [errW_none, errW_some] <;> rfl) | (simp only [← hji11]; first | rfl | (simp [errW_none, errW_some] <;> rfl)) | (simp [*, errW_none, errW_some] <;> rfl), by repeat (first | (with_reducible first | exact HB.out | apply below_alloc | apply pw_below_drewN | apply below_drew1) | exact HB.out)⟩
                    · rw [if_neg c16] at H
                      have c16b0 : decide (t104 < 0) = false := decide_eq_false c16
                      clear c16
                      by_cases c17 : t105 < 0
                      · rw [if_pos c17] at H
                        have c17b0 : decide (t105 < 0) = true := decide_eq_true c17
                        clear c17
                        simp only [Option.some.injEq, Prod.mk.injEq] at H
                        obtain ⟨rfl, rfl⟩ := H
                        have p9 : 0 ≤ (x5_1 : Int) := of_decide_eq_true (by first | (with_reducible assumption) | assumption)
                        have q9 : x5_1 < (a0.size : Int) := of_decide_eq_true (by first | (with_reducible assumption) | assumption)
                        have hx9 := bt_at a0 x5_1
                        replace p9 := eq_true p9
                        replace q9 := eq_true q9
                        go_wp2_with (first | (go_at_call 12; (with_reducible refine (remoraref03_digit.calls k1 (bt a0 x5_1) t104 _ A10.out).mono ?_); rintro e w' ⟨rfl, ⟨nd, rfl⟩⟩; (try first | exact ⟨rfl, _, World.drewN_drewN _ _ _⟩ | exact ⟨rfl, _, Eq.trans (World.drewN_drewN _ _ _) (congrArg (World.drewN _) (Nat.add_assoc _ _ _))⟩); have p14 : 0 ≤ ((ji11) : Int) := of_decide_eq_true (by first | (with_reducible assumption) | assumption); have q14 : (ji11) < (a0.size : Int) := of_decide_eq_true (by first | (with_reducible assumption) | assumption); have hx14 := bt_at a0 (ji11); replace p14 := eq_true p14; replace q14 := eq_true q14) | (go_at_call 12; (with_reducible refine (remoraref03_digit.calls k1 (bt a0 (ji11)) t105 _ A15.out).mono ?_); rintro e w' ⟨rfl, ⟨nd, rfl⟩⟩; (try first | exact ⟨rfl, _, World.drewN_drewN _ _ _⟩ | exact ⟨rfl, _, Eq.trans (World.drewN_drewN _ _ _) (congrArg (World.drewN _) (Nat.add_assoc _ _ _))⟩)))
                        repeat (go_quiet (first | (go_at_call 12; (with_reducible refine (remoraref03_digit.calls k1 (bt a0 x5_1) t104 _ A10.out).mono ?_); rintro e w' ⟨rfl, ⟨nd, rfl⟩⟩; (try first | exact ⟨rfl, _, World.drewN_drewN _ _ _⟩ | exact ⟨rfl, _, Eq.trans (World.drewN_drewN _ _ _) (congrArg (World.drewN _) (Nat.add_assoc _ _ _))⟩); have p14 : 0 ≤ ((ji11) : Int) := of_decide_eq_true (by first | (with_reducible assumption) | assumption); have q14 : (ji11) < (a0.size : Int) := of_decide_eq_true (by first | (with_reducible assumption) | assumption); have hx14 := bt_at a0 (ji11); replace p14 := eq_true p14; replace q14 := eq_true q14) | (go_at_call 12; (with_reducible refine (remoraref03_digit.calls k1 (bt a0 (ji11)) t105 _ A15.out).mono ?_); rintro e w' ⟨rfl, ⟨nd, rfl⟩⟩; (try first | exact ⟨rfl, _, World.drewN_drewN _ _ _⟩ | exact ⟨rfl, _, Eq.trans (World.drewN_drewN _ _ _) (congrArg (World.drewN _) (Nat.add_assoc _ _ _))⟩))); try go_wp2_with (first | (go_at_call 12; (with_reducible refine (remoraref03_digit.calls k1 (bt a0 x5_1) t104 _ A10.out).mono ?_); rintro e w' ⟨rfl, ⟨nd, rfl⟩⟩; (try first | exact ⟨rfl, _, World.drewN_drewN _ _ _⟩ | exact ⟨rfl, _, Eq.trans (World.drewN_drewN _ _ _) (congrArg (World.drewN _) (Nat.add_assoc _ _ _))⟩); have p14 : 0 ≤ ((ji11) : Int) := of_decide_eq_true (by first | (with_reducible assumption) | assumption); have q14 : (ji11) < (a0.size : Int) := of_decide_eq_true (by first | (with_reducible assumption) | assumption); have hx14 := bt_at a0 (ji11); replace p14 := eq_true p14; replace q14 := eq_true q14) | (go_at_call 12; (with_reducible refine (remoraref03_digit.calls k1 (bt a0 (ji11)) t105 _ A15.out).mono ?_); rintro e w' ⟨rfl, ⟨nd, rfl⟩⟩; (try first | exact ⟨rfl, _, World.drewN_drewN _ _ _⟩ | exact ⟨rfl, _, Eq.trans (World.drewN_drewN _ _ _) (congrArg (World.drewN _) (Nat.add_assoc _ _ _))⟩))))
                        go_ret2
                        exact ⟨by first | rfl | (simp [errW_none, errW_some] <;> rfl) | (simp only [← hji11]; first | rfl | (simp [errW_none, errW_some] <;> rfl)) | (simp [*, errW_none, errW_some] <;> rfl), by repeat (first | (with_reducible first | exact HB.out | apply below_alloc | apply pw_below_drewN | apply below_drew1) | exact HB.out)⟩
                      · rw [if_neg c17] at H
                        have c17b0 : decide (t105 < 0) = false := decide_eq_false c17
                        clear c17
                        by_cases c18 : x4_1.length < 140737488355328
                        · rw [if_pos c18] at H
                          have LMc18 := Aside0.mk c18
                          clear c18
                          obtain ⟨y106, hy106⟩ : ∃ y_ : List Int, y_ = (x4_1 ++ [(wrap64 ((wrap64 (16 * t104)) + t105)) % 256]) := ⟨_, rfl⟩
                          replace H : (remoraref03_Parse.l0 k1 a0 y106 (wrap64 (x5_1 + 2))) = some (r1, r2) := by first | (rw [hy106]; with_reducible exact H) | (have H2_ := (Option.bind_some _ _).symm.trans H; rw [hy106]; with_reducible exact H2_) | (have H2_ := (Option.bind_some _ _).symm.trans H; with_reducible exact H2_) | with_reducible exact H | (rw [hy106]; exact H) | exact H
                          have Ny106 := Aside0.mk hy106
                          clear hy106
                          have H' := Aside0.mk H
                          clear H
                          have p9 : 0 ≤ (x5_1 : Int) := of_decide_eq_true (by first | (with_reducible assumption) | assumption)
                          have q9 : x5_1 < (a0.size : Int) := of_decide_eq_true (by first | (with_reducible assumption) | assumption)
                          have hx9 := bt_at a0 x5_1
                          replace p9 := eq_true p9
                          replace q9 := eq_true q9
                          go_wp2_with (first | (go_at_call 12; (with_reducible refine (remoraref03_digit.calls k1 (bt a0 x5_1) t104 _ A10.out).mono ?_); rintro e w' ⟨rfl, ⟨nd, rfl⟩⟩; (try first | exact ⟨rfl, _, World.drewN_drewN _ _ _⟩ | exact ⟨rfl, _, Eq.trans (World.drewN_drewN _ _ _) (congrArg (World.drewN _) (Nat.add_assoc _ _ _))⟩); have p14 : 0 ≤ ((ji11) : Int) := of_decide_eq_true (by first | (with_reducible assumption) | assumption); have q14 : (ji11) < (a0.size : Int) := of_decide_eq_true (by first | (with_reducible assumption) | assumption); have hx14 := bt_at a0 (ji11); replace p14 := eq_true p14; replace q14 := eq_true q14) | (go_at_call 12; (with_reducible refine (remoraref03_digit.calls k1 (bt a0 (ji11)) t105 _ A15.out).mono ?_); rintro e w' ⟨rfl, ⟨nd, rfl⟩⟩; (try first | exact ⟨rfl, _, World.drewN_drewN _ _ _⟩ | exact ⟨rfl, _, Eq.trans (World.drewN_drewN _ _ _) (congrArg (World.drewN _) (Nat.add_assoc _ _ _))⟩)) | ((with_reducible refine gate_builtin (b := .append) (xs := #[.tmp 31, .tmp 37]) rfl ?_); at_builtin; refine Kd.R_append (Kd.int .u8) (w0 := w) w.heap.size rfl (.tmp 31) (.tmp 37) 28 5 (.int .u8 0) 1 rfl Try.underlying28 info5 rfl (by decide) (by omega) u4 x4_1 ((wrap64 ((wrap64 (16 * t104)) + t105)) % 256) [.int .u8 ((wrap64 ((wrap64 (16 * t104)) + t105)) % 256)] (fun _ => True) (fun _ => False) rfl rfl ?aP (fun _ hk => hk.elim) ?aF ?aO ?aB ?aS ?aL ?_; (case aP => exact rfl); (case aB => exact (by repeat (first | (with_reducible first | exact HB.out | apply below_alloc | apply pw_below_drewN | apply below_drew1) | exact HB.out))); (case aF => exact (fun _ _ => trivial)); (case aO => exact (by (with_reducible repeat (first | apply Kd.R_alloc | apply Kd.R_drewN | apply Kd.R_drew)); exact HO_4.out)); (case aS => exact (below_size (by repeat (first | (with_reducible first | exact HB.out | apply below_alloc | apply pw_below_drewN | apply below_drew1) | exact HB.out)))); (case aL => have := LMc18.out; omega); intro v107 w19 ho hb hg hat; rw [← Ny106.out] at ho; have n0_ := Aside0.mk (hb); have n1_ := Aside0.mk (ho); clear HB; clear HO_4; have HB := n0_; have HO108 := n1_; clear n0_ n1_; clear ho hb hg hat))
                          repeat (go_quiet (first | (go_at_call 12; (with_reducible refine (remoraref03_digit.calls k1 (bt a0 x5_1) t104 _ A10.out).mono ?_); rintro e w' ⟨rfl, ⟨nd, rfl⟩⟩; (try first | exact ⟨rfl, _, World.drewN_drewN _ _ _⟩ | exact ⟨rfl, _, Eq.trans (World.drewN_drewN _ _ _) (congrArg (World.drewN _) (Nat.add_assoc _ _ _))⟩); have p14 : 0 ≤ ((ji11) : Int) := of_decide_eq_true (by first | (with_reducible assumption) | assumption); have q14 : (ji11) < (a0.size : Int) := of_decide_eq_true (by first | (with_reducible assumption) | assumption); have hx14 := bt_at a0 (ji11); replace p14 := eq_true p14; replace q14 := eq_true q14) | (go_at_call 12; (with_reducible refine (remoraref03_digit.calls k1 (bt a0 (ji11)) t105 _ A15.out).mono ?_); rintro e w' ⟨rfl, ⟨nd, rfl⟩⟩; (try first | exact ⟨rfl, _, World.drewN_drewN _ _ _⟩ | exact ⟨rfl, _, Eq.trans (World.drewN_drewN _ _ _) (congrArg (World.drewN _) (Nat.add_assoc _ _ _))⟩)) | ((with_reducible refine gate_builtin (b := .append) (xs := #[.tmp 31, .tmp 37]) rfl ?_); at_builtin; refine Kd.R_append (Kd.int .u8) (w0 := w) w.heap.size rfl (.tmp 31) (.tmp 37) 28 5 (.int .u8 0) 1 rfl Try.underlying28 info5 rfl (by decide) (by omega) u4 x4_1 ((wrap64 ((wrap64 (16 * t104)) + t105)) % 256) [.int .u8 ((wrap64 ((wrap64 (16 * t104)) + t105)) % 256)] (fun _ => True) (fun _ => False) rfl rfl ?aP (fun _ hk => hk.elim) ?aF ?aO ?aB ?aS ?aL ?_; (case aP => exact rfl); (case aB => exact (by repeat (first | (with_reducible first | exact HB.out | apply below_alloc | apply pw_below_drewN | apply below_drew1) | exact HB.out))); (case aF => exact (fun _ _ => trivial)); (case aO => exact (by (with_reducible repeat (first | apply Kd.R_alloc | apply Kd.R_drewN | apply Kd.R_drew)); exact HO_4.out)); (case aS => exact (below_size (by repeat (first | (with_reducible first | exact HB.out | apply below_alloc | apply pw_below_drewN | apply below_drew1) | exact HB.out)))); (case aL => have := LMc18.out; omega); intro v107 w19 ho hb hg hat; rw [← Ny106.out] at ho; have n0_ := Aside0.mk (hb); have n1_ := Aside0.mk (ho); clear HB; clear HO_4; have HB := n0_; have HO108 := n1_; clear n0_ n1_; clear ho hb hg hat)); try go_wp2_with (first | (go_at_call 12; (with_reducible refine (remoraref03_digit.calls k1 (bt a0 x5_1) t104 _ A10.out).mono ?_); rintro e w' ⟨rfl, ⟨nd, rfl⟩⟩; (try first | exact ⟨rfl, _, World.drewN_drewN _ _ _⟩ | exact ⟨rfl, _, Eq.trans (World.drewN_drewN _ _ _) (congrArg (World.drewN _) (Nat.add_assoc _ _ _))⟩); have p14 : 0 ≤ ((ji11) : Int) := of_decide_eq_true (by first | (with_reducible assumption) | assumption); have q14 : (ji11) < (a0.size : Int) := of_decide_eq_true (by first | (with_reducible assumption) | assumption); have hx14 := bt_at a0 (ji11); replace p14 := eq_true p14; replace q14 := eq_true q14) | (go_at_call 12; (with_reducible refine (remoraref03_digit.calls k1 (bt a0 (ji11)) t105 _ A15.out).mono ?_); rintro e w' ⟨rfl, ⟨nd, rfl⟩⟩; (try first | exact ⟨rfl, _, World.drewN_drewN _ _ _⟩ | exact ⟨rfl, _, Eq.trans (World.drewN_drewN _ _ _) (congrArg (World.drewN _) (Nat.add_assoc _ _ _))⟩)) | ((with_reducible refine gate_builtin (b := .append) (xs := #[.tmp 31, .tmp 37]) rfl ?_); at_builtin; refine Kd.R_append (Kd.int .u8) (w0 := w) w.heap.size rfl (.tmp 31) (.tmp 37) 28 5 (.int .u8 0) 1 rfl Try.underlying28 info5 rfl (by decide) (by omega) u4 x4_1 ((wrap64 ((wrap64 (16 * t104)) + t105)) % 256) [.int .u8 ((wrap64 ((wrap64 (16 * t104)) + t105)) % 256)] (fun _ => True) (fun _ => False) rfl rfl ?aP (fun _ hk => hk.elim) ?aF ?aO ?aB ?aS ?aL ?_; (case aP => exact rfl); (case aB => exact (by repeat (first | (with_reducible first | exact HB.out | apply below_alloc | apply pw_below_drewN | apply below_drew1) | exact HB.out))); (case aF => exact (fun _ _ => trivial)); (case aO => exact (by (with_reducible repeat (first | apply Kd.R_alloc | apply Kd.R_drewN | apply Kd.R_drew)); exact HO_4.out)); (case aS => exact (below_size (by repeat (first | (with_reducible first | exact HB.out | apply below_alloc | apply pw_below_drewN | apply below_drew1) | exact HB.out)))); (case aL => have := LMc18.out; omega); intro v107 w19 ho hb hg hat; rw [← Ny106.out] at ho; have n0_ := Aside0.mk (hb); have n1_ := Aside0.mk (ho); clear HB; clear HO_4; have HB := n0_; have HO108 := n1_; clear n0_ n1_; clear ho hb hg hat)))
                          go_roundg k1
                          case measure => have := HK1.out; omega
                          case rel => exact ⟨(y106), (wrap64 (x5_1 + 2)), (by first | rfl | (simp; done) | (simp [*]; done)), H', ⟨by have := HK1.out; omega⟩, ⟨by (with_reducible repeat (first | apply Kd.R_alloc | apply Kd.R_drewN | apply Kd.R_drew)); exact HO108.out⟩, ⟨by repeat (first | (with_reducible first | exact HB.out | apply below_alloc | apply pw_below_drewN | apply below_drew1) | exact HB.out)⟩⟩
                        · rw [if_neg c18] at H
                          exact absurd H (by simp)
                  · rw [if_neg c13] at H
                    exact absurd H (by simp)
                · rw [if_neg c12] at H
                  exact absurd H (by simp)
              · rw [if_neg c8] at H
                exact absurd H (by simp)
            · rw [if_neg c7] at H
              exact absurd H (by simp)
          · rw [if_neg c6] at H
            have c6b0 : decide (x5_1 < 64) = false := decide_eq_false c6
            clear c6
            simp only [Option.some.injEq, Prod.mk.injEq] at H
            obtain ⟨rfl, rfl⟩ := H
            have hcv20 := own_string (P := Try.prog) Try.underlying28 Try.underlying5 Try.underlying9 (Kd.own_of_R HO_4.out)
            go_wp2
            have hwi_ : ∀ n : Int, IntKind.i64.wrap n = wrap64 n := i64_w
            repeat (go_quiet (fail); try go_wp2)
            clear hwi_
            go_ret2
            exact ⟨by first | rfl | (simp [errW_none, errW_some] <;> rfl) | (simp [*, errW_none, errW_some] <;> rfl), by repeat (first | (with_reducible first | exact HB.out | apply below_alloc | apply pw_below_drewN | apply below_drew1) | exact HB.out)⟩
    · rw [if_neg c3] at H
      exact absurd H (by simp)
  · rw [if_neg c2] at H
    have c2b0 : ((a0.size : Int) == 64) = false := beq_eq_false_iff_ne.mpr c2
    have c2b1 : ((a0.size : Int) != 64) = true := bne_iff_ne.mpr c2
    simp only [Option.some.injEq, Prod.mk.injEq] at H
    obtain ⟨rfl, rfl⟩ := H
    go_enter Try.func6, Try.ntmps6
    go_wp2
    have hwi_ : ∀ n : Int, IntKind.i64.wrap n = wrap64 n := i64_w
    repeat (go_quiet (fail); try go_wp2)
    clear hwi_
    go_ret2
    exact ⟨by first | rfl | (simp [errW_none, errW_some] <;> rfl) | (simp [*, errW_none, errW_some] <;> rfl), by repeat (first | (with_reducible first | exact HB.out | apply below_alloc | apply pw_below_drewN | apply below_drew1) | exact HB.out)⟩

/-! ### sha_Text: function 7 -/
section
variable {P : Program} {ops : Array Oper} {rest : List Oper} {o : Oper} {a : Act} {Q : Exit → Act → World → Prop}
/-- 'make([]byte, 0, n)': its block. -/
theorem make_room {W : World} (hgd : o.guard = none) {N : Tmp} (hd : o.dst = some N) (t e : TypeId) (x y : Operand) (ho : o.op = .makeSlice t x y) (n : Nat) (hx : a.eval x = .int .i64 0) (hy : a.eval y = .int .i64 (n : Int)) (ht : P.underlying t = some (.slice e)) (hinfo : (P.info? e).map (fun i => (i.zero, i.size, i.bytes)) = some (some (.int .u8 0), 1, 1)) (hn : n ≤ 281474976710656)
    (h : ∀ g w1, W.heap.size = g → ArrP_ w1 g e .u8 (List.replicate n 0) → Below W.heap.size W w1 → wpList P ops Q rest (a.put o.dst (.slice (some ⟨g, 0, none⟩) 0 n)) w1) : wpList P ops Q (o :: rest) a W := by
  obtain ⟨i0, hi, hzz⟩ := Option.map_eq_some_iff.1 hinfo
  simp only [Prod.mk.injEq] at hzz
  obtain ⟨hz0, hz1, hz2⟩ := hzz
  have hr := run_make (P := P) W t e i0 (.int .u8 0) ht hi hz0 .i64 .i64 (0 : Int) (n : Int) (by omega) (by omega)
    (by rw [hz2]; omega) (by omega)
  simp only [Int.toNat_natCast] at hr
  rw [hz1] at hr
  have hrun : (execOp a.eval o).run P W = .ok (.value (.slice (some ⟨W.heap.size, 0, none⟩) 0 n)) (W.alloc (.cells (madeCells (Value.int .u8 0).cells (n * 1)) e)) := by
    simp [execOp, ho, hx, hy, hr]
  refine Kd.event_run hgd hrun (h _ _ rfl ?_ (below_alloc (Below.refl _ _) _))
  have hm : madeCells (Value.int .u8 0).cells (n * 1) = ((List.replicate n (0 : Int)).map (Value.int .u8)).toArray := by
    rw [Nat.mul_one, List.map_replicate]
    refine Array.ext (by simp [madeCells]) (fun i h1 h2 => ?_)
    simp [madeCells, Value.cells, Nat.mod_one]
  rw [hm]
  exact heap_new_ _ _
/-- An append where there is room, as a step of a region that draws. -/
theorem app_room_ {N : Option Tmp} {W : World} {K : Act → World → Prop} (hw : Region.wanted o (yielded ops a.tmps) = true) (hN : o.dst = N) (s x : Operand) (t e : TypeId) (ho : o.op = .call { callee := .builtin .append, args := #[s, x], argTypes := #[t, t] }) (ht : P.underlying t = some (.slice e)) (hsz : (P.info? e).map (·.size) = some 1)
    {g len cap c : Nat} {ad : Addr} {cs ys : List Int} (hs : a.eval s = .slice (some ⟨g, 0, none⟩) len cap) (hx : a.eval x = .slice (some ad) ys.length c) (hA : ArrP_ W g e .u8 cs) (hB : ∀ j, j < ys.length → W.cell? (ad.add j) = some (.int .u8 (ys[j]?.getD 0))) (hl : cs.length = cap) (hr : len + ys.length ≤ cap)
    (h : ∀ w1, ArrP_ w1 g e .u8 (cs.take len ++ ys ++ cs.drop (len + ys.length)) → W.grownBy w1 (some g) → K (a.put N (.slice (some ⟨g, 0, none⟩) (len + ys.length) cap)) w1) : if Region.wanted o (yielded ops a.tmps) = true then Oper.wp P o a W K Q else K (a.put N undef) W := by
  obtain ⟨i0, hi, hz⟩ := Option.map_eq_some_iff.1 hsz
  have hg : W.heap[g]? = some (.cells (cs.map (Value.int .u8)).toArray e (0, 0)) := hA
  have hls : (cs.map (Value.int .u8)).toArray.size = cap := by simp [hl]
  have hsrc : Go.Src P i0.size t (.slice (some ad) ys.length c) ys.length (ys.map (Value.int .u8)) W := by
    refine Go.Src.ofSlice W ht ad ys.length c (ys.map (Value.int .u8)) (by rw [hz]; simp) (fun j u hu => ?_) (by intro q hq; obtain ⟨z, _, rfl⟩ := List.mem_map.1 hq; rfl)
    have hj : j < ys.length := by
      rcases Nat.lt_or_ge j ys.length with h1 | h1
      · exact h1
      · rw [List.getElem?_eq_none (by simpa using h1)] at hu; cases hu
    rw [hB j hj, ← hu, List.getElem?_map, List.getElem?_eq_getElem hj]
    rfl
  have hr2 := Go.run_append_room_src (P := P) W t t o.type e i0 ht hi g 0 len cap (.slice (some ad) ys.length c) ys.length (ys.map (Value.int .u8)) hsrc hr
    (by intro j hj
        rw [hz, Nat.mul_one, Nat.zero_add, blk_cell hg, Array.getElem?_eq_getElem (by simp at hj; omega)]
        rfl)
    (by intro j hj; exact blk_frozen hg _)
  rw [hz, Nat.mul_one, Nat.zero_add] at hr2
  obtain ⟨cur', h3, h4, h5⟩ := setCells_row (ys.map (Value.int .u8)) len W _ hg (by simp; omega)
  refine value_ hw hN (v := .slice (some ⟨g, 0, none⟩) (len + ys.length) cap) (w1 := W.setCells g len (ys.map (Value.int .u8))) ?_ (h _ ?_ (grown_cellsP_ W g len _))
  · simp [execOp, ho, resolve, invoke, builtin, hs, hx, hr2, Result.andThen]
  · show (W.setCells g len (ys.map (Value.int .u8))).heap[g]? = _
    rw [h3]
    congr 2
    apply Array.toList_inj.1
    rw [h5]
    simp [List.map_take, List.map_drop]
end
theorem belowTo2_ {n m : Nat} {w W : World} (h : Below n w W) (hm : m ≤ n) : Below m w W := ⟨h.os, h.tape, h.output, h.size, fun k hk => h.block k (Nat.lt_of_lt_of_le hk hm)⟩
section
variable {P : Program} {ops : Array Oper} {Q : Exit → Act → World → Prop}
/-- A slice written out, as a step of a region that draws. -/
theorem lit2_ {o : Oper} {N : Option Tmp} {a : Act} {W : World} {K : Act → World → Prop} {k : IntKind} (hw : Region.wanted o (yielded ops a.tmps) = true) (hN : o.dst = N) (e : TypeId) (r : List Int) (hrun : (execOp a.eval o).run P W = .ok (.value (.slice (some ⟨W.heap.size, 0, none⟩) r.length r.length)) (W.alloc (.cells (r.map (Value.int k)).toArray e))) (hm : r.length ≤ 1000)
    (h : ∀ v w1, (Kd.int k).R e w1 W.heap.size (fun _ => True) v r → Below W.heap.size W w1 → K (a.put N v) w1) : if Region.wanted o (yielded ops a.tmps) = true then Oper.wp P o a W K Q else K (a.put N undef) W := by
  refine value_ hw hN hrun (h _ _ (Kd.R_of_own (enc := Value.int k) ?_ (fun _ _ => trivial)) (below_alloc (Below.refl _ _) _))
  have h2 := World.ownsRow_lit (base := W.heap.size) (e := e) (size := 1) W (r.map (Value.int k)).toArray r.length (Nat.le_refl _) (by simp [maxLen]; omega) (by simp)
  simpa [encs] using h2
end
/-- The digits of the first i bytes. -/
def txtN (b : List Int) : Nat → List Int
  | 0 => []
  | i + 1 => txtN b i ++ [bt (⟨#[48, 49, 50, 51, 52, 53, 54, 55, 56, 57, 97, 98, 99, 100, 101, 102]⟩ : ByteArray) (IntKind.u8.wrap (Int.tdiv (b[i]?.getD 0) 16)), bt (⟨#[48, 49, 50, 51, 52, 53, 54, 55, 56, 57, 97, 98, 99, 100, 101, 102]⟩ : ByteArray) (Int.tmod (b[i]?.getD 0) 16)]
theorem txtN_len (b : List Int) (i : Nat) : (txtN b i).length = 2 * i := by
  induction i with
  | zero => rfl
  | succ i ih => rw [txtN, List.length_append, ih]; rfl
theorem bytesOf_len (s : ByteArray) : (bytesOf s).length = s.size := by
  simp [bytesOf]
theorem bytesOf_range (s : ByteArray) (i : Nat) : 0 ≤ (bytesOf s)[i]?.getD 0 ∧ (bytesOf s)[i]?.getD 0 ≤ 255 := by
  rcases Nat.lt_or_ge i (bytesOf s).length with h | h
  · have hm : (bytesOf s)[i] ∈ bytesOf s := List.getElem_mem h
    rw [List.getElem?_eq_getElem h, Option.getD_some]
    unfold bytesOf at hm ⊢
    obtain ⟨b, _, hb⟩ := List.mem_map.1 hm
    have := b.toNat_lt
    rw [← hb]
    omega
  · rw [List.getElem?_eq_none h]
    simp
theorem bytesRow_cell (s : ByteArray) (c j : Nat) (hj : j < s.size) : (bytesRow s c)[j]? = some (.int .u8 ((bytesOf s)[j]?.getD 0)) := by
  have hl : j < s.data.size := hj
  unfold bytesRow bytesOf
  rw [Array.getElem?_append_left (by rw [Array.size_map]; exact hl), Array.getElem?_map, Array.getElem?_eq_getElem hl, List.getElem?_map, List.getElem?_eq_getElem (by simpa using hl)]
  simp
section
variable {P : Program} {ops : Array Oper} {rest : List Oper} {o : Oper} {a : Act} {Q : Exit → Act → World → Prop}
/-- '[]byte(s)', read only. -/
theorem conv_event {W : World} (hgd : o.guard = none) (src dst e : TypeId) (x : Operand) (ho : o.op = .convert src dst x) (s : ByteArray) (hx : a.eval x = .string s) (hs : P.underlying src = some .string) (hd : P.underlying dst = some (.slice e)) (he : P.underlying e = some (.int .u8))
    (h : ∀ g c w1, W.heap.size = g → g < w1.heap.size → (∀ j, j < s.size → w1.cell? ⟨g, j, none⟩ = some (.int .u8 ((bytesOf s)[j]?.getD 0))) → Below W.heap.size W w1 → wpList P ops Q rest (a.put o.dst (.slice (some ⟨g, 0, none⟩) s.size c)) w1) : wpList P ops Q (o :: rest) a W := by
  have hr := run_bytes_of_string (P := P) W src dst e s hs hd he
  refine Kd.event_run hgd (v := .slice (some ⟨W.heap.size, 0, none⟩) s.size (grownCap W s.size 0 e)) (w1 := W.drew.alloc (.cells (bytesRow s (grownCap W s.size 0 e)) e ((bytesRow s (grownCap W s.size 0 e)).size, (bytesRow s (grownCap W s.size 0 e)).size + 1))) ?_ (h _ _ _ rfl ?_ ?_ ?_)
  · unfold execOp
    simp only [ho, hx, Sem.run_bind, Sem.run_pure, Result.andThen_ok, hr]
  · show W.heap.size < (W.heap.push _).size
    simp
  · intro j hj
    have hh : (W.drew.alloc (.cells (bytesRow s (grownCap W s.size 0 e)) e ((bytesRow s (grownCap W s.size 0 e)).size, (bytesRow s (grownCap W s.size 0 e)).size + 1))).heap[W.heap.size]? = some (.cells (bytesRow s (grownCap W s.size 0 e)) e ((bytesRow s (grownCap W s.size 0 e)).size, (bytesRow s (grownCap W s.size 0 e)).size + 1)) := by
      show (W.heap.push _)[W.heap.size]? = _
      simp
    rw [cell_of_row _ _ _ _ _ _ hh]
    exact bytesRow_cell s _ j hj
  · exact below_alloc (below_drew1 (Below.refl _ _)) _
end
theorem C_cellsT_ {k : IntKind} {w : World} {A : Option Addr} {n : Nat} {xs : List Int} (h : (Kd.int k).C w A n xs) (hp : 0 < n) : ∃ ad, A = some ad ∧ ∀ j, j < n → w.cell? (ad.add j) = some (.int k (xs[j]?.getD 0)) := by
  have hat : ∀ i, i < n → ∃ ad, A = some ad ∧ w.cell? (ad.add i) = some (.int k (xs[i]?.getD 0)) := fun i hi => by
    obtain ⟨ad, c, e, hs, hK, hc⟩ := Kd.C_get h (0 : Int) (i : Int) (by omega) (by omega)
    have hK' : c = [.int k (xs.getD i 0)] := by have := hK; rwa [Int.toNat_natCast] at this
    refine ⟨ad, e, ?_⟩
    have := hc 0 (.int k (xs.getD i 0)) (by rw [hK']; rfl)
    rwa [Int.toNat_natCast, show (Kd.int k).sz = 1 from rfl, Nat.mul_one, Nat.add_zero, List.getD_eq_getElem?_getD] at this
  obtain ⟨ad, rfl, _⟩ := hat 0 hp
  refine ⟨ad, rfl, fun j hj => ?_⟩
  obtain ⟨ad', e, hc⟩ := hat j hj
  obtain rfl := Option.some.inj e
  exact hc
theorem room_step (F : List Int) (l cap : Nat) (x y : Int) (hl : F.length = l) (hr : l + 2 ≤ cap) : (F ++ List.replicate (cap - l) 0).take l ++ [x, y] ++ (F ++ List.replicate (cap - l) 0).drop (l + 2) = (F ++ [x, y]) ++ List.replicate (cap - (l + 2)) 0 := by
  have e1 : (F ++ List.replicate (cap - l) 0).take l = F := by rw [← hl, List.take_left']; rfl
  have e2 : (F ++ List.replicate (cap - l) (0 : Int)).drop (l + 2) = List.replicate (cap - (l + 2)) 0 := by
    rw [List.drop_append, List.drop_eq_nil_of_le (by omega), List.nil_append, List.drop_replicate]
    congr 1
    omega
  rw [e1, e2]
def sha_Text.f (a0 : ByteArray) : Option ByteArray := if a0.size ≤ 140737488351232 then some (strOfNums (txtN (bytesOf a0) a0.size)) else none
def remoraref03_Text.f (a0 : ByteArray) : Option ByteArray := if a0.size ≤ 140737488351232 then some (strOfNums (txtN (bytesOf a0) a0.size)) else none
theorem bt_bytesT_ (s : ByteArray) (i : Nat) : bt s (i : Int) = (bytesOf s)[i]?.getD 0 := by
  rw [← rd_bytesOf]
  unfold rd
  rw [Int.toNat_natCast, List.getD_eq_getElem?_getD]
def sha_Text.T5 : Bool × List (List Nat × List Nat) := (true, [([], []), ([], []), ([1], [1]), ([2], [2]), ([], []), ([4], [4]), ([5], [5]), ([3, 6], [3, 6]), ([0, 7], [0, 7]), ([8, 8, 0, 1, 2, 3, 4, 5, 6, 7, 8], [0, 8])])
def sha_Text.B5 : List Nat := [0, 0, 2, 6, 0, 16, 48, 126, 255, 511]
theorem sha_Text.tab5 : rtab .any (opsOf Try.f7 5) = sha_Text.T5 := by kernel_rfl
theorem sha_Text.bits5 : waitsOk sha_Text.T5.2 sha_Text.B5 = true := by kernel_rfl
set_option maxHeartbeats 8000000 in
set_option maxRecDepth 100000 in
theorem sha_Text.calls (a0 : ByteArray) (r : ByteArray) (w : World) (h : sha_Text.f a0 = some r) :
    Calls Try.prog 7 #[.string a0] w fun e w' => e = .returned (.string r) ∧ Below w.heap.size w w' := by
  unfold sha_Text.f at h
  by_cases hl : a0.size ≤ 140737488351232
  · rw [if_pos hl] at h
    obtain rfl := Option.some.inj h
    have HL := Aside0.mk hl
    obtain ⟨m, hm⟩ : ∃ m : Nat, a0.size = m := ⟨_, rfl⟩
    obtain ⟨m2, hm2⟩ : ∃ m2 : Nat, m2 = 2 * m := ⟨_, rfl⟩
    have e0 : wrap64 (2 * (m : Int)) = (m2 : Int) := by unfold wrap64; omega
    have HE := Aside0.mk e0
    have HM := Aside0.mk (And.intro hm hm2)
    clear h hl hm2 hm
    go_enter Try.func7, Try.ntmps7
    go_wp2_with (first
      | ((with_reducible refine gate_dst (N := 9) rfl ?_); refine make_room rfl rfl 28 5 _ _ rfl m2 rfl (by show _ = Value.int .i64 (m2 : Int); rw [← HE.out, ← HM.out.1]; rfl) Try.underlying28 info5 (by have h1 := HM.out; have h2 := HL.out; omega) ?_; intro g1 w1 hg1 hA hb; have HA := Aside0.mk hA; have HB := Aside0.mk hb; have HG1 := Aside0.mk (show w.heap.size ≤ g1 by omega); clear hA hb hg1)
      | ((with_reducible refine gate_dst (N := 11) rfl ?_); refine conv_event rfl 9 28 5 (.tmp 10) rfl a0 rfl Try.underlying9 Try.underlying28 Try.underlying5 ?_; intro g c w6 hg0 hg1 hc hb6; have HCC := Aside0.mk hc; have HNE := Aside0.mk (show g1 ≠ g by have := HA.out.lt; omega); replace HA := Aside0.mk (HA.out.below hb6); replace HB := Aside0.mk (HB.out.trans (belowTo2_ hb6 HB.out.size)); clear hg0 hc hb6 hg1; rw [HM.out.1]))
    go_loopg [3, 13] (m + 1) (fun kq v3 v13 w' => ∃ i l : Nat, v13 = .int .i64 (i : Int) ∧ v3 = .slice (some ⟨g1, 0, none⟩) l m2 ∧ Aside0 (i + kq = m + 1 ∧ i ≤ m ∧ l = 2 * i) ∧ Aside0 (ArrP_ w' g1 5 .u8 (txtN (bytesOf a0) i ++ List.replicate (m2 - l) 0)) ∧ Aside0 (Below w.heap.size w w') ∧ Aside0 (∀ j, j < a0.size → w'.cell? ⟨g, j, none⟩ = some (.int .u8 ((bytesOf a0)[j]?.getD 0))))
    case atStart => exact ⟨0, 0, rfl, rfl, ⟨by omega, by omega, rfl⟩, HA, HB, HCC⟩
    case round =>
      clear HA HB HCC
      obtain ⟨i, l, rfl, rfl, hk, HA, HB, HCC⟩ := hrel
      by_cases hlt : i < m
      · obtain ⟨k1, rfl⟩ : ∃ k1, gk = k1 + 1 := ⟨gk - 1, by have := hk.out; omega⟩
        have HI := Aside0.mk hlt
        have d1 : decide ((i : Int) < (m : Int)) = true := decide_eq_true (by omega)
        have d2 : decide (i < m) = true := decide_eq_true hlt
        have hw : wrap64 ((i : Int) + 1) = ((i + 1 : Nat) : Int) := by have h1 := HL.out; rw [HM.out.1] at h1; unfold wrap64; omega
        have HW := Aside0.mk hw
        have p0 := eq_true (show (i : Int) < (m : Int) by omega)
        have o0 := eq_true (show (0 : Int) ≤ (i : Int) by omega)
        have hx := HCC.out i (by rw [HM.out.1]; exact hlt)
        obtain ⟨c0, hc0⟩ : ∃ c0, (bytesOf a0)[i]?.getD 0 = c0 := ⟨_, rfl⟩
        rw [hc0] at hx
        have hcr := bytesOf_range a0 i
        rw [hc0] at hcr
        have HC0 := Aside0.mk hc0
        obtain ⟨q1, hq1⟩ : ∃ q1, IntKind.u8.wrap (Int.tdiv c0 16) = q1 := ⟨_, rfl⟩
        obtain ⟨q2, hq2⟩ : ∃ q2, Int.tmod c0 16 = q2 := ⟨_, rfl⟩
        have hr1 : 0 ≤ q1 ∧ q1 < 16 := by rw [← hq1, Int.tdiv_eq_ediv_of_nonneg hcr.1, IntKind.wrap_u8]; omega
        have hr2 : 0 ≤ q2 ∧ q2 < 16 := by rw [← hq2, Int.tmod_eq_emod_of_nonneg hcr.1]; omega
        have HQ := Aside0.mk (And.intro hq1 hq2)
        have p1 := eq_true hr1.1
        have p2 := eq_true hr1.2
        have p3 := eq_true hr2.1
        have p4 := eq_true hr2.2
        have hx1 := bt_at (⟨#[48, 49, 50, 51, 52, 53, 54, 55, 56, 57, 97, 98, 99, 100, 101, 102]⟩ : ByteArray) q1
        have hx2 := bt_at (⟨#[48, 49, 50, 51, 52, 53, 54, 55, 56, 57, 97, 98, 99, 100, 101, 102]⟩ : ByteArray) q2
        obtain ⟨x1, hy1⟩ : ∃ x1, bt (⟨#[48, 49, 50, 51, 52, 53, 54, 55, 56, 57, 97, 98, 99, 100, 101, 102]⟩ : ByteArray) q1 = x1 := ⟨_, rfl⟩
        obtain ⟨x2, hy2⟩ : ∃ x2, bt (⟨#[48, 49, 50, 51, 52, 53, 54, 55, 56, 57, 97, 98, 99, 100, 101, 102]⟩ : ByteArray) q2 = x2 := ⟨_, rfl⟩
        rw [hy1] at hx1
        rw [hy2] at hx2
        have HY := Aside0.mk (And.intro hy1 hy2)
        clear hlt hw hc0 hcr hr1 hr2 hy1 hy2
        go_wp2
        refine start_ (n := 10) (S := fun w' => True) (ds := []) #[false, false, false, false, false, false, false, false, false, false] (by kernel_rfl) rfl rfl trivial (fun hHeld => ?_); refine with_tabW sha_Text.tab5 sha_Text.bits5 (fun HT_ HW_ => ?_)
        refine pure_ (i := 0) (N := some 17) (v := ?_) (a' := ?_) #[true, false, false, false, false, false, false, false, false, false] rfl rfl (any_of HT_.out (by kernel_rfl)) (fun _ _ _ h => h) (Or.inl ⟨by rfl, ?_⟩) ?_ ?_
        rotate_left
        · intro w'
          go_simp
          with_reducible rfl
        rotate_left
        · simp only [Act.put, List.setIfInBounds_toArray, List.set_cons_zero, List.set_cons_succ, i64_w, i32_w]
          rfl
        refine pure_ (i := 1) (N := some 18) (v := ?_) (a' := ?_) #[true, true, false, false, false, false, false, false, false, false] rfl rfl (any_of HT_.out (by kernel_rfl)) (fun _ _ _ h => h) (Or.inl ⟨by rfl, ?_⟩) ?_ ?_
        rotate_left
        · intro w'
          go_simp
          with_reducible rfl
        rotate_left
        · simp only [Act.put, List.setIfInBounds_toArray, List.set_cons_zero, List.set_cons_succ, i64_w, i32_w]
          rfl
        refine pure_ (i := 2) (N := some 19) (v := ?_) (a' := ?_) #[true, true, true, false, false, false, false, false, false, false] rfl rfl (any_of HT_.out (by kernel_rfl)) (fun _ _ _ h => h) (Or.inl ⟨by rfl, ?_⟩) ?_ ?_
        rotate_left
        · intro w'
          go_simp
          with_reducible rfl
        rotate_left
        · simp only [Act.put, List.setIfInBounds_toArray, List.set_cons_zero, List.set_cons_succ, i64_w, i32_w]
          rfl
        refine pure_ (i := 3) (N := some 20) (v := ?_) (a' := ?_) #[true, true, true, true, false, false, false, false, false, false] rfl rfl (any_of HT_.out (by kernel_rfl)) (fun _ _ _ h => h) (Or.inl ⟨by rfl, ?_⟩) ?_ ?_
        rotate_left
        · intro w'
          go_simp
          with_reducible rfl
        rotate_left
        · simp only [Act.put, List.setIfInBounds_toArray, List.set_cons_zero, List.set_cons_succ, i64_w, i32_w]
          rfl
        refine pure_ (i := 4) (N := some 21) (v := ?_) (a' := ?_) #[true, true, true, true, true, false, false, false, false, false] rfl rfl (any_of HT_.out (by kernel_rfl)) (fun _ _ _ h => h) (Or.inl ⟨by rfl, ?_⟩) ?_ ?_
        rotate_left
        · intro w'
          go_simp
          with_reducible rfl
        rotate_left
        · simp only [Act.put, List.setIfInBounds_toArray, List.set_cons_zero, List.set_cons_succ, i64_w, i32_w]
          rfl
        refine pure_ (i := 5) (N := some 22) (v := ?_) (a' := ?_) #[true, true, true, true, true, true, false, false, false, false] rfl rfl (any_of HT_.out (by kernel_rfl)) (fun _ _ _ h => h) (Or.inl ⟨by rfl, ?_⟩) ?_ ?_
        rotate_left
        · intro w'
          go_simp
          with_reducible rfl
        rotate_left
        · simp only [Act.put, List.setIfInBounds_toArray, List.set_cons_zero, List.set_cons_succ, i64_w, i32_w]
          rfl
        refine pure_ (i := 6) (N := some 23) (v := ?_) (a' := ?_) #[true, true, true, true, true, true, true, false, false, false] rfl rfl (any_of HT_.out (by kernel_rfl)) (fun _ _ _ h => h) (Or.inl ⟨by rfl, ?_⟩) ?_ ?_
        rotate_left
        · intro w'
          go_simp
          with_reducible rfl
        rotate_left
        · simp only [Act.put, List.setIfInBounds_toArray, List.set_cons_zero, List.set_cons_succ, i64_w, i32_w]
          rfl
        refine one_ (i := 7) (N := some 24) #[true, true, true, true, true, true, true, true, false, false] rfl rfl (one_of HT_.out (by kernel_rfl)) (by decide) (fun K hK => ?_)
        refine lit2_ (k := .u8) (by rfl) rfl 5 [x1, x2] (by first | (go_simp; done) | (go_simp; rfl)) (by simp) ?_
        intro v24 w7 hR7 hb7
        obtain ⟨A24, c24, e24, hl24, hc24⟩ := Kd.R_reads hR7
        obtain ⟨ad24, ea24, hcell⟩ := C_cellsT_ hc24 (by simp)
        have HCE := Aside0.mk hcell
        have HA7 := Aside0.mk (show ArrP_ w7 g1 5 .u8 (txtN (bytesOf a0) i ++ List.replicate (m2 - l) 0) from (show ArrP_ wr.drew g1 5 .u8 _ from HA.out).below hb7)
        have HB7 := Aside0.mk ((below_drew1 HB.out).trans (belowTo2_ hb7 HB.out.size))
        have HCL := Aside0.mk (show ∀ j, j < a0.size → w7.cell? ⟨g, j, none⟩ = some (.int .u8 ((bytesOf a0)[j]?.getD 0)) from fun j hj => pw_cell_below hb7 (HCC.out j hj))
        subst e24
        subst ea24
        clear hR7 hb7 hl24 hc24 hcell HA HB HCC
        refine hK.out _ _ trivial (fun hHeld => ?_)
        clear hK K
        refine norm_ (a' := ?_) ?_ ?_
        rotate_left
        · show Act.put _ (some 24) _ = _
          simp only [Act.put, List.setIfInBounds_toArray, List.set_cons_zero, List.set_cons_succ, i64_w, i32_w]
          rfl
        refine one_ (i := 8) (N := some 25) #[true, true, true, true, true, true, true, true, true, false] rfl rfl (one_of HT_.out (by kernel_rfl)) (by decide) (fun K hK => ?_)
        refine app_room_ (by rfl) rfl (.tmp 17) (.tmp 24) 28 5 rfl Try.underlying28 (by kernel_rfl) (g := g1) (len := l) (cap := m2) (c := c24) (ad := ad24) (cs := txtN (bytesOf a0) i ++ List.replicate (m2 - l) 0) (ys := [x1, x2]) (by rfl) (by rfl) HA7.out (fun j hj => HCE.out j hj) (by rw [List.length_append, txtN_len, List.length_replicate]; have h1 := hk.out.2.2; have h2 := HI.out; have h3 := HM.out.2; omega) (by have h1 := hk.out.2.2; have h2 := HI.out; have h3 := HM.out.2; simp only [List.length_cons, List.length_nil]; omega) ?_
        intro w8 hA hg
        have HA9 := Aside0.mk hA
        have HG9 := Aside0.mk hg
        have HB9 := Aside0.mk (belowByP_ HB7.out hg HB7.out.size (fun k hk => by have := HG1.out; have := Option.some.inj hk; omega))
        clear hA hg
        refine hK.out _ _ trivial (fun hHeld => ?_)
        clear hK K
        refine norm_ (a' := ?_) ?_ ?_
        rotate_left
        · show Act.put _ (some 25) _ = _
          simp only [Act.put, List.setIfInBounds_toArray, List.set_cons_zero, List.set_cons_succ, i64_w, i32_w]
          rfl
        refine pure_ (i := 9) (N := some 3) (v := ?_) (a' := ?_) #[true, true, true, true, true, true, true, true, true, true] rfl rfl (any_of HT_.out (by kernel_rfl)) (fun _ _ _ h => h) (Or.inl ⟨by rfl, ?_⟩) ?_ ?_
        rotate_left
        · intro w'
          go_simp
          with_reducible rfl
        rotate_left
        · simp only [Act.put, List.setIfInBounds_toArray, List.set_cons_zero, List.set_cons_succ, i64_w, i32_w]
          rfl
        refine done_ (done_of HT_.out (by kernel_rfl)) ?_
        clear hx1 hx2 p0 o0 p1 p2 p3 p4 hq1 hq2 d1 d2
        try go_wp2
        go_roundg k1
        case measure => omega
        case rel =>
          refine ⟨i + 1, l + 2, by rw [HW.out], rfl, ⟨by have := hk.out; omega, by have := HI.out; omega, by have := hk.out; omega⟩, ⟨?_⟩, HB9, ⟨fun j hj => HG9.out.cell (HCL.out j hj) (fun he => HNE.out (Option.some.inj he).symm)⟩⟩
          have h1 := HA9.out
          rw [show [x1, x2].length = 2 from rfl] at h1
          have hfl : (txtN (bytesOf a0) i).length = l := by rw [txtN_len]; have := hk.out.2.2; omega
          rw [room_step _ l m2 _ _ hfl (by have h2 := HI.out; have h3 := hk.out; have h4 := HM.out.2; omega)] at h1
          rw [txtN, HC0.out, HQ.out.1, HQ.out.2, HY.out.1, HY.out.2]
          exact h1
      · have hie : i = m := by have := hk.out; omega
        have d1 : decide ((i : Int) < (m : Int)) = false := decide_eq_false (by omega)
        have d2 : decide (i < m) = false := decide_eq_false hlt
        have hl2 : l = m2 := by have h1 := hk.out.2.2; have h2 := HM.out.2; omega
        subst hl2
        rw [hie, Nat.sub_self, List.replicate_zero, List.append_nil] at HA
        have hfl : (txtN (bytesOf a0) m).length = l := by rw [txtN_len]; exact HM.out.2.symm
        have hcv := string_of_reads (P := Try.prog) (c := l) Try.underlying28 Try.underlying5 Try.underlying9 (arr_readsP_ HA.out (by rw [hfl]; have h1 := HM.out; have h2 := HL.out; omega))
        rw [hfl] at hcv
        clear hlt hie hfl
        go_wp2
        go_ret
        exact ⟨by rw [HM.out.1]; rfl, HB.out⟩
  · rw [if_neg hl] at h
    cases h


/-! ### remoraref03_Text: function 8 -/
def remoraref03_Text.T5 : Bool × List (List Nat × List Nat) := (true, [([], []), ([], []), ([], []), ([1, 2], [1, 2]), ([3], [3]), ([4], [4]), ([], []), ([], []), ([6, 7], [6, 7]), ([8], [8]), ([9], [9]), ([5, 10], [5, 10]), ([0, 11], [0, 11]), ([12, 12, 0, 1, 2, 3, 4, 5, 6, 7, 8, 9, 10, 11, 12], [0, 12])])
def remoraref03_Text.B5 : List Nat := [0, 0, 0, 6, 14, 30, 0, 0, 192, 448, 960, 2046, 4095, 8191]
theorem remoraref03_Text.tab5 : rtab .any (opsOf Try.f8 5) = remoraref03_Text.T5 := by kernel_rfl
theorem remoraref03_Text.bits5 : waitsOk remoraref03_Text.T5.2 remoraref03_Text.B5 = true := by kernel_rfl
set_option maxHeartbeats 8000000 in
set_option maxRecDepth 100000 in
theorem remoraref03_Text.calls (a0 : ByteArray) (r : ByteArray) (w : World) (h : remoraref03_Text.f a0 = some r) :
    Calls Try.prog 8 #[.string a0] w fun e w' => e = .returned (.string r) ∧ Below w.heap.size w w' := by
  unfold remoraref03_Text.f at h
  by_cases hl : a0.size ≤ 140737488351232
  · rw [if_pos hl] at h
    obtain rfl := Option.some.inj h
    have HL := Aside0.mk hl
    obtain ⟨m, hm⟩ : ∃ m : Nat, a0.size = m := ⟨_, rfl⟩
    obtain ⟨m2, hm2⟩ : ∃ m2 : Nat, m2 = 2 * m := ⟨_, rfl⟩
    have e0 : wrap64 (2 * (m : Int)) = (m2 : Int) := by unfold wrap64; omega
    have HE := Aside0.mk e0
    have HM := Aside0.mk (And.intro hm hm2)
    clear h hl hm2 
    go_enter Try.func8, Try.ntmps8
    go_wp2_with (first
      | ((with_reducible refine gate_dst (N := 8) rfl ?_); refine make_room rfl rfl 28 5 _ _ rfl m2 rfl (by show _ = Value.int .i64 (m2 : Int); rw [← HE.out, ← HM.out.1]; rfl) Try.underlying28 info5 (by have h1 := HM.out; have h2 := HL.out; omega) ?_; intro g1 w1 hg1 hA hb; have HA := Aside0.mk hA; have HB := Aside0.mk hb; have HG1 := Aside0.mk (show w.heap.size ≤ g1 by omega); clear hA hb hg1))
    go_loopg [3, 4] (m + 1) (fun kq v3 v13 w' => ∃ i l : Nat, v13 = .int .i64 (i : Int) ∧ v3 = .slice (some ⟨g1, 0, none⟩) l m2 ∧ Aside0 (i + kq = m + 1 ∧ i ≤ m ∧ l = 2 * i) ∧ Aside0 (ArrP_ w' g1 5 .u8 (txtN (bytesOf a0) i ++ List.replicate (m2 - l) 0)) ∧ Aside0 (Below w.heap.size w w'))
    case atStart => exact ⟨0, 0, rfl, rfl, ⟨by omega, by omega, rfl⟩, HA, HB⟩
    case round =>
      clear HA HB
      obtain ⟨i, l, rfl, rfl, hk, HA, HB⟩ := hrel
      by_cases hlt : i < m
      · obtain ⟨k1, rfl⟩ : ∃ k1, gk = k1 + 1 := ⟨gk - 1, by have := hk.out; omega⟩
        have HI := Aside0.mk hlt
        have d1 : decide ((i : Int) < (m : Int)) = true := decide_eq_true (by omega)
        have d2 : decide (i < m) = true := decide_eq_true hlt
        have hw : wrap64 ((i : Int) + 1) = ((i + 1 : Nat) : Int) := by have h1 := HL.out; rw [HM.out.1] at h1; unfold wrap64; omega
        have HW := Aside0.mk hw
        have p0 := eq_true (show (i : Int) < (m : Int) by omega)
        have o0 := eq_true (show (0 : Int) ≤ (i : Int) by omega)
        obtain ⟨c0, hc0⟩ : ∃ c0, (bytesOf a0)[i]?.getD 0 = c0 := ⟨_, rfl⟩
        have hxi : ∀ h : i < a0.size, ((a0[i]'h).toNat : Int) = c0 := fun h => (bt_at a0 (i : Int) h).trans ((bt_bytesT_ a0 i).trans hc0)
        have p5 := eq_true (show (i : Int) < (a0.size : Int) by omega)
        have hcr := bytesOf_range a0 i
        rw [hc0] at hcr
        have HC0 := Aside0.mk hc0
        obtain ⟨q1, hq1⟩ : ∃ q1, IntKind.u8.wrap (Int.tdiv c0 16) = q1 := ⟨_, rfl⟩
        obtain ⟨q2, hq2⟩ : ∃ q2, Int.tmod c0 16 = q2 := ⟨_, rfl⟩
        have hr1 : 0 ≤ q1 ∧ q1 < 16 := by rw [← hq1, Int.tdiv_eq_ediv_of_nonneg hcr.1, IntKind.wrap_u8]; omega
        have hr2 : 0 ≤ q2 ∧ q2 < 16 := by rw [← hq2, Int.tmod_eq_emod_of_nonneg hcr.1]; omega
        have HQ := Aside0.mk (And.intro hq1 hq2)
        have p1 := eq_true hr1.1
        have p2 := eq_true hr1.2
        have p3 := eq_true hr2.1
        have p4 := eq_true hr2.2
        have hx1 := bt_at (⟨#[48, 49, 50, 51, 52, 53, 54, 55, 56, 57, 97, 98, 99, 100, 101, 102]⟩ : ByteArray) q1
        have hx2 := bt_at (⟨#[48, 49, 50, 51, 52, 53, 54, 55, 56, 57, 97, 98, 99, 100, 101, 102]⟩ : ByteArray) q2
        obtain ⟨x1, hy1⟩ : ∃ x1, bt (⟨#[48, 49, 50, 51, 52, 53, 54, 55, 56, 57, 97, 98, 99, 100, 101, 102]⟩ : ByteArray) q1 = x1 := ⟨_, rfl⟩
        obtain ⟨x2, hy2⟩ : ∃ x2, bt (⟨#[48, 49, 50, 51, 52, 53, 54, 55, 56, 57, 97, 98, 99, 100, 101, 102]⟩ : ByteArray) q2 = x2 := ⟨_, rfl⟩
        rw [hy1] at hx1
        rw [hy2] at hx2
        have HY := Aside0.mk (And.intro hy1 hy2)
        clear hlt hw hc0 hcr hr1 hr2 hy1 hy2
        go_wp2
        refine start_ (n := 14) (S := fun w' => True) (ds := []) #[false, false, false, false, false, false, false, false, false, false, false, false, false, false] (by kernel_rfl) rfl rfl trivial (fun hHeld => ?_); refine with_tabW remoraref03_Text.tab5 remoraref03_Text.bits5 (fun HT_ HW_ => ?_)
        refine pure_ (i := 0) (N := some 15) (v := ?_) (a' := ?_) #[true, false, false, false, false, false, false, false, false, false, false, false, false, false] rfl rfl (any_of HT_.out (by kernel_rfl)) (fun _ _ _ h => h) (Or.inl ⟨by rfl, ?_⟩) ?_ ?_
        rotate_left
        · intro w'
          go_simp
          with_reducible rfl
        rotate_left
        · simp only [Act.put, List.setIfInBounds_toArray, List.set_cons_zero, List.set_cons_succ, i64_w, i32_w]
          rfl
        refine pure_ (i := 1) (N := some 16) (v := ?_) (a' := ?_) #[true, true, false, false, false, false, false, false, false, false, false, false, false, false] rfl rfl (any_of HT_.out (by kernel_rfl)) (fun _ _ _ h => h) (Or.inl ⟨by rfl, ?_⟩) ?_ ?_
        rotate_left
        · intro w'
          go_simp
          with_reducible rfl
        rotate_left
        · simp only [Act.put, List.setIfInBounds_toArray, List.set_cons_zero, List.set_cons_succ, i64_w, i32_w]
          rfl
        refine pure_ (i := 2) (N := some 17) (v := ?_) (a' := ?_) #[true, true, true, false, false, false, false, false, false, false, false, false, false, false] rfl rfl (any_of HT_.out (by kernel_rfl)) (fun _ _ _ h => h) (Or.inl ⟨by rfl, ?_⟩) ?_ ?_
        rotate_left
        · intro w'
          go_simp
          with_reducible rfl
        rotate_left
        · simp only [Act.put, List.setIfInBounds_toArray, List.set_cons_zero, List.set_cons_succ, i64_w, i32_w]
          rfl
        refine pure_ (i := 3) (N := some 18) (v := ?_) (a' := ?_) #[true, true, true, true, false, false, false, false, false, false, false, false, false, false] rfl rfl (any_of HT_.out (by kernel_rfl)) (fun _ _ _ h => h) (Or.inl ⟨by rfl, ?_⟩) ?_ ?_
        rotate_left
        · intro w'
          go_simp
          with_reducible rfl
        rotate_left
        · simp only [Act.put, List.setIfInBounds_toArray, List.set_cons_zero, List.set_cons_succ, i64_w, i32_w]
          rfl
        refine pure_ (i := 4) (N := some 19) (v := ?_) (a' := ?_) #[true, true, true, true, true, false, false, false, false, false, false, false, false, false] rfl rfl (any_of HT_.out (by kernel_rfl)) (fun _ _ _ h => h) (Or.inl ⟨by rfl, ?_⟩) ?_ ?_
        rotate_left
        · intro w'
          go_simp
          with_reducible rfl
        rotate_left
        · simp only [Act.put, List.setIfInBounds_toArray, List.set_cons_zero, List.set_cons_succ, i64_w, i32_w]
          rfl
        refine pure_ (i := 5) (N := some 20) (v := ?_) (a' := ?_) #[true, true, true, true, true, true, false, false, false, false, false, false, false, false] rfl rfl (any_of HT_.out (by kernel_rfl)) (fun _ _ _ h => h) (Or.inl ⟨by rfl, ?_⟩) ?_ ?_
        rotate_left
        · intro w'
          go_simp
          with_reducible rfl
        rotate_left
        · simp only [Act.put, List.setIfInBounds_toArray, List.set_cons_zero, List.set_cons_succ, i64_w, i32_w]
          rfl
        refine pure_ (i := 6) (N := some 21) (v := ?_) (a' := ?_) #[true, true, true, true, true, true, true, false, false, false, false, false, false, false] rfl rfl (any_of HT_.out (by kernel_rfl)) (fun _ _ _ h => h) (Or.inl ⟨by rfl, ?_⟩) ?_ ?_
        rotate_left
        · intro w'
          go_simp
          with_reducible rfl
        rotate_left
        · simp only [Act.put, List.setIfInBounds_toArray, List.set_cons_zero, List.set_cons_succ, i64_w, i32_w]
          rfl
        refine pure_ (i := 7) (N := some 22) (v := ?_) (a' := ?_) #[true, true, true, true, true, true, true, true, false, false, false, false, false, false] rfl rfl (any_of HT_.out (by kernel_rfl)) (fun _ _ _ h => h) (Or.inl ⟨by rfl, ?_⟩) ?_ ?_
        rotate_left
        · intro w'
          go_simp
          with_reducible rfl
        rotate_left
        · simp only [Act.put, List.setIfInBounds_toArray, List.set_cons_zero, List.set_cons_succ, i64_w, i32_w]
          rfl
        refine pure_ (i := 8) (N := some 23) (v := ?_) (a' := ?_) #[true, true, true, true, true, true, true, true, true, false, false, false, false, false] rfl rfl (any_of HT_.out (by kernel_rfl)) (fun _ _ _ h => h) (Or.inl ⟨by rfl, ?_⟩) ?_ ?_
        rotate_left
        · intro w'
          go_simp
          with_reducible rfl
        rotate_left
        · simp only [Act.put, List.setIfInBounds_toArray, List.set_cons_zero, List.set_cons_succ, i64_w, i32_w]
          rfl
        refine pure_ (i := 9) (N := some 24) (v := ?_) (a' := ?_) #[true, true, true, true, true, true, true, true, true, true, false, false, false, false] rfl rfl (any_of HT_.out (by kernel_rfl)) (fun _ _ _ h => h) (Or.inl ⟨by rfl, ?_⟩) ?_ ?_
        rotate_left
        · intro w'
          go_simp
          with_reducible rfl
        rotate_left
        · simp only [Act.put, List.setIfInBounds_toArray, List.set_cons_zero, List.set_cons_succ, i64_w, i32_w]
          rfl
        refine pure_ (i := 10) (N := some 25) (v := ?_) (a' := ?_) #[true, true, true, true, true, true, true, true, true, true, true, false, false, false] rfl rfl (any_of HT_.out (by kernel_rfl)) (fun _ _ _ h => h) (Or.inl ⟨by rfl, ?_⟩) ?_ ?_
        rotate_left
        · intro w'
          go_simp
          with_reducible rfl
        rotate_left
        · simp only [Act.put, List.setIfInBounds_toArray, List.set_cons_zero, List.set_cons_succ, i64_w, i32_w]
          rfl
        refine one_ (i := 11) (N := some 26) #[true, true, true, true, true, true, true, true, true, true, true, true, false, false] rfl rfl (one_of HT_.out (by kernel_rfl)) (by decide) (fun K hK => ?_)
        refine lit2_ (k := .u8) (by rfl) rfl 5 [x1, x2] (by first | (go_simp; done) | (go_simp; rfl)) (by simp) ?_
        intro v24 w7 hR7 hb7
        obtain ⟨A24, c24, e24, hl24, hc24⟩ := Kd.R_reads hR7
        obtain ⟨ad24, ea24, hcell⟩ := C_cellsT_ hc24 (by simp)
        have HCE := Aside0.mk hcell
        have HA7 := Aside0.mk (show ArrP_ w7 g1 5 .u8 (txtN (bytesOf a0) i ++ List.replicate (m2 - l) 0) from (show ArrP_ wr.drew g1 5 .u8 _ from HA.out).below hb7)
        have HB7 := Aside0.mk ((below_drew1 HB.out).trans (belowTo2_ hb7 HB.out.size))
        subst e24
        subst ea24
        clear hR7 hb7 hl24 hc24 hcell HA HB
        refine hK.out _ _ trivial (fun hHeld => ?_)
        clear hK K
        refine norm_ (a' := ?_) ?_ ?_
        rotate_left
        · show Act.put _ (some 26) _ = _
          simp only [Act.put, List.setIfInBounds_toArray, List.set_cons_zero, List.set_cons_succ, i64_w, i32_w]
          rfl
        refine one_ (i := 12) (N := some 27) #[true, true, true, true, true, true, true, true, true, true, true, true, true, false] rfl rfl (one_of HT_.out (by kernel_rfl)) (by decide) (fun K hK => ?_)
        refine app_room_ (by rfl) rfl (.tmp 15) (.tmp 26) 28 5 rfl Try.underlying28 (by kernel_rfl) (g := g1) (len := l) (cap := m2) (c := c24) (ad := ad24) (cs := txtN (bytesOf a0) i ++ List.replicate (m2 - l) 0) (ys := [x1, x2]) (by rfl) (by rfl) HA7.out (fun j hj => HCE.out j hj) (by rw [List.length_append, txtN_len, List.length_replicate]; have h1 := hk.out.2.2; have h2 := HI.out; have h3 := HM.out.2; omega) (by have h1 := hk.out.2.2; have h2 := HI.out; have h3 := HM.out.2; simp only [List.length_cons, List.length_nil]; omega) ?_
        intro w8 hA hg
        have HA9 := Aside0.mk hA
        have HG9 := Aside0.mk hg
        have HB9 := Aside0.mk (belowByP_ HB7.out hg HB7.out.size (fun k hk => by have := HG1.out; have := Option.some.inj hk; omega))
        clear hA hg
        refine hK.out _ _ trivial (fun hHeld => ?_)
        clear hK K
        refine norm_ (a' := ?_) ?_ ?_
        rotate_left
        · show Act.put _ (some 27) _ = _
          simp only [Act.put, List.setIfInBounds_toArray, List.set_cons_zero, List.set_cons_succ, i64_w, i32_w]
          rfl
        refine pure_ (i := 13) (N := some 3) (v := ?_) (a' := ?_) #[true, true, true, true, true, true, true, true, true, true, true, true, true, true] rfl rfl (any_of HT_.out (by kernel_rfl)) (fun _ _ _ h => h) (Or.inl ⟨by rfl, ?_⟩) ?_ ?_
        rotate_left
        · intro w'
          go_simp
          with_reducible rfl
        rotate_left
        · simp only [Act.put, List.setIfInBounds_toArray, List.set_cons_zero, List.set_cons_succ, i64_w, i32_w]
          rfl
        refine done_ (done_of HT_.out (by kernel_rfl)) ?_
        clear hx1 hx2 p0 o0 p1 p2 p3 p4 hq1 hq2 d1 d2
        try go_wp2
        go_roundg k1
        case measure => omega
        case rel =>
          refine ⟨i + 1, l + 2, by rw [HW.out], rfl, ⟨by have := hk.out; omega, by have := HI.out; omega, by have := hk.out; omega⟩, ⟨?_⟩, HB9⟩
          have h1 := HA9.out
          rw [show [x1, x2].length = 2 from rfl] at h1
          have hfl : (txtN (bytesOf a0) i).length = l := by rw [txtN_len]; have := hk.out.2.2; omega
          rw [room_step _ l m2 _ _ hfl (by have h2 := HI.out; have h3 := hk.out; have h4 := HM.out.2; omega)] at h1
          rw [txtN, HC0.out, HQ.out.1, HQ.out.2, HY.out.1, HY.out.2]
          exact h1
      · have hie : i = m := by have := hk.out; omega
        have d1 : decide ((i : Int) < (m : Int)) = false := decide_eq_false (by omega)
        have d2 : decide (i < m) = false := decide_eq_false hlt
        have hl2 : l = m2 := by have h1 := hk.out.2.2; have h2 := HM.out.2; omega
        subst hl2
        rw [hie, Nat.sub_self, List.replicate_zero, List.append_nil] at HA
        have hfl : (txtN (bytesOf a0) m).length = l := by rw [txtN_len]; exact HM.out.2.symm
        have hcv := string_of_reads (P := Try.prog) (c := l) Try.underlying28 Try.underlying5 Try.underlying9 (arr_readsP_ HA.out (by rw [hfl]; have h1 := HM.out; have h2 := HL.out; omega))
        rw [hfl] at hcv
        clear hlt hie hfl
        go_wp2
        go_ret
        exact ⟨by rw [HM.out.1]; rfl, HB.out⟩
  · rw [if_neg hl] at h
    cases h


-- NOT PRINTED: function 16 (sha_first)

-- NOT PRINTED: function 13 (sha_New)

/-! ### bits_RotateLeft32: function 23 -/
def bits_RotateLeft32.f (a0 : Int) (a1 : Int) : Option (Int) := if 0 ≤ (Go.bits .and .u64 (IntKind.u64.wrap (a1)) 31) then (if 0 ≤ (IntKind.u64.wrap (32 - (Go.bits .and .u64 (IntKind.u64.wrap (a1)) 31))) then (some (Go.bits .or .u32 (shl .u32 a0 (Go.bits .and .u64 (IntKind.u64.wrap (a1)) 31)) (shr .u32 a0 (IntKind.u64.wrap (32 - (Go.bits .and .u64 (IntKind.u64.wrap (a1)) 31)))))) else (none)) else (none)
set_option maxHeartbeats 8000000 in
set_option maxRecDepth 100000 in
theorem bits_RotateLeft32.calls (a0 : Int) (a1 : Int) (r : Int) (w : World) (h : bits_RotateLeft32.f a0 a1 = some r) :
    Calls Try.prog 23 #[.int .u32 a0, .int .i64 a1] w fun e w' => e = .returned (.int .u32 r) ∧ Drawn0 w w' := by
  have H : (if 0 ≤ (Go.bits .and .u64 (IntKind.u64.wrap (a1)) 31) then (if 0 ≤ (IntKind.u64.wrap (32 - (Go.bits .and .u64 (IntKind.u64.wrap (a1)) 31))) then (some (Go.bits .or .u32 (shl .u32 a0 (Go.bits .and .u64 (IntKind.u64.wrap (a1)) 31)) (shr .u32 a0 (IntKind.u64.wrap (32 - (Go.bits .and .u64 (IntKind.u64.wrap (a1)) 31)))))) else (none)) else (none)) = some r := h
  clear h
  obtain ⟨ji3, hji3⟩ : ∃ j_ : Int, (Go.bits .and .u64 (IntKind.u64.wrap (a1)) 31) = j_ := ⟨_, rfl⟩
  replace H : (if 0 ≤ (ji3) then (if 0 ≤ (IntKind.u64.wrap (32 - (ji3))) then (some (Go.bits .or .u32 (shl .u32 a0 (ji3)) (shr .u32 a0 (IntKind.u64.wrap (32 - (ji3)))))) else (none)) else (none)) = some r := by first | (rw [hji3] at H; exact H) | (simp only [hji3] at H ⊢; exact H)
  by_cases c4 : 0 ≤ (ji3)
  · rw [if_pos c4] at H
    have c4b0 := eq_true c4
    have c4b1 : decide (0 ≤ (ji3)) = true := decide_eq_true c4
    clear c4
    obtain ⟨ji5, hji5⟩ : ∃ j_ : Int, (shl .u32 a0 (ji3)) = j_ := ⟨_, rfl⟩
    replace H : (if 0 ≤ (IntKind.u64.wrap (32 - (ji3))) then (some (Go.bits .or .u32 (ji5) (shr .u32 a0 (IntKind.u64.wrap (32 - (ji3)))))) else (none)) = some r := by first | (rw [hji5] at H; exact H) | (simp only [hji5] at H ⊢; exact H)
    have hji5_ : (IntKind.u32.wrap (a0 * 2 ^ min (ji3).toNat 32)) = ji5 := hji5
    have hji5z : (ji3) ≤ 32 → (IntKind.u32.wrap (a0 * 2 ^ (ji3).toNat)) = ji5 := shl_small hji5
    obtain ⟨ji6, hji6⟩ : ∃ j_ : Int, (IntKind.u64.wrap (32 - (ji3))) = j_ := ⟨_, rfl⟩
    replace H : (if 0 ≤ (ji6) then (some (Go.bits .or .u32 (ji5) (shr .u32 a0 (ji6)))) else (none)) = some r := by first | (rw [hji6] at H; exact H) | (simp only [hji6] at H ⊢; exact H)
    by_cases c7 : 0 ≤ (ji6)
    · rw [if_pos c7] at H
      have c7b0 := eq_true c7
      have c7b1 : decide (0 ≤ (ji6)) = true := decide_eq_true c7
      clear c7
      obtain ⟨ji8, hji8⟩ : ∃ j_ : Int, (shr .u32 a0 (ji6)) = j_ := ⟨_, rfl⟩
      replace H : (some (Go.bits .or .u32 (ji5) (ji8))) = some r := by first | (rw [hji8] at H; exact H) | (simp only [hji8] at H ⊢; exact H)
      have hji8_ : (a0 / 2 ^ min (ji6).toNat 32) = ji8 := hji8
      have hji8z : (ji6) ≤ 32 → (a0 / 2 ^ (ji6).toNat) = ji8 := shr_small hji8
      obtain rfl := Option.some.inj H
      go_enter Try.func23, Try.ntmps23
      go_wp2
      go_ret
      exact ⟨by first | rfl | (simp; done) | (simp only [← hji3, ← hji5, ← hji6, ← hji8] <;> (first | rfl | simp)) | (simp [*]; done), by repeat (first | exact Drawn0.refl _ | apply Drawn0.step)⟩
    · rw [if_neg c7] at H
      exact absurd H (by simp)
  · rw [if_neg c4] at H
    exact absurd H (by simp)

/-! ### sha_turned: function 22 -/
def sha_turned.f (a0 : Int) (a1 : Int) : Option (Int) := (bits_RotateLeft32.f a0 (wrap64 (-a1))).bind fun t109 => (some t109)
set_option maxHeartbeats 8000000 in
set_option maxRecDepth 100000 in
theorem sha_turned.calls (a0 : Int) (a1 : Int) (r : Int) (w : World) (h : sha_turned.f a0 a1 = some r) :
    Calls Try.prog 22 #[.int .u32 a0, .int .i64 a1] w fun e w' => e = .returned (.int .u32 r) ∧ Drawn0 w w' := by
  have H : ((bits_RotateLeft32.f a0 (wrap64 (-a1))).bind fun t109 => (some t109)) = some r := h
  clear h
  replace H := Option.bind_eq_some_iff.mp H
  obtain ⟨t109, A30, H⟩ := H
  replace H : (some t109) = some r := H
  have A3 := Aside0.mk A30
  clear A30
  obtain rfl := Option.some.inj H
  go_enter Try.func22, Try.ntmps22
  go_wp2_with (first | ((with_reducible refine gate_callee (f := 23) rfl ?_); refine goesL_ (some 8) rfl rfl Try.func23 (by kernel_rfl) rfl #[.int .u32 a0, .int .i64 (wrap64 (-a1))] rfl (by (try simp only [List.map_toArray, List.map_cons, List.map_nil]); first | done | rfl | (simp only [List.length_drop, List.length_take]; rfl)) ?_; (with_reducible refine (bits_RotateLeft32.calls a0 (wrap64 (-a1)) t109 _ A3.out).mono ?_); rintro e w' ⟨rfl, ⟨nd, rfl⟩⟩; refine ⟨_, rfl, ?_⟩))
  go_ret
  exact ⟨by first | rfl | (simp; done) | (simp [*]; done), by repeat (first | exact Drawn0.refl _ | apply Drawn0.step)⟩

-- NOT PRINTED: function 20 (sha_words)

-- NOT PRINTED: function 21 (sha_factors)

-- NOT PRINTED: function 17 (sha_State_take)

-- NOT PRINTED: function 14 (sha_State_Write)

-- NOT PRINTED: function 18 (sha_State_Copy)

end Go.Proofs.Ytffiakioddhicaa.PShaTexts
