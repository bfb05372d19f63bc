-- Written by a program of this session (the kit's printer with hand-written contracts among its functions).
-- squeezed
import Derived.Test.YtjhgeppjpofjpaaDoorPSigReadsx0
namespace Go.Proofs.YtjhgeppjpofjpaaDoor.PSigReads
open Go.RowKit Go.Proofs.YtjhgeppjpofjpaaDoorW.PrintWords Go.Proofs.YtjhgeppjpofjpaaDoorW.PrintLast Go.Proofs.YtjhgeppjpofjpaaDoorW.PrintMore
attribute [local go_sem] max2_int min2_int max_two min_two max_three min_three max_four min_four   -- for this text's walks alone
set_option linter.unusedVariables false
set_option linter.unusedSimpArgs false

def sig_strong.f (a0 : Int) : Option (Bool) := if a0 ≥ 1 then (some (decide (a0 ≤ 32))) else (some false)
set_option maxHeartbeats 8000000 in
set_option maxRecDepth 100000 in
theorem sig_strong.calls (a0 : Int) (r : Bool) (w : World) (h : sig_strong.f a0 = some r) :
    Calls Tryd.prog 30 #[.int .i64 a0] w fun e w' => e = .returned (.bool r) ∧ Drawn0 w w' := by
 have H : (if a0 ≥ 1 then (some (decide (a0 ≤ 32))) else (some false)) = some r := h
 clear h
 by_cases c2 : a0 ≥ 1
 ·rw [if_pos c2] at H
  have c2b0 : decide (1 ≤ a0) = true := zd1 c2
  clear c2
  obtain rfl := Option.some.inj H
  go_enter Tryd.func30, Tryd.ntmps30
  go_wp2
  go_ret
  exact ⟨by first | rfl | (simp; done) | (simp [*]; done), by repeat (first | exact Drawn0.refl _ | apply Drawn0.step)⟩
 ·rw [if_neg c2] at H
  have c2b0 : decide (1 ≤ a0) = false := zd2 c2
  clear c2
  obtain rfl := Option.some.inj H
  go_enter Tryd.func30, Tryd.ntmps30
  go_wp2
  go_ret
  exact ⟨by first | rfl | (simp; done) | (simp [*]; done), by repeat (first | exact Drawn0.refl _ | apply Drawn0.step)⟩

def sig_block.f (a0 : Int) : Option (Bool) := if a0 ≥ 16 then (some (decide (a0 ≤ 4096))) else (some false)
set_option maxHeartbeats 8000000 in
set_option maxRecDepth 100000 in
theorem sig_block.calls (a0 : Int) (r : Bool) (w : World) (h : sig_block.f a0 = some r) :
    Calls Tryd.prog 31 #[.int .i64 a0] w fun e w' => e = .returned (.bool r) ∧ Drawn0 w w' := by
 have H : (if a0 ≥ 16 then (some (decide (a0 ≤ 4096))) else (some false)) = some r := h
 clear h
 by_cases c2 : a0 ≥ 16
 ·rw [if_pos c2] at H
  have c2b0 : decide (16 ≤ a0) = true := zd1 c2
  clear c2
  obtain rfl := Option.some.inj H
  go_enter Tryd.func31, Tryd.ntmps31
  go_wp2
  go_ret
  exact ⟨by first | rfl | (simp; done) | (simp [*]; done), by repeat (first | exact Drawn0.refl _ | apply Drawn0.step)⟩
 ·rw [if_neg c2] at H
  have c2b0 : decide (16 ≤ a0) = false := zd2 c2
  clear c2
  obtain rfl := Option.some.inj H
  go_enter Tryd.func31, Tryd.ntmps31
  go_wp2
  go_ret
  exact ⟨by first | rfl | (simp; done) | (simp [*]; done), by repeat (first | exact Drawn0.refl _ | apply Drawn0.step)⟩

def blocks_Length.l0 : Nat → Int → Int → Option (Int)
 | 0, _, _ => none
 | k + 1, x0, x3 => if x3 < 4096 then (if (wrap64 (x3 * x3)) < x0 then (blocks_Length.l0 k x0 (wrap64 (x3 * 2))) else (some x3)) else (some x3)
def blocks_Length.f (k : Nat) (a0 : Int) : Option (Int) := blocks_Length.l0 k a0 16
theorem blocks_Length.mono_l : ∀ k, (∀ y0 y1, LeO (blocks_Length.l0 k y0 y1) (blocks_Length.l0 (k + 1) y0 y1))
 | 0 => fun _ _ r h => by simp [blocks_Length.l0] at h
 | k + 1 => by
  have ih0 := blocks_Length.mono_l k
  ·intro y0 y1
   unfold blocks_Length.l0
   repeat' first
   | (with_reducible exact ih0 _ _)
   | (with_reducible exact LeO.refl _)
   | (with_reducible exact LeO.none _)
   | (with_reducible refine LeO.ite ?_ ?_)
   | (with_reducible refine LeO.bind ?_ (fun _ => ?_))
   | exact ih0 _ _
   | exact LeO.none _
   | refine LeO.ite ?_ ?_
   | refine LeO.bind ?_ (fun _ => ?_)
theorem blocks_Length.mono : ∀ a0 k, LeO (blocks_Length.f k a0) (blocks_Length.f (k + 1) a0) := by
 intro a0 k
 have ih0 := blocks_Length.mono_l k
 unfold blocks_Length.f
 repeat' first
     | (with_reducible exact ih0 _ _)
     | (with_reducible exact LeO.refl _)
     | (with_reducible exact LeO.none _)
     | (with_reducible refine LeO.ite ?_ ?_)
     | (with_reducible refine LeO.bind ?_ (fun _ => ?_))
     | exact ih0 _ _
     | exact LeO.none _
     | refine LeO.ite ?_ ?_
     | refine LeO.bind ?_ (fun _ => ?_)
set_option maxHeartbeats 8000000 in
set_option maxRecDepth 100000 in
theorem blocks_Length.calls (k : Nat) (a0 : Int) (r : Int) (w : World) (h : blocks_Length.f k a0 = some r) :
    Calls Tryd.prog 32 #[.int .i64 a0] w fun e w' => e = .returned (.int .i64 r) ∧ Drawn0 w w' := by
 have H : (blocks_Length.l0 k a0 16) = some r := h
 clear h
 have H' := zA H
 clear H
 go_enter Tryd.func32, Tryd.ntmps32
 go_wp2
 go_loopg [3] k (fun kq v3 w' => ∃ (x3_1 : Int), v3 = .int .i64 x3_1 ∧ Aside0 (blocks_Length.l0 kq a0 x3_1 = some r) ∧ Aside0 (kq ≤ k) ∧ Drawn0 w w')
 case atStart => exact ⟨(16), (by first | rfl | (simp; done) | (simp [*]; done)), H', ⟨Nat.le_refl _⟩, by repeat (first | exact Drawn0.refl _ | apply Drawn0.step)⟩
 case round =>
  clear H'
  obtain ⟨x3_1, rfl, HA, HK1, ⟨m1, rfl⟩⟩ := hrel
  cases gk with
  | zero => exact absurd HA.out (by simp [blocks_Length.l0])
  | succ k1 =>
   have H := HA.out
   clear HA
   simp only [blocks_Length.l0] at H
   by_cases c2 : x3_1 < 4096
   ·rw [if_pos c2] at H
    have c2b0 : decide (x3_1 < 4096) = true := zd1 c2
    clear c2
    by_cases c3 : (wrap64 (x3_1 * x3_1)) < a0
    ·rw [if_pos c3] at H
     have c3b0 : decide ((wrap64 (x3_1 * x3_1)) < a0) = true := zd1 c3
     clear c3
     have H' := zA H
     clear H
     go_wp2
     go_roundg k1
     case measure => have := HK1.out; omega
     case rel => exact ⟨(wrap64 (x3_1 * 2)), (by first | rfl | (simp; done) | (simp [*]; done)), H', ⟨by have := HK1.out; omega⟩, by repeat (first | exact Drawn0.refl _ | apply Drawn0.step)⟩
    ·rw [if_neg c3] at H
     have c3b0 : decide ((wrap64 (x3_1 * x3_1)) < a0) = false := zd2 c3
     clear c3
     obtain rfl := Option.some.inj H
     go_wp2
     go_ret
     exact ⟨by first | rfl | (simp; done) | (simp [*]; done), by repeat (first | exact Drawn0.refl _ | apply Drawn0.step)⟩
   ·rw [if_neg c2] at H
    have c2b0 : decide (x3_1 < 4096) = false := zd2 c2
    clear c2
    obtain rfl := Option.some.inj H
    go_wp2
    go_ret
    exact ⟨by first | rfl | (simp; done) | (simp [*]; done), by repeat (first | exact Drawn0.refl _ | apply Drawn0.step)⟩

def blocks_block.f (a0 : Int) : Option (Bool) := if a0 ≥ 16 then (some (decide (a0 ≤ 4096))) else (some false)
set_option maxHeartbeats 8000000 in
set_option maxRecDepth 100000 in
theorem blocks_block.calls (a0 : Int) (r : Bool) (w : World) (h : blocks_block.f a0 = some r) :
    Calls Tryd.prog 51 #[.int .i64 a0] w fun e w' => e = .returned (.bool r) ∧ Drawn0 w w' := by
 have H : (if a0 ≥ 16 then (some (decide (a0 ≤ 4096))) else (some false)) = some r := h
 clear h
 by_cases c2 : a0 ≥ 16
 ·rw [if_pos c2] at H
  have c2b0 : decide (16 ≤ a0) = true := zd1 c2
  clear c2
  obtain rfl := Option.some.inj H
  go_enter Tryd.func51, Tryd.ntmps51
  go_wp2
  go_ret
  exact ⟨by first | rfl | (simp; done) | (simp [*]; done), by repeat (first | exact Drawn0.refl _ | apply Drawn0.step)⟩
 ·rw [if_neg c2] at H
  have c2b0 : decide (16 ≤ a0) = false := zd2 c2
  clear c2
  obtain rfl := Option.some.inj H
  go_enter Tryd.func51, Tryd.ntmps51
  go_wp2
  go_ret
  exact ⟨by first | rfl | (simp; done) | (simp [*]; done), by repeat (first | exact Drawn0.refl _ | apply Drawn0.step)⟩

def blocks_Right.f (a0 : Int) (a1 : Int) : Option (Bool) := if a0 ≥ 0 then (if a0 ≤ 131072 then ((blocks_block.f a1).bind fun t101 => (some t101)) else (some false)) else (some false)
set_option maxHeartbeats 8000000 in
set_option maxRecDepth 100000 in
theorem blocks_Right.calls (a0 : Int) (a1 : Int) (r : Bool) (w : World) (h : blocks_Right.f a0 a1 = some r) :
    Calls Tryd.prog 68 #[.int .i64 a0, .int .i64 a1] w fun e w' => e = .returned (.bool r) ∧ Drawn0 w w' := by
 have H : (if a0 ≥ 0 then (if a0 ≤ 131072 then ((blocks_block.f a1).bind fun t101 => (some t101)) else (some false)) else (some false)) = some r := h
 clear h
 by_cases c3 : a0 ≥ 0
 ·rw [if_pos c3] at H
  have c3b0 : decide (0 ≤ a0) = true := zd1 c3
  clear c3
  by_cases c4 : a0 ≤ 131072
  ·rw [if_pos c4] at H
   have c4b0 : decide (a0 ≤ 131072) = true := zd1 c4
   clear c4
   replace H := Option.bind_eq_some_iff.mp H
   obtain ⟨t101, A50, H⟩ := H
   replace H : (some t101) = some r := H
   have A5 := zA A50
   clear A50
   obtain rfl := Option.some.inj H
   go_enter Tryd.func68, Tryd.ntmps68
   go_wp2_with (first | (go_at_call 51; (with_reducible refine (blocks_block.calls a1 t101 _ A5.out).mono ?_); rintro e w' ⟨rfl, ⟨nd, rfl⟩⟩))
   go_ret
   exact ⟨by first | rfl | (simp; done) | (simp [*]; done), by repeat (first | exact Drawn0.refl _ | apply Drawn0.step)⟩
  ·rw [if_neg c4] at H
   have c4b0 : decide (a0 ≤ 131072) = false := zd2 c4
   clear c4
   obtain rfl := Option.some.inj H
   go_enter Tryd.func68, Tryd.ntmps68
   go_wp2
   go_ret
   exact ⟨by first | rfl | (simp; done) | (simp [*]; done), by repeat (first | exact Drawn0.refl _ | apply Drawn0.step)⟩
 ·rw [if_neg c3] at H
  have c3b0 : decide (0 ≤ a0) = false := zd2 c3
  clear c3
  obtain rfl := Option.some.inj H
  go_enter Tryd.func68, Tryd.ntmps68
  go_wp2
  go_ret
  exact ⟨by first | rfl | (simp; done) | (simp [*]; done), by repeat (first | exact Drawn0.refl _ | apply Drawn0.step)⟩

def blocks_Count.f (a0 : Int) (a1 : Int) : Option (Int) := (blocks_Right.f a0 a1).bind fun t102 => (if t102 = true then (if a1 = 0 then (none) else (some (wrap64 (Int.tdiv (wrap64 ((wrap64 (a0 + a1)) - 1)) a1)))) else (some 0))
set_option maxHeartbeats 8000000 in
set_option maxRecDepth 100000 in
theorem blocks_Count.calls (a0 : Int) (a1 : Int) (r : Int) (w : World) (h : blocks_Count.f a0 a1 = some r) :
    Calls Tryd.prog 45 #[.int .i64 a0, .int .i64 a1] w fun e w' => e = .returned (.int .i64 r) ∧ Drawn0 w w' := by
 have H : ((blocks_Right.f a0 a1).bind fun t102 => (if t102 = true then (if a1 = 0 then (none) else (some (wrap64 (Int.tdiv (wrap64 ((wrap64 (a0 + a1)) - 1)) a1)))) else (some 0))) = some r := h
 clear h
 replace H := Option.bind_eq_some_iff.mp H
 obtain ⟨t102, A30, H⟩ := H
 replace H : (if t102 = true then (if a1 = 0 then (none) else (some (wrap64 (Int.tdiv (wrap64 ((wrap64 (a0 + a1)) - 1)) a1)))) else (some 0)) = some r := H
 have A3 := zA A30
 clear A30
 by_cases c4 : t102 = true
 ·subst c4
  have H1 : (if a1 = 0 then (none) else (some (wrap64 (Int.tdiv (wrap64 ((wrap64 (a0 + a1)) - 1)) a1)))) = some r := by rw [if_pos rfl] at H; exact H
  clear H
  have H := H1
  clear H1
  by_cases c5 : a1 = 0
  ·rw [if_pos c5] at H
   exact absurd H (by simp)
  ·rw [if_neg c5] at H
   have c5b0 : (a1 == 0) = false := beq_eq_false_iff_ne.mpr c5
   have c5b1 : (a1 != 0) = true := bne_iff_ne.mpr c5
   obtain rfl := Option.some.inj H
   go_enter Tryd.func45, Tryd.ntmps45
   go_wp2_with (first | ((with_reducible refine gate_callee (f := 68) rfl ?_); refine goesL_ (some 7) rfl rfl Tryd.func68 (by kernel_rfl) rfl #[.int .i64 a0, .int .i64 a1] rfl (by (try simp only [zm1, zm2, zm3]); first | done | rfl | (simp only [List.length_drop, List.length_take]; rfl)) ?_; (with_reducible refine (blocks_Right.calls a0 a1 true _ A3.out).mono ?_); rintro e w' ⟨rfl, ⟨nd, rfl⟩⟩; refine ⟨_, rfl, ?_⟩))
   go_ret
   exact ⟨by first | rfl | (simp; done) | (simp [*]; done), by repeat (first | exact Drawn0.refl _ | apply Drawn0.step)⟩
 ·replace c4 := Bool.eq_false_iff.mpr c4
  subst c4
  have H1 : (some 0) = some r := by rw [if_neg (show ¬ (false = true) by decide)] at H; exact H
  clear H
  have H := H1
  clear H1
  obtain rfl := Option.some.inj H
  go_enter Tryd.func45, Tryd.ntmps45
  go_wp2_with (first | ((with_reducible refine gate_callee (f := 68) rfl ?_); refine goesL_ (some 7) rfl rfl Tryd.func68 (by kernel_rfl) rfl #[.int .i64 a0, .int .i64 a1] rfl (by (try simp only [zm1, zm2, zm3]); first | done | rfl | (simp only [List.length_drop, List.length_take]; rfl)) ?_; (with_reducible refine (blocks_Right.calls a0 a1 false _ A3.out).mono ?_); rintro e w' ⟨rfl, ⟨nd, rfl⟩⟩; refine ⟨_, rfl, ?_⟩))
  go_ret
  exact ⟨by first | rfl | (simp; done) | (simp [*]; done), by repeat (first | exact Drawn0.refl _ | apply Drawn0.step)⟩

def blocks_Range.f (a0 : Int) (a1 : Int) (a2 : Int) : Option (Int × Int × Bool) := if a2 < 0 then (some (0, 0, false)) else ((blocks_Count.f a0 a1).bind fun t103 => (if a2 ≥ t103 then (some (0, 0, false)) else (some (wrap64 (a2 * a1), mn a0 (wrap64 ((wrap64 (a2 + 1)) * a1)), true))))
set_option maxHeartbeats 8000000 in
set_option maxRecDepth 100000 in
theorem blocks_Range.calls (a0 : Int) (a1 : Int) (a2 : Int) (r1 : Int) (r2 : Int) (r3 : Bool) (w : World) (h : blocks_Range.f a0 a1 a2 = some (r1, r2, r3)) :
    Calls Tryd.prog 39 #[.int .i64 a0, .int .i64 a1, .int .i64 a2] w fun e w' => e = .returned (.tuple #[.int .i64 r1, .int .i64 r2, .bool r3]) ∧ Below w.heap.size w w' := by
 have HB := zA (Below.refl w.heap.size w)
 have H : (if a2 < 0 then (some (0, 0, false)) else ((blocks_Count.f a0 a1).bind fun t103 => (if a2 ≥ t103 then (some (0, 0, false)) else (some (wrap64 (a2 * a1), mn a0 (wrap64 ((wrap64 (a2 + 1)) * a1)), true))))) = some (r1, r2, r3) := h
 clear h
 by_cases c4 : a2 < 0
 ·rw [if_pos c4] at H
  have c4b0 : decide (a2 < 0) = true := zd1 c4
  clear c4
  simp only [Option.some.injEq, Prod.mk.injEq] at H
  obtain ⟨rfl, rfl, rfl⟩ := H
  go_enter Tryd.func39, Tryd.ntmps39
  go_wp2
  go_ret3
  exact ⟨by first | rfl | (simp [*] <;> rfl), by repeat (first | (with_reducible first | exact HB.out | apply zb3 | apply zb1 | apply zb2) | exact HB.out)⟩
 ·rw [if_neg c4] at H
  have c4b0 : decide (a2 < 0) = false := zd2 c4
  clear c4
  replace H := Option.bind_eq_some_iff.mp H
  obtain ⟨t103, A50, H⟩ := H
  replace H : (if a2 ≥ t103 then (some (0, 0, false)) else (some (wrap64 (a2 * a1), mn a0 (wrap64 ((wrap64 (a2 + 1)) * a1)), true))) = some (r1, r2, r3) := H
  have A5 := zA A50
  clear A50
  by_cases c6 : a2 ≥ t103
  ·rw [if_pos c6] at H
   have c6b0 : decide (t103 ≤ a2) = true := zd1 c6
   clear c6
   simp only [Option.some.injEq, Prod.mk.injEq] at H
   obtain ⟨rfl, rfl, rfl⟩ := H
   go_enter Tryd.func39, Tryd.ntmps39
   go_wp2_with (first | (go_at_call 45; (with_reducible refine (blocks_Count.calls a0 a1 t103 _ A5.out).mono ?_); rintro e w' ⟨rfl, ⟨nd, rfl⟩⟩))
   go_ret3
   exact ⟨by first | rfl | (simp [*] <;> rfl), by repeat (first | (with_reducible first | exact HB.out | apply zb3 | apply zb1 | apply zb2) | exact HB.out)⟩
  ·rw [if_neg c6] at H
   have c6b0 : decide (t103 ≤ a2) = false := zd2 c6
   clear c6
   obtain ⟨ji7, hji7⟩ : ∃ j_ : Int, (mn a0 (wrap64 ((wrap64 (a2 + 1)) * a1))) = j_ := ⟨_, rfl⟩
   replace H : (some (wrap64 (a2 * a1), ji7, true)) = some (r1, r2, r3) := by first | (rw [hji7] at H; exact H) | (simp only [hji7] at H ⊢; exact H)
   (try rw [hji7] at A5)
   have hji7_ : (if (wrap64 ((wrap64 (a2 + 1)) * a1)) < a0 then (wrap64 ((wrap64 (a2 + 1)) * a1)) else a0) = ji7 := hji7
   simp only [Option.some.injEq, Prod.mk.injEq] at H
   obtain ⟨rfl, rfl, rfl⟩ := H
   go_enter Tryd.func39, Tryd.ntmps39
   go_wp2_with (first | (go_at_call 45; (with_reducible refine (blocks_Count.calls a0 a1 t103 _ A5.out).mono ?_); rintro e w' ⟨rfl, ⟨nd, rfl⟩⟩))
   go_ret3
   exact ⟨by first | rfl | (simp [errW_none, errW_some] <;> rfl) | (simp only [← hji7]; first | rfl | (simp [errW_none, errW_some] <;> rfl)) | (simp [*, errW_none, errW_some] <;> rfl), by repeat (first | (with_reducible first | exact HB.out | apply zb3 | apply zb1 | apply zb2) | exact HB.out)⟩

theorem start_round {P : Program} {ops : Array Oper} {Q : Exit → Act → World → Prop} {S : World → Prop} {ds : List Nat} {id n r m : Nat} {a : Act} {w : World} (l : Array Bool) (hm : P.follows .mixedOrders = true) (hn : ops.size = n) (hl : Array.replicate n false = l)
    (hd : RdKit.calm ops = true) (hQ : ¬ LetsOut Q) (hS : S w.drew) (h : S w.drew → wpAnyLast P .any ops Q S ds n l a w.drew) : (Code.region id ops true).wpIn (Fence.wide.inRound r) m P Q a w := by
 subst hn
 subst hl
 exact RdKit.region_round_any hm hd hQ (wpAny_of_last _ _ _ _ (h hS))
def cutRow (l0 : List Int) (a1 : Int) (i : Nat) : List Int := (l0.take (mn (l0.length : Int) (wrap64 (wrap64 ((i : Int) + 1) * a1))).toNat).drop (wrap64 ((i : Int) * a1)).toNat
def cutNum (l0 : List Int) (a1 : Int) : Nat := (l0.length + a1.toNat - 1) / a1.toNat
theorem cut_facts {l0 : List Int} {a1 : Int} (h1 : 16 ≤ a1) (h2 : a1 ≤ 4096) (h3 : l0.length ≤ 131072) :
    blocks_Count.f l0.length a1 = some ((cutNum l0 a1 : Nat) : Int) ∧ cutNum l0 a1 ≤ 131072 ∧
    ∀ i : Nat, i < cutNum l0 a1 → ∃ f t : Int, blocks_Range.f l0.length a1 (i : Int) = some (f, t, true) ∧ 0 ≤ f ∧ f ≤ t ∧ t ≤ l0.length ∧ cutRow l0 a1 i = (l0.take t.toNat).drop f.toNat := by
 have hb : blocks_block.f a1 = some true := by unfold blocks_block.f; rw [if_pos h1, zd1 h2]
 have hr : blocks_Right.f (l0.length : Int) a1 = some true := by unfold blocks_Right.f; rw [if_pos (by omega), if_pos (by omega), hb]; rfl
 obtain ⟨b, rfl⟩ : ∃ b : Nat, a1 = (b : Int) := ⟨a1.toNat, by omega⟩
 have hbp : 0 < b := by omega
 have hN : cutNum l0 (b : Int) ≤ 131072 := by
  unfold cutNum
  rw [Int.toNat_natCast]
  refine Nat.le_trans (Nat.div_le_div_right (c := b) (show l0.length + b - 1 ≤ 131072 * b by omega)) ?_
  rw [Nat.mul_div_cancel _ hbp]
  exact Nat.le_refl _
 have hC : blocks_Count.f (l0.length : Int) (b : Int) = some ((cutNum l0 (b : Int) : Nat) : Int) := by
  unfold blocks_Count.f
  rw [hr, Option.bind_some, if_pos rfl, if_neg (by omega)]
  have e1 : wrap64 ((l0.length : Int) + (b : Int)) = ((l0.length + b : Nat) : Int) := by unfold wrap64; omega
  rw [e1, show wrap64 (((l0.length + b : Nat) : Int) - 1) = ((l0.length + b - 1 : Nat) : Int) by unfold wrap64; omega]
  rw [show Int.tdiv ((l0.length + b - 1 : Nat) : Int) (b : Int) = (((l0.length + b - 1) / b : Nat) : Int) from rfl]
  have : (l0.length + b - 1) / b ≤ 131072 := by have := hN; unfold cutNum at this; rwa [Int.toNat_natCast] at this
  rw [show wrap64 (((l0.length + b - 1) / b : Nat) : Int) = (((l0.length + b - 1) / b : Nat) : Int) by generalize (l0.length + b - 1) / b = q at this ⊢; unfold wrap64; omega]
  unfold cutNum
  rw [Int.toNat_natCast]
 refine ⟨hC, hN, fun i hi => ?_⟩
 have hib : i * b < l0.length := by
  unfold cutNum at hi
  rw [Int.toNat_natCast] at hi
  have := (Nat.le_div_iff_mul_le hbp).1 (show i + 1 ≤ (l0.length + b - 1) / b from hi)
  rw [Nat.add_mul, Nat.one_mul] at this
  omega
 have e1 : wrap64 ((i : Int) * (b : Int)) = ((i * b : Nat) : Int) := by
  rw [show (i : Int) * (b : Int) = ((i * b : Nat) : Int) by push_cast; rfl]
  generalize i * b = q at hib ⊢
  unfold wrap64
  omega
 have e2 : wrap64 (wrap64 ((i : Int) + 1) * (b : Int)) = ((i * b + b : Nat) : Int) := by
  rw [show wrap64 ((i : Int) + 1) = ((i + 1 : Nat) : Int) by unfold wrap64; omega, show ((i + 1 : Nat) : Int) * (b : Int) = ((i * b + b : Nat) : Int) by push_cast; rw [Int.add_mul, Int.one_mul]]
  generalize i * b = q at hib ⊢
  unfold wrap64
  omega
 refine ⟨((i * b : Nat) : Int), mn (l0.length : Int) ((i * b + b : Nat) : Int), ?_, by omega, ?_, ?_, ?_⟩
 ·unfold blocks_Range.f
  rw [if_neg (by omega), hC, Option.bind_some, if_neg (by omega), e1, e2]
 ·unfold mn; split <;> omega
 ·unfold mn; split <;> omega
 ·unfold cutRow
  rw [e1, e2]
def EachRd (row : Nat → List Int) (i : Nat) (args : Array Value) (W : World) : Prop :=
 ∃ A c, args = #[.int .i64 (i : Int), .slice A (row i).length c] ∧ (Kd.int .u8).C W A (row i).length (row i) ∧ (row i).length ≤ c
def EachIt (g1 g2 : Nat) (A0 : Option Addr) (c0 : Nat) (l0 : List Int) (a1 : Int) (W : World) : Prop :=
 W.heap[g1]? = some (.cells #[.slice A0 l0.length c0] 22 (0, 0)) ∧ W.heap[g2]? = some (.cells #[.int .i64 a1] 3 (0, 0)) ∧ (Kd.int .u8).C W A0 l0.length l0
theorem C_putObj {W : World} {A : Option Addr} {n l : Nat} {xs : List Int} {r : Loop} {o : Obj} (h : (Kd.int .u8).C W A n xs) (hl : W.heap[l]? = some (.loop r)) : (Kd.int .u8).C (W.putObj l o) A n xs := by
 refine ⟨h.1, h.2.1, fun hn => ?_⟩
 obtain ⟨ad, e, hc⟩ := h.2.2 hn
 refine ⟨ad, e, fun j p hp => ?_⟩
 obtain ⟨c, h1, h2, h3⟩ := hc j p hp
 exact ⟨c, h1, h2, fun i u hu => RdKit.cell_putObj (h3 i u hu) hl⟩
theorem EachRd.put {row : Nat → List Int} {i : Nat} {args : Array Value} {W : World} {l : Nat} {r : Loop} {o : Obj} (h : EachRd row i args W) (hl : W.heap[l]? = some (.loop r)) : EachRd row i args (W.putObj l o) := by
 obtain ⟨A, c, e, h1, h2⟩ := h
 exact ⟨A, c, e, C_putObj h1 hl, h2⟩
theorem EachIt.put {g1 g2 : Nat} {A0 : Option Addr} {c0 : Nat} {l0 : List Int} {a1 : Int} {W : World} {l : Nat} {r : Loop} {o : Obj} (h : EachIt g1 g2 A0 c0 l0 a1 W) (hl : W.heap[l]? = some (.loop r)) : EachIt g1 g2 A0 c0 l0 a1 (W.putObj l o) := by
 obtain ⟨h1, h2, h3⟩ := h
 refine ⟨(World.putObj_heap_other (fun e => ?_)).trans h1, (World.putObj_heap_other (fun e => ?_)).trans h2, C_putObj h3 hl⟩
 ·rw [← e, h1] at hl; cases hl
 ·rw [← e, h2] at hl; cases hl
theorem EachIt.below {g1 g2 : Nat} {A0 : Option Addr} {c0 : Nat} {l0 : List Int} {a1 : Int} {W W' : World} (h : EachIt g1 g2 A0 c0 l0 a1 W) (hb : Below W.heap.size W W') : EachIt g1 g2 A0 c0 l0 a1 W' := by
 obtain ⟨h1, h2, h3⟩ := h
 exact ⟨(hb.block _ (Array.getElem?_eq_some_iff.1 h1).1).trans h1, (hb.block _ (Array.getElem?_eq_some_iff.1 h2).1).trans h2, Kd.C_below h3 hb⟩
set_option maxHeartbeats 8000000 in
set_option maxRecDepth 100000 in
theorem each_iter (g1 g2 : Nat) (A0 : Option Addr) (c0 : Nat) (l0 : List Int) (a1 : Int) (N : Nat) (row : Nat → List Int) (hc0 : l0.length ≤ c0) (hl : l0.length ≤ 131072)
    (hN : blocks_Count.f l0.length a1 = some (N : Int)) (hNs : N ≤ 131072)
    (hR : ∀ i : Nat, i < N → ∃ f t : Int, blocks_Range.f l0.length a1 (i : Int) = some (f, t, true) ∧ 0 ≤ f ∧ f ≤ t ∧ t ≤ l0.length ∧ row i = (l0.take t.toNat).drop f.toNat) :
    RdKit.IterC Tryd.prog 57 #[.pointer (some ⟨g1, 0, none⟩), .pointer (some ⟨g2, 0, none⟩)] (EachRd row) N (EachIt g1 g2 A0 c0 l0 a1) := by
 intro l J Jx W hIt hJ0 hJb hround
 refine callsIn_wide.2 ?_
 have HN := zA hN
 have HNS := zA hNs
 have HL := zA hl
 have HC := zA hc0
 have HRG := zA hR
 have HJb := zA hJb
 have HRD := zA hround
 clear hN hNs hl hc0 hR hJb hround
 have HI := zA hIt
 have HJ := zA hJ0
 have q1 : W.cell? ⟨g1, 0, none⟩ = some (.slice A0 l0.length c0) := (zc1 hIt.1 0).trans rfl
 have q2 : W.cell? ⟨g2, 0, none⟩ = some (.int .i64 a1) := (zc1 hIt.2.1 0).trans rfl
 clear hIt hJ0
 simp only [List.append_toArray, List.cons_append, List.nil_append]
 go_enter Tryd.func57, Tryd.ntmps57
 go_wp2_with (first | (go_at_call 45; (with_reducible refine (blocks_Count.calls _ _ _ _ HN.out).mono ?_); rintro e w' ⟨rfl, ⟨nd, rfl⟩⟩))
 have hb0 := zb1 (Below.refl W.heap.size W) nd
 go_loopg [12] (N + 1) (fun kq v12 w' => ∃ i : Nat, v12 = .int .i64 (i : Int) ∧ Aside0 (i + kq = N + 1 ∧ i ≤ N) ∧ Aside0 (J i w') ∧ Aside0 (EachIt g1 g2 A0 c0 l0 a1 w'))
 case atStart => exact ⟨0, rfl, ⟨by omega, by omega⟩, ⟨HJb.out 0 _ _ HJ.out hb0⟩, ⟨HI.out.below hb0⟩⟩
 case round =>
  clear HJ HI q1 q2 hb0
  obtain ⟨i, rfl, hk, HJ, HI⟩ := hrel
  by_cases hlt : i < N
  ·obtain ⟨f, t, hr1, hr0, hr2, hr3, hr4⟩ := HRG.out i hlt
   have hd0 : decide ((i : Int) < (N : Int)) = true := by simp; omega
   have hd1 : decide (i < N) = true := by simp; omega
   have HR1 := zA hr1
   have HR0 := zA hr0
   have HR2 := zA hr2
   have HR3 := zA hr3
   have HR4 := zA hr4
   have HLT := zA hlt
   clear hr1 hr0 hr2 hr3 hr4 hlt
   have q1 : wr.cell? ⟨g1, 0, none⟩ = some (.slice A0 l0.length c0) := (zc1 HI.out.1 0).trans rfl
   have q2 : wr.cell? ⟨g2, 0, none⟩ = some (.int .i64 a1) := (zc1 HI.out.2.1 0).trans rfl
   go_upto_region 4 with (first | (go_at_call 39; (with_reducible refine (blocks_Range.calls _ _ _ _ _ _ _ HR1.out).mono ?_); rintro e w2 ⟨rfl, hb⟩; replace HI := zA (HI.out.below hb); replace HJ := zA (HJb.out _ _ _ HJ.out hb); replace q1 : w2.cell? ⟨g1, 0, none⟩ = some (.slice A0 l0.length c0) := (zc1 HI.out.1 0).trans rfl; replace q2 : w2.cell? ⟨g2, 0, none⟩ = some (.int .i64 a1) := (zc1 HI.out.2.1 0).trans rfl; clear hb))
   refine (wpIn_wide (n := 0)).1 ?_
   refine wpIn_region_lit ?_
   refine RdKit.listIn_take (k := 7) (fun ⟨_, _, h⟩ => by obtain ⟨⟨_, h⟩, _⟩ := h; cases h) (by rfl) ?_
   simp only [List.take_succ_cons, List.take_zero, List.drop_succ_cons, List.drop_zero]
   have HB := zA (Below.refl w2.heap.size w2)
   have h1 : decide ((0 : Int) ≤ f) = true := zd1 HR0.out
   have h0' := eq_true HR0.out
   have h2' := eq_true HR2.out
   have h3' := eq_true HR3.out
   have h2 : decide (f ≤ t) = true := zd1 HR2.out
   have h3 : decide (t ≤ (l0.length : Int)) = true := zd1 HR3.out
   obtain ⟨i0, hi0, _, hsz, _⟩ := info_parts info5
   obtain ⟨A5, hcut, hA5, hC5⟩ := print_mid_of (P := Tryd.prog) (Value.int .u8) 0 22 5 .i64 .i64 Tryd.underlying22 hi0 hsz A0 c0 l0 f t (zd3 h1) (zd3 h2) (zd3 h3) HC.out
   have HR5 := zA (Kd.C_of_reads (h1 := fun _ => rfl) (hA5 _ (Kd.reads_of_C HI.out.2.2)))
   clear hA5 hC5 hi0 hsz
   have hlen : ((l0.take t.toNat).drop f.toNat).length = t.toNat - f.toNat := by have h0 := HR0.out; have h2 := HR2.out; have h3 := HR3.out; rw [List.length_drop, List.length_take]; omega
   have HLEN := zA hlen
   clear hlen
   go_wp2_with (first | ((with_reducible refine gate_dst (N := 30) rfl ?_); refine Kd.R_append_row (Value.int .u8) (0 : Int) (h1 := fun _ => rfl) (w0 := w2) w2.heap.size rfl (.const (.slice none 0 0)) (.tmp 29) 22 5 (.int .u8 0) 1 rfl Tryd.underlying22 info5 rfl (by decide) (.slice none 0 0) ([] : List Int) ((l0.take t.toNat).drop f.toNat) _ _ _ (fun _ => True) rfl rfl (fun _ _ => trivial) (Kd.R_nil _ _ _ _ _) ?aR HB.out (Nat.le_refl _) ?aL ?_; (case aR => rw [← HLEN.out]; exact HR5.out); (case aL => have := HLEN.out; have := HL.out; have := HR3.out; simp only [List.length_nil]; omega); intro v w3 ho hb hg hat; rw [List.nil_append, ← HR4.out] at ho; obtain ⟨A6, c6, hv6, hc6, hr6⟩ := Kd.R_reads ho; subst hv6; have HO := zA hr6; have HO2 := zA hc6; replace HI := zA (HI.out.below hb); replace HJ := zA (HJb.out _ _ _ HJ.out hb); clear ho hg hat hr6 hc6 hb))
   clear q1 q2 h1 h0' h2' h3' h2 h3
   obtain ⟨fn, tmps, assign, body, hy, hRo⟩ := HRD.out i _ w3 HLT.out HJ.out HI.out ⟨A6, c6, rfl, HO.out, HO2.out⟩
   go_simp
   gi_wp2
   refine ⟨rfl, hRo.mono ?_⟩
   clear hy hRo
   rintro e W3 (⟨rfl, hJ3, hI3⟩ | ⟨rfl, hJx3⟩)
   ·have HJ3 := zA hJ3
    have HI3 := zA hI3
    clear hJ3 hI3
    obtain ⟨k1, rfl⟩ : ∃ k1, gk = k1 + 1 := ⟨gk - 1, by have := hk.out; have := HLT.out; omega⟩
    have hw : wrap64 ((i : Int) + 1) = ((i + 1 : Nat) : Int) := by have := HLT.out; have := HNS.out; unfold wrap64; omega
    gi_wp2
    go_wp2
    go_roundg k1
    case measure => omega
    case rel => exact ⟨i + 1, by rw [hw], ⟨by have := hk.out; omega, by have := HLT.out; omega⟩, HJ3, HI3⟩
   ·have HX := zA hJx3
    clear hJx3
    gi_wp2
    go_wp2
    refine bodyPost_ret (results_none rfl _ _ _) rfl ?_
    exact ⟨⟨_, rfl⟩, .inr HX.out⟩
  ·have e := hk.out
   have he : i = N := by omega
   have hd0 : decide ((i : Int) < (N : Int)) = false := by simp; omega
   have hd1 : decide (i < N) = false := by simp; omega
   clear hlt e
   go_wp2
   go_end0
   exact ⟨⟨_, rfl⟩, .inl (by rw [← he]; exact HJ.out)⟩
set_option maxHeartbeats 8000000 in
set_option maxRecDepth 100000 in
theorem each_calls (A0 : Option Addr) (c0 : Nat) (l0 : List Int) (a1 : Int) (w : World) (hr0 : Kd.C (Kd.int .u8) w A0 l0.length l0) :
    Calls Tryd.prog 33 #[.slice A0 l0.length c0, .int .i64 a1] w fun e w' => ∃ g1 g2 : Nat, e = .returned (.func (.func 57) #[] #[.pointer (some ⟨g1, 0, none⟩), .pointer (some ⟨g2, 0, none⟩)]) ∧ EachIt g1 g2 A0 c0 l0 a1 w' ∧ Below w.heap.size w w' ∧ w.heap.size ≤ g1 ∧ w.heap.size ≤ g2 := by
 have HR := zA hr0
 clear hr0
 go_enter Tryd.func33, Tryd.ntmps33
 go_wp2
 go_ret
 have hb : Below w.heap.size w ((w.alloc (Obj.cells #[Value.slice A0 l0.length c0] 22)).alloc (Obj.cells #[Value.int IntKind.i64 a1] 3)) := zb3 (zb3 (Below.refl _ _) _) _
 refine ⟨w.heap.size, w.heap.size + 1, rfl, ⟨?_, ?_, Kd.C_below HR.out hb⟩, hb, Nat.le_refl _, Nat.le_succ _⟩
 ·exact (Below.heap_alloc _ _ _ (by simp)).trans (World.alloc_heap_new w _)
 ·have := World.alloc_heap_new (w.alloc (Obj.cells #[Value.slice A0 l0.length c0] 22)) (Obj.cells #[Value.int IntKind.i64 a1] 3)
  rwa [World.size_alloc] at this

-- NOT PRINTED: function 81 (sha_first)

-- NOT PRINTED: function 71 (sha_New)

def bits_RotateLeft32.f (a0 : Int) (a1 : Int) : Option (Int) := if 0 ≤ (Go.bits .and .u64 (IntKind.u64.wrap (a1)) 31) then (if 0 ≤ (IntKind.u64.wrap (32 - (Go.bits .and .u64 (IntKind.u64.wrap (a1)) 31))) then (some (Go.bits .or .u32 (shl .u32 a0 (Go.bits .and .u64 (IntKind.u64.wrap (a1)) 31)) (shr .u32 a0 (IntKind.u64.wrap (32 - (Go.bits .and .u64 (IntKind.u64.wrap (a1)) 31)))))) else (none)) else (none)
set_option maxHeartbeats 8000000 in
set_option maxRecDepth 100000 in
theorem bits_RotateLeft32.calls (a0 : Int) (a1 : Int) (r : Int) (w : World) (h : bits_RotateLeft32.f a0 a1 = some r) :
    Calls Tryd.prog 88 #[.int .u32 a0, .int .i64 a1] w fun e w' => e = .returned (.int .u32 r) ∧ Drawn0 w w' := by
 have H : (if 0 ≤ (Go.bits .and .u64 (IntKind.u64.wrap (a1)) 31) then (if 0 ≤ (IntKind.u64.wrap (32 - (Go.bits .and .u64 (IntKind.u64.wrap (a1)) 31))) then (some (Go.bits .or .u32 (shl .u32 a0 (Go.bits .and .u64 (IntKind.u64.wrap (a1)) 31)) (shr .u32 a0 (IntKind.u64.wrap (32 - (Go.bits .and .u64 (IntKind.u64.wrap (a1)) 31)))))) else (none)) else (none)) = some r := h
 clear h
 obtain ⟨ji3, hji3⟩ : ∃ j_ : Int, (Go.bits .and .u64 (IntKind.u64.wrap (a1)) 31) = j_ := ⟨_, rfl⟩
 replace H : (if 0 ≤ (ji3) then (if 0 ≤ (IntKind.u64.wrap (32 - (ji3))) then (some (Go.bits .or .u32 (shl .u32 a0 (ji3)) (shr .u32 a0 (IntKind.u64.wrap (32 - (ji3)))))) else (none)) else (none)) = some r := by first | (rw [hji3] at H; exact H) | (simp only [hji3] at H ⊢; exact H)
 by_cases c4 : 0 ≤ (ji3)
 ·rw [if_pos c4] at H
  have c4b0 := eq_true c4
  have c4b1 : decide (0 ≤ (ji3)) = true := zd1 c4
  clear c4
  obtain ⟨ji5, hji5⟩ : ∃ j_ : Int, (shl .u32 a0 (ji3)) = j_ := ⟨_, rfl⟩
  replace H : (if 0 ≤ (IntKind.u64.wrap (32 - (ji3))) then (some (Go.bits .or .u32 (ji5) (shr .u32 a0 (IntKind.u64.wrap (32 - (ji3)))))) else (none)) = some r := by first | (rw [hji5] at H; exact H) | (simp only [hji5] at H ⊢; exact H)
  have hji5_ : (IntKind.u32.wrap (a0 * 2 ^ min (ji3).toNat 32)) = ji5 := hji5
  have hji5z : (ji3) ≤ 32 → (IntKind.u32.wrap (a0 * 2 ^ (ji3).toNat)) = ji5 := shl_small hji5
  obtain ⟨ji6, hji6⟩ : ∃ j_ : Int, (IntKind.u64.wrap (32 - (ji3))) = j_ := ⟨_, rfl⟩
  replace H : (if 0 ≤ (ji6) then (some (Go.bits .or .u32 (ji5) (shr .u32 a0 (ji6)))) else (none)) = some r := by first | (rw [hji6] at H; exact H) | (simp only [hji6] at H ⊢; exact H)
  by_cases c7 : 0 ≤ (ji6)
  ·rw [if_pos c7] at H
   have c7b0 := eq_true c7
   have c7b1 : decide (0 ≤ (ji6)) = true := zd1 c7
   clear c7
   obtain ⟨ji8, hji8⟩ : ∃ j_ : Int, (shr .u32 a0 (ji6)) = j_ := ⟨_, rfl⟩
   replace H : (some (Go.bits .or .u32 (ji5) (ji8))) = some r := by first | (rw [hji8] at H; exact H) | (simp only [hji8] at H ⊢; exact H)
   have hji8_ : (a0 / 2 ^ min (ji6).toNat 32) = ji8 := hji8
   have hji8z : (ji6) ≤ 32 → (a0 / 2 ^ (ji6).toNat) = ji8 := shr_small hji8
   obtain rfl := Option.some.inj H
   go_enter Tryd.func88, Tryd.ntmps88
   go_wp2
   go_ret
   exact ⟨by first | rfl | (simp; done) | (simp only [← hji3, ← hji5, ← hji6, ← hji8] <;> (first | rfl | simp)) | (simp [*]; done), by repeat (first | exact Drawn0.refl _ | apply Drawn0.step)⟩
  ·rw [if_neg c7] at H
   exact absurd H (by simp)
 ·rw [if_neg c4] at H
  exact absurd H (by simp)

def sha_turned.f (a0 : Int) (a1 : Int) : Option (Int) := (bits_RotateLeft32.f a0 (wrap64 (-a1))).bind fun t104 => (some t104)
set_option maxHeartbeats 8000000 in
set_option maxRecDepth 100000 in
theorem sha_turned.calls (a0 : Int) (a1 : Int) (r : Int) (w : World) (h : sha_turned.f a0 a1 = some r) :
    Calls Tryd.prog 87 #[.int .u32 a0, .int .i64 a1] w fun e w' => e = .returned (.int .u32 r) ∧ Drawn0 w w' := by
 have H : ((bits_RotateLeft32.f a0 (wrap64 (-a1))).bind fun t104 => (some t104)) = some r := h
 clear h
 replace H := Option.bind_eq_some_iff.mp H
 obtain ⟨t104, A30, H⟩ := H
 replace H : (some t104) = some r := H
 have A3 := zA A30
 clear A30
 obtain rfl := Option.some.inj H
 go_enter Tryd.func87, Tryd.ntmps87
 go_wp2_with (first | ((with_reducible refine gate_callee (f := 88) rfl ?_); refine goesL_ (some 8) rfl rfl Tryd.func88 (by kernel_rfl) rfl #[.int .u32 a0, .int .i64 (wrap64 (-a1))] rfl (by (try simp only [zm1, zm2, zm3]); first | done | rfl | (simp only [List.length_drop, List.length_take]; rfl)) ?_; (with_reducible refine (bits_RotateLeft32.calls a0 (wrap64 (-a1)) t104 _ A3.out).mono ?_); rintro e w' ⟨rfl, ⟨nd, rfl⟩⟩; refine ⟨_, rfl, ?_⟩))
 go_ret
 exact ⟨by first | rfl | (simp; done) | (simp [*]; done), by repeat (first | exact Drawn0.refl _ | apply Drawn0.step)⟩

-- NOT PRINTED: function 85 (sha_words)

-- NOT PRINTED: function 86 (sha_factors)

-- NOT PRINTED: function 82 (sha_State_take)

-- NOT PRINTED: function 72 (sha_State_Write)

-- NOT PRINTED: function 83 (sha_State_Copy)

mutual
def sha_end.l0 : Nat → Int → List Int → Option (List Int)
 | 0, _, _ => none
 | k + 1, x0, x3 => if (Int.tmod (wrap64 (x0 + (x3.length : Int))) 64) = 56 then (sha_end.l1 k x0 x3 0) else (if x3.length < 140737488355328 then (sha_end.l0 k x0 (x3 ++ [0])) else (none))
def sha_end.l1 : Nat → Int → List Int → Int → Option (List Int)
 | 0, _, _, _ => none
 | k + 1, x0, x3, x15 => if x15 < 8 then (if 0 ≤ (wrap64 (56 - (wrap64 (8 * x15)))) then (if x3.length < 140737488355328 then (sha_end.l1 k x0 (x3 ++ [(shr .u64 (IntKind.u64.wrap ((IntKind.u64.wrap (x0)) * 8)) (wrap64 (56 - (wrap64 (8 * x15))))) % 256]) (wrap64 (x15 + 1))) else (none)) else (none)) else (some x3)
end
def sha_end.f (k : Nat) (a0 : Int) : Option (List Int) := sha_end.l0 k a0 (([128] : List Int))
theorem sha_end.mono_l : ∀ k, (∀ y0 y1, LeO (sha_end.l0 k y0 y1) (sha_end.l0 (k + 1) y0 y1)) ∧ (∀ y0 y1 y2, LeO (sha_end.l1 k y0 y1 y2) (sha_end.l1 (k + 1) y0 y1 y2))
 | 0 => ⟨fun _ _ r h => by simp [sha_end.l0] at h, fun _ _ _ r h => by simp [sha_end.l1] at h⟩
 | k + 1 => by
  obtain ⟨ih0, ih1⟩ := sha_end.mono_l k
  refine ⟨?_, ?_⟩
  ·intro y0 y1
   unfold sha_end.l0
   repeat' first
   | (with_reducible exact ih0 _ _)
   | (with_reducible exact ih1 _ _ _)
   | (with_reducible exact LeO.refl _)
   | (with_reducible exact LeO.none _)
   | (with_reducible refine LeO.ite ?_ ?_)
   | (with_reducible refine LeO.bind ?_ (fun _ => ?_))
   | exact ih0 _ _
   | exact ih1 _ _ _
   | exact LeO.none _
   | refine LeO.ite ?_ ?_
   | refine LeO.bind ?_ (fun _ => ?_)
  ·intro y0 y1 y2
   unfold sha_end.l1
   repeat' first
   | (with_reducible exact ih0 _ _)
   | (with_reducible exact ih1 _ _ _)
   | (with_reducible exact LeO.refl _)
   | (with_reducible exact LeO.none _)
   | (with_reducible refine LeO.ite ?_ ?_)
   | (with_reducible refine LeO.bind ?_ (fun _ => ?_))
   | exact ih0 _ _
   | exact ih1 _ _ _
   | exact LeO.none _
   | refine LeO.ite ?_ ?_
   | refine LeO.bind ?_ (fun _ => ?_)
theorem sha_end.mono : ∀ a0 k, LeO (sha_end.f k a0) (sha_end.f (k + 1) a0) := by
 intro a0 k
 obtain ⟨ih0, ih1⟩ := sha_end.mono_l k
 unfold sha_end.f
 repeat' first
     | (with_reducible exact ih0 _ _)
     | (with_reducible exact ih1 _ _ _)
     | (with_reducible exact LeO.refl _)
     | (with_reducible exact LeO.none _)
     | (with_reducible refine LeO.ite ?_ ?_)
     | (with_reducible refine LeO.bind ?_ (fun _ => ?_))
     | exact ih0 _ _
     | exact ih1 _ _ _
     | exact LeO.none _
     | refine LeO.ite ?_ ?_
     | refine LeO.bind ?_ (fun _ => ?_)
set_option maxHeartbeats 8000000 in
set_option maxRecDepth 100000 in
theorem sha_end.calls (k : Nat) (a0 : Int) (r : List Int) (w : World) (h : sha_end.f k a0 = some r) :
    Calls Tryd.prog 84 #[.int .i64 a0] w fun e w' => ∃ v0_ : Value, e = .returned (v0_) ∧ Kd.R (Kd.int .u8) 5 w' w.heap.size (fun _ => True) v0_ r ∧ Below w.heap.size w w' := by
 have HB := zA (Below.refl w.heap.size w)
 have H : (sha_end.l0 k a0 (([128] : List Int))) = some r := h
 clear h
 obtain ⟨y105, hy105⟩ : ∃ y_ : List Int, y_ = (([128] : List Int)) := ⟨_, rfl⟩
 replace H : (sha_end.l0 k a0 y105) = some r := by first | (rw [hy105]; with_reducible exact H) | (have H2_ := (Option.bind_some _ _).symm.trans H; rw [hy105]; with_reducible exact H2_) | (have H2_ := (Option.bind_some _ _).symm.trans H; with_reducible exact H2_) | with_reducible exact H | (rw [hy105]; exact H) | exact H
 have Ny105 := zA hy105
 clear hy105
 have H' := zA H
 clear H
 go_enter Tryd.func84, Tryd.ntmps84
 go_wp2_with (first | ((with_reducible refine gate_dst (N := 5) rfl ?_); refine Kd.R_lit (Kd.int .u8) _ 5 ?hg (N := 5) ?hd (xs := ([128] : List Int)) (inner := [.int .u8 128]) (ok := fun _ => True) (okp := fun _ => True) ?hr ?hp (fun _ hk => hk) trivial (Below.refl _ _) (Nat.le_refl _) (by simp) ?_; (case hd => rfl); (case hg => rfl); (case hr => first | (go_simp; done) | (go_simp; rfl)); (case hp => exact (Reps.one (show Kd.M (Kd.int .u8) _ _ _ 128 [.int .u8 128] from rfl) (Reps.none _ _))); intro v106 w2 ho3 hb hg_ hnew_; clear hg_ hnew_; (first | rw [← Ny105.out] at ho3 | (simp only [Int.reduceToNat] at ho3; rw [← Ny105.out] at ho3)); have n0_ := zA (Kd.R_lower ho3 (zb6 (by repeat (first | (with_reducible first | exact HB.out | apply zb3 | apply zb1 | apply zb2) | exact HB.out)))); have n1_ := zA (zb5 (by repeat (first | (with_reducible first | exact HB.out | apply zb3 | apply zb1 | apply zb2) | exact HB.out)) hb); clear HB; have HO107 := n0_; have HB := n1_; clear n0_ n1_; clear hb ho3))
 go_loopg [3] k (fun kq v3 w' => ∃ (x3_1 : List Int), Aside0 (sha_end.l0 kq a0 x3_1 = some r) ∧ Aside0 (kq ≤ k) ∧ Aside0 (Kd.R (Kd.int .u8) 5 w' w.heap.size (fun _ => True) v3 x3_1) ∧ Aside0 (Below w.heap.size w w'))
 case atStart => exact ⟨(y105), H', ⟨Nat.le_refl _⟩, ⟨by (with_reducible repeat (first | apply Kd.R_alloc | apply Kd.R_drewN | apply Kd.R_drew)); exact HO107.out⟩, ⟨by repeat (first | (with_reducible first | exact HB.out | apply zb3 | apply zb1 | apply zb2) | exact HB.out)⟩⟩
 case round =>
  clear H'
  try clear p2
  obtain ⟨x3_1, HA, HK1, HO_3, HB⟩ := hrel
  cases gk with
  | zero => exact absurd HA.out (by simp [sha_end.l0])
  | succ k1 =>
   have H := HA.out
   clear HA
   simp only [sha_end.l0] at H
   by_cases c4 : (Int.tmod (wrap64 (a0 + (x3_1.length : Int))) 64) = 56
   ·rw [if_pos c4] at H
    have c4b0 : ((Int.tmod (wrap64 (a0 + (x3_1.length : Int))) 64) == 56) = true := beq_iff_eq.mpr c4
    have c4b1 : ((Int.tmod (wrap64 (a0 + (x3_1.length : Int))) 64) != 56) = false := bne_eq_false_iff_eq.mpr c4
    clear c4
    have H' := zA H
    clear H
    obtain ⟨Ao5, co5, eo5⟩ := Kd.R_slice HO_3.out
    subst eo5
    go_wp2
    go_loopg [3, 15] k1 (fun kq v3 v15 w' => ∃ (x3_2 : List Int) (x15_2 : Int), v15 = .int .i64 x15_2 ∧ Aside0 (sha_end.l1 kq a0 x3_2 x15_2 = some r) ∧ Aside0 (kq ≤ k1) ∧ Aside0 (Kd.R (Kd.int .u8) 5 w' w.heap.size (fun _ => True) v3 x3_2) ∧ Aside0 (Below w.heap.size w w'))
    case atStart => exact ⟨(x3_1), (0), (by first | rfl | (simp; done) | (simp [*]; done)), H', ⟨Nat.le_refl _⟩, ⟨by (with_reducible repeat (first | apply Kd.R_alloc | apply Kd.R_drewN | apply Kd.R_drew)); exact HO_3.out⟩, ⟨by repeat (first | (with_reducible first | exact HB.out | apply zb3 | apply zb1 | apply zb2) | exact HB.out)⟩⟩
    case round =>
     clear H'
     try clear p2
     try clear c4
     try clear c4b0
     try clear c4b1
     try clear p2
     obtain ⟨x3_2, x15_2, rfl, HA, HK2, HO_3, HB⟩ := hrel
     cases gk with
     | zero => exact absurd HA.out (by simp [sha_end.l1])
     | succ k2 =>
      have H := HA.out
      clear HA
      simp only [sha_end.l1] at H
      by_cases c6 : x15_2 < 8
      ·rw [if_pos c6] at H
       have c6b0 : decide (x15_2 < 8) = true := zd1 c6
       clear c6
       obtain ⟨ji7, hji7⟩ : ∃ j_ : Int, (wrap64 (56 - (wrap64 (8 * x15_2)))) = j_ := ⟨_, rfl⟩
       replace H : (if 0 ≤ (ji7) then (if x3_2.length < 140737488355328 then (sha_end.l1 k2 a0 (x3_2 ++ [(shr .u64 (IntKind.u64.wrap ((IntKind.u64.wrap (a0)) * 8)) (ji7)) % 256]) (wrap64 (x15_2 + 1))) else (none)) else (none)) = some r := by first | (rw [hji7] at H; exact H) | (simp only [hji7] at H ⊢; exact H)
       have hji7w : (IntKind.i64.wrap (56 - (wrap64 (8 * x15_2)))) = ji7 := (i64_w _).trans hji7
       by_cases c8 : 0 ≤ (ji7)
       ·rw [if_pos c8] at H
        have c8b0 := eq_true c8
        have c8b1 : decide (0 ≤ (ji7)) = true := zd1 c8
        clear c8
        obtain ⟨ji9, hji9⟩ : ∃ j_ : Int, (shr .u64 (IntKind.u64.wrap ((IntKind.u64.wrap (a0)) * 8)) (ji7)) = j_ := ⟨_, rfl⟩
        replace H : (if x3_2.length < 140737488355328 then (sha_end.l1 k2 a0 (x3_2 ++ [(ji9) % 256]) (wrap64 (x15_2 + 1))) else (none)) = some r := by first | (rw [hji9] at H; exact H) | (simp only [hji9] at H ⊢; exact H)
        have hji9_ : ((IntKind.u64.wrap ((IntKind.u64.wrap (a0)) * 8)) / 2 ^ min (ji7).toNat 64) = ji9 := hji9
        have hji9z : (ji7) ≤ 64 → ((IntKind.u64.wrap ((IntKind.u64.wrap (a0)) * 8)) / 2 ^ (ji7).toNat) = ji9 := shr_small hji9
        by_cases c10 : x3_2.length < 140737488355328
        ·rw [if_pos c10] at H
         have LMc10 := zA c10
         clear c10
         obtain ⟨y111, hy111⟩ : ∃ y_ : List Int, y_ = (x3_2 ++ [(ji9) % 256]) := ⟨_, rfl⟩
         replace H : (sha_end.l1 k2 a0 y111 (wrap64 (x15_2 + 1))) = some r := by first | (rw [hy111]; with_reducible exact H) | (have H2_ := (Option.bind_some _ _).symm.trans H; rw [hy111]; with_reducible exact H2_) | (have H2_ := (Option.bind_some _ _).symm.trans H; with_reducible exact H2_) | with_reducible exact H | (rw [hy111]; exact H) | exact H
         have Ny111 := zA hy111
         clear hy111
         have H' := zA H
         clear H
         go_wp2_with (first | ((with_reducible refine gate_builtin (b := .append) (xs := #[.tmp 18, .tmp 27]) rfl ?_); at_builtin; refine Kd.R_append (Kd.int .u8) (w0 := w) w.heap.size rfl (.tmp 18) (.tmp 27) 22 5 (.int .u8 0) 1 rfl Tryd.underlying22 info5 rfl (by decide) (by omega) u3 x3_2 ((ji9) % 256) [.int .u8 ((ji9) % 256)] (fun _ => True) (fun _ => False) rfl rfl ?aP (fun _ hk => hk.elim) ?aF ?aO ?aB ?aS ?aL ?_; (case aP => exact rfl); (case aB => exact (by repeat (first | (with_reducible first | exact HB.out | apply zb3 | apply zb1 | apply zb2) | exact HB.out))); (case aF => exact (fun _ _ => trivial)); (case aO => exact (by (with_reducible repeat (first | apply Kd.R_alloc | apply Kd.R_drewN | apply Kd.R_drew)); exact HO_3.out)); (case aS => exact (zb6 (by repeat (first | (with_reducible first | exact HB.out | apply zb3 | apply zb1 | apply zb2) | exact HB.out)))); (case aL => have := LMc10.out; omega); intro v112 w11 ho hb hg hat; rw [← Ny111.out] at ho; have n0_ := zA (hb); have n1_ := zA (ho); clear HB; clear HO_3; have HB := n0_; have HO113 := n1_; clear n0_ n1_; clear ho hb hg hat))
         go_roundg k2
         case measure => have := HK1.out; have := HK2.out; omega
         case rel => exact ⟨(y111), (wrap64 (x15_2 + 1)), (by first | rfl | (simp; done) | (simp [*]; done)), H', ⟨by have := HK1.out; have := HK2.out; omega⟩, ⟨by (with_reducible repeat (first | apply Kd.R_alloc | apply Kd.R_drewN | apply Kd.R_drew)); exact HO113.out⟩, ⟨by repeat (first | (with_reducible first | exact HB.out | apply zb3 | apply zb1 | apply zb2) | exact HB.out)⟩⟩
        ·rw [if_neg c10] at H
         exact absurd H (by simp)
       ·rw [if_neg c8] at H
        exact absurd H (by simp)
      ·rw [if_neg c6] at H
       have c6b0 : decide (x15_2 < 8) = false := zd2 c6
       clear c6
       obtain rfl := Option.some.inj H
       go_wp2
       go_ret
       exact ⟨_, by first | rfl | (simp [*] <;> rfl), by (with_reducible repeat (first | apply Kd.R_alloc | apply Kd.R_drewN | apply Kd.R_drew)); exact HO_3.out, by repeat (first | (with_reducible first | exact HB.out | apply zb3 | apply zb1 | apply zb2) | exact HB.out)⟩
   ·rw [if_neg c4] at H
    have c4b0 : ((Int.tmod (wrap64 (a0 + (x3_1.length : Int))) 64) == 56) = false := beq_eq_false_iff_ne.mpr c4
    have c4b1 : ((Int.tmod (wrap64 (a0 + (x3_1.length : Int))) 64) != 56) = true := bne_iff_ne.mpr c4
    by_cases c12 : x3_1.length < 140737488355328
    ·rw [if_pos c12] at H
     have LMc12 := zA c12
     clear c12
     obtain ⟨y108, hy108⟩ : ∃ y_ : List Int, y_ = (x3_1 ++ [0]) := ⟨_, rfl⟩
     replace H : (sha_end.l0 k1 a0 y108) = some r := by first | (rw [hy108]; with_reducible exact H) | (have H2_ := (Option.bind_some _ _).symm.trans H; rw [hy108]; with_reducible exact H2_) | (have H2_ := (Option.bind_some _ _).symm.trans H; with_reducible exact H2_) | with_reducible exact H | (rw [hy108]; exact H) | exact H
     have Ny108 := zA hy108
     clear hy108
     have H' := zA H
     clear H
     obtain ⟨Ao13, co13, eo13⟩ := Kd.R_slice HO_3.out
     subst eo13
     go_wp2_with (first | ((with_reducible refine gate_builtin (b := .append) (xs := #[.tmp 12, .tmp 13]) rfl ?_); at_builtin; refine Kd.R_append (Kd.int .u8) (w0 := w) w.heap.size rfl (.tmp 12) (.tmp 13) 22 5 (.int .u8 0) 1 rfl Tryd.underlying22 info5 rfl (by decide) (by omega) (.slice Ao13 x3_1.length co13) x3_1 0 [.int .u8 0] (fun _ => True) (fun _ => False) rfl rfl ?aP (fun _ hk => hk.elim) ?aF ?aO ?aB ?aS ?aL ?_; (case aP => exact rfl); (case aB => exact (by repeat (first | (with_reducible first | exact HB.out | apply zb3 | apply zb1 | apply zb2) | exact HB.out))); (case aF => exact (fun _ _ => trivial)); (case aO => exact (by (with_reducible repeat (first | apply Kd.R_alloc | apply Kd.R_drewN | apply Kd.R_drew)); exact HO_3.out)); (case aS => exact (zb6 (by repeat (first | (with_reducible first | exact HB.out | apply zb3 | apply zb1 | apply zb2) | exact HB.out)))); (case aL => have := LMc12.out; omega); intro v109 w14 ho hb hg hat; rw [← Ny108.out] at ho; have n0_ := zA (hb); have n1_ := zA (ho); clear HB; clear HO_3; have HB := n0_; have HO110 := n1_; clear n0_ n1_; clear ho hb hg hat))
     go_roundg k1
     case measure => have := HK1.out; omega
     case rel => exact ⟨(y108), H', ⟨by have := HK1.out; omega⟩, ⟨by (with_reducible repeat (first | apply Kd.R_alloc | apply Kd.R_drewN | apply Kd.R_drew)); exact HO110.out⟩, ⟨by repeat (first | (with_reducible first | exact HB.out | apply zb3 | apply zb1 | apply zb2) | exact HB.out)⟩⟩
    ·rw [if_neg c12] at H
     exact absurd H (by simp)

-- NOT PRINTED: function 73 (sha_State_Sum)

end Go.Proofs.YtjhgeppjpofjpaaDoor.PSigReads
