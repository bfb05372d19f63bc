-- Written by a program of this session (the kit's printer with hand-written contracts among its functions).
-- squeezed
import Derived.Test.YtlndkemblbbfaaaPIndexOwnx0
import Derived.Test.YtlndkemblbbfaaaPIndexOwnx1
import Derived.Test.YtlndkemblbbfaaaPIndexOwnx4
import Derived.Test.YtlndkemblbbfaaaPIndexOwnx6
namespace Go.Proofs.Ytlndkemblbbfaaa.PIndexOwn
open Go.RowKit Go.Proofs.YtlndkemblbbfaaaW.PrintWords Go.Proofs.YtlndkemblbbfaaaW.PrintLast Go.Proofs.YtlndkemblbbfaaaW.PrintMore
attribute [local go_sem] max2_int min2_int max_two min_two max_three min_three max_four min_four   -- for this text's walks alone
set_option linter.unusedVariables false
set_option linter.unusedSimpArgs false

/-! ### sha_Cut: function 43 -/
def sha_Cut.f (l0 : List Int) (a1 : Int) : Option (ByteArray × Int) := if a1 < 0 then (some ((⟨#[]⟩ : ByteArray), 3)) else (if a1 > 32 then (some ((⟨#[]⟩ : ByteArray), 3)) else ((sha_Sum.f l0).bind fun t130 => (if 0 ≤ a1 then (if a1 ≤ (t130.size : Int) then (some (t130.extract 0 (a1 : Int).toNat, 0)) else (none)) else (none))))
set_option maxHeartbeats 8000000 in
set_option maxRecDepth 100000 in
theorem sha_Cut.calls (A0 : Option Addr) (c0 : Nat) (l0 : List Int) (a1 : Int) (r1 : ByteArray) (r2 : Int) (w : World) (hr0 : Kd.C (Kd.int .u8) w A0 l0.length l0) (hc0 : l0.length ≤ c0) (h : sha_Cut.f l0 a1 = some (r1, r2)) :
    Calls Try.prog 43 #[.slice A0 l0.length c0, .int .i64 a1] w fun e w' => e = .returned (.tuple #[.string r1, .int .i64 r2]) ∧ Below w.heap.size w w' := by
 have HR0 := zA hr0
 have HC0 := zA hc0
 clear hr0 hc0
 have HB := zA (Below.refl w.heap.size w)
 have H : (if a1 < 0 then (some ((⟨#[]⟩ : ByteArray), 3)) else (if a1 > 32 then (some ((⟨#[]⟩ : ByteArray), 3)) else ((sha_Sum.f l0).bind fun t130 => (if 0 ≤ a1 then (if a1 ≤ (t130.size : Int) then (some (t130.extract 0 (a1 : Int).toNat, 0)) else (none)) else (none))))) = some (r1, r2) := h
 clear h
 by_cases c3 : a1 < 0
 ·rw [if_pos c3] at H
  have c3b0 : decide (a1 < 0) = true := zd1 c3
  clear c3
  simp only [Option.some.injEq, Prod.mk.injEq] at H
  obtain ⟨rfl, rfl⟩ := H
  go_enter Try.func43, Try.ntmps43
  go_wp2
  go_ret2
  exact ⟨by first | rfl | (simp [*] <;> rfl), by repeat (first | (with_reducible first | exact HB.out | apply zb3 | apply zb1 | apply zb2) | exact HB.out)⟩
 ·rw [if_neg c3] at H
  have c3b0 : decide (a1 < 0) = false := zd2 c3
  clear c3
  by_cases c4 : a1 > 32
  ·rw [if_pos c4] at H
   have c4b0 : decide (32 < a1) = true := zd1 c4
   clear c4
   simp only [Option.some.injEq, Prod.mk.injEq] at H
   obtain ⟨rfl, rfl⟩ := H
   go_enter Try.func43, Try.ntmps43
   go_wp2
   go_ret2
   exact ⟨by first | rfl | (simp [*] <;> rfl), by repeat (first | (with_reducible first | exact HB.out | apply zb3 | apply zb1 | apply zb2) | exact HB.out)⟩
  ·rw [if_neg c4] at H
   have c4b0 : decide (32 < a1) = false := zd2 c4
   clear c4
   replace H := Option.bind_eq_some_iff.mp H
   obtain ⟨t130, A50, H⟩ := H
   replace H : (if 0 ≤ a1 then (if a1 ≤ (t130.size : Int) then (some (t130.extract 0 (a1 : Int).toNat, 0)) else (none)) else (none)) = some (r1, r2) := H
   have A5 := zA A50
   clear A50
   by_cases c6 : 0 ≤ a1
   ·rw [if_pos c6] at H
    have c6b0 := eq_true c6
    have c6b1 : decide (0 ≤ a1) = true := zd1 c6
    clear c6
    by_cases c7 : a1 ≤ (t130.size : Int)
    ·rw [if_pos c7] at H
     have c7b0 := eq_true c7
     have c7b1 : decide (a1 ≤ (t130.size : Int)) = true := zd1 c7
     clear c7
     simp only [Option.some.injEq, Prod.mk.injEq] at H
     obtain ⟨rfl, rfl⟩ := H
     go_enter Try.func43, Try.ntmps43
     go_wp2_with (first | ((with_reducible refine gate_callee (f := 48) rfl ?_); refine goesL_ (some 13) rfl rfl Try.func48 (by kernel_rfl) rfl #[.slice A0 l0.length c0] rfl (by (try simp only [zm1, zm2, zm3]); first | done | rfl | (simp only [List.length_drop, List.length_take]; rfl)) ?_; (with_reducible refine (sha_Sum.calls _ _ l0 t130 _ ?side1 ?side2 A5.out).mono ?_); (case side1 => repeat (first | exact HR0.out | (with_reducible refine Kd.C_alloc ?_ _) | (with_reducible refine Kd.C_drewN ?_ _) | (with_reducible refine Kd.C_drew ?_))); (case side2 => exact HC0.out); rintro e w8 ⟨rfl, hb⟩; refine ⟨_, rfl, ?_⟩; have n0_ := zA (zb5 (by repeat (first | (with_reducible first | exact HB.out | apply zb3 | apply zb1 | apply zb2) | exact HB.out)) hb); clear HB; have HB := n0_; clear n0_; (try clear hb); (try clear hb2); (try clear hk); (try clear hi)))
     go_ret2
     exact ⟨by first | rfl | (simp [*] <;> rfl), by repeat (first | (with_reducible first | exact HB.out | apply zb3 | apply zb1 | apply zb2) | exact HB.out)⟩
    ·rw [if_neg c7] at H
     exact absurd H (by simp)
   ·rw [if_neg c6] at H
    exact absurd H (by simp)

/-! ### roll_halves: function 54 -/
def roll_halves.f (a0 : Int) : Option (Int × Int) := some (Go.bits .and .u32 a0 65535, a0 / 65536)
set_option maxHeartbeats 8000000 in
set_option maxRecDepth 100000 in
theorem roll_halves.calls (a0 : Int) (r1 : Int) (r2 : Int) (w : World) (h : roll_halves.f a0 = some (r1, r2)) :
    Calls Try.prog 54 #[.int .u32 a0] w fun e w' => e = .returned (.tuple #[.int .u32 r1, .int .u32 r2]) ∧ Drawn0 w w' := by
 have H : (some (Go.bits .and .u32 a0 65535, a0 / 65536)) = some (r1, r2) := h
 clear h
 simp only [Option.some.injEq, Prod.mk.injEq] at H
 obtain ⟨rfl, rfl⟩ := H
 go_enter Try.func54, Try.ntmps54
 go_wp2
 go_ret2
 exact ⟨by first | rfl | (simp; done) | (simp [*]; done), by repeat (first | exact Drawn0.refl _ | apply Drawn0.step)⟩

/-! ### roll_join: function 55 -/
def roll_join.f (a0 : Int) (a1 : Int) : Option (Int) := some (Go.bits .or .u32 (Go.bits .and .u32 a0 65535) ((a1 * 65536) % 4294967296))
set_option maxHeartbeats 8000000 in
set_option maxRecDepth 100000 in
theorem roll_join.calls (a0 : Int) (a1 : Int) (r : Int) (w : World) (h : roll_join.f a0 a1 = some r) :
    Calls Try.prog 55 #[.int .u32 a0, .int .u32 a1] w fun e w' => e = .returned (.int .u32 r) ∧ Drawn0 w w' := by
 have H : (some (Go.bits .or .u32 (Go.bits .and .u32 a0 65535) ((a1 * 65536) % 4294967296))) = some r := h
 clear h
 obtain rfl := Option.some.inj H
 go_enter Try.func55, Try.ntmps55
 go_wp2
 go_ret
 exact ⟨by first | rfl | (simp; done) | (simp [*]; done), by repeat (first | exact Drawn0.refl _ | apply Drawn0.step)⟩

/-! ### roll_In: function 49 -/
def roll_In.f (a0 : Int) (a1 : Int) (a2 : Int) : Option (Int) := (roll_halves.f a0).bind fun bt131 => ((roll_join.f ((bt131.1 + ((((a2) % 4294967296) + 31) % 4294967296)) % 4294967296) ((bt131.2 + ((bt131.1 + ((((a2) % 4294967296) + 31) % 4294967296)) % 4294967296)) % 4294967296)).bind fun t133 => (some t133))
set_option maxHeartbeats 8000000 in
set_option maxRecDepth 100000 in
theorem roll_In.calls (a0 : Int) (a1 : Int) (a2 : Int) (r : Int) (w : World) (h : roll_In.f a0 a1 a2 = some r) :
    Calls Try.prog 49 #[.int .u32 a0, .int .i64 a1, .int .u8 a2] w fun e w' => e = .returned (.int .u32 r) ∧ Drawn0 w w' := by
 have H : ((roll_halves.f a0).bind fun bt131 => ((roll_join.f ((bt131.1 + ((((a2) % 4294967296) + 31) % 4294967296)) % 4294967296) ((bt131.2 + ((bt131.1 + ((((a2) % 4294967296) + 31) % 4294967296)) % 4294967296)) % 4294967296)).bind fun t133 => (some t133))) = some r := h
 clear h
 replace H := Option.bind_eq_some_iff.mp H
 obtain ⟨⟨t131, t132⟩, A40, H⟩ := H
 replace H : ((roll_join.f ((t131 + ((((a2) % 4294967296) + 31) % 4294967296)) % 4294967296) ((t132 + ((t131 + ((((a2) % 4294967296) + 31) % 4294967296)) % 4294967296)) % 4294967296)).bind fun t133 => (some t133)) = some r := H
 have A4 := zA A40
 clear A40
 replace H := Option.bind_eq_some_iff.mp H
 obtain ⟨t133, A50, H⟩ := H
 replace H : (some t133) = some r := H
 have A5 := zA A50
 clear A50
 obtain rfl := Option.some.inj H
 go_enter Try.func49, Try.ntmps49
 go_wp2_with (first | ((with_reducible refine gate_callee (f := 54) rfl ?_); refine goesL_ (some 11) rfl rfl Try.func54 (by kernel_rfl) rfl #[.int .u32 a0] rfl (by (try simp only [zm1, zm2, zm3]); first | done | rfl | (simp only [List.length_drop, List.length_take]; rfl) | (simp only [Int.emod_add_emod, Int.add_emod_emod]; rfl)) ?_; (with_reducible refine (roll_halves.calls a0 t131 t132 _ A4.out).mono ?_); rintro e w' ⟨rfl, ⟨nd, rfl⟩⟩; refine ⟨_, rfl, ?_⟩) | ((with_reducible refine gate_callee (f := 55) rfl ?_); refine goesL_ (some 23) rfl rfl Try.func55 (by kernel_rfl) rfl #[.int .u32 ((t131 + ((((a2) % 4294967296) + 31) % 4294967296)) % 4294967296), .int .u32 ((t132 + ((t131 + ((((a2) % 4294967296) + 31) % 4294967296)) % 4294967296)) % 4294967296)] rfl (by (try simp only [zm1, zm2, zm3]); first | done | rfl | (simp only [List.length_drop, List.length_take]; rfl) | (simp only [Int.emod_add_emod, Int.add_emod_emod]; rfl)) ?_; (with_reducible refine (roll_join.calls ((t131 + ((((a2) % 4294967296) + 31) % 4294967296)) % 4294967296) ((t132 + ((t131 + ((((a2) % 4294967296) + 31) % 4294967296)) % 4294967296)) % 4294967296) t133 _ A5.out).mono ?_); rintro e w' ⟨rfl, ⟨nd, rfl⟩⟩; refine ⟨_, rfl, ?_⟩))
 go_ret
 exact ⟨by first | rfl | (simp; done) | (simp [*]; done), by repeat (first | exact Drawn0.refl _ | apply Drawn0.step)⟩

/-! ### roll_Of: function 44 -/
def roll_Of.l0 : Nat → Int → List Int → Int → Int → Option (Int)
 | 0, _, _, _, _ => none
 | k + 1, x3, x6, x7, x8 => if x8 < x7 then (if 0 ≤ x8 then (if x8 < (x6.length : Int) then ((roll_In.f x3 0 (rd x6 x8)).bind fun t135 => (roll_Of.l0 k t135 x6 x7 (wrap64 (x8 + 1)))) else (none)) else (none)) else (some x3)
def roll_Of.f (k : Nat) (l0 : List Int) : Option (Int) := roll_Of.l0 k 0 l0 (l0.length : Int) 0
theorem roll_Of.mono_l : ∀ k, (∀ y0 y1 y2 y3, LeO (roll_Of.l0 k y0 y1 y2 y3) (roll_Of.l0 (k + 1) y0 y1 y2 y3))
 | 0 => fun _ _ _ _ r h => by simp [roll_Of.l0] at h
 | k + 1 => by
  have ih0 := roll_Of.mono_l k
  ·intro y0 y1 y2 y3
   unfold roll_Of.l0
   repeat' first
   | (with_reducible exact ih0 _ _ _ _)
   | (with_reducible exact LeO.refl _)
   | (with_reducible exact LeO.none _)
   | (with_reducible refine LeO.ite ?_ ?_)
   | (with_reducible refine LeO.bind ?_ (fun _ => ?_))
   | exact ih0 _ _ _ _
   | exact LeO.none _
   | refine LeO.ite ?_ ?_
   | refine LeO.bind ?_ (fun _ => ?_)
theorem roll_Of.mono : ∀ a0 k, LeO (roll_Of.f k a0) (roll_Of.f (k + 1) a0) := by
 intro a0 k
 have ih0 := roll_Of.mono_l k
 unfold roll_Of.f
 repeat' first
     | (with_reducible exact ih0 _ _ _ _)
     | (with_reducible exact LeO.refl _)
     | (with_reducible exact LeO.none _)
     | (with_reducible refine LeO.ite ?_ ?_)
     | (with_reducible refine LeO.bind ?_ (fun _ => ?_))
     | exact ih0 _ _ _ _
     | exact LeO.none _
     | refine LeO.ite ?_ ?_
     | refine LeO.bind ?_ (fun _ => ?_)
set_option maxHeartbeats 8000000 in
set_option maxRecDepth 100000 in
theorem roll_Of.calls (k : Nat) (A0 : Option Addr) (c0 : Nat) (l0 : List Int) (r : Int) (w : World) (hr0 : Kd.C (Kd.int .u8) w A0 l0.length l0) (hc0 : l0.length ≤ c0) (h : roll_Of.f k l0 = some r) :
    Calls Try.prog 44 #[.slice A0 l0.length c0] w fun e w' => e = .returned (.int .u32 r) ∧ Drawn0 w w' := by
 have HR0 := zA hr0
 have HC0 := zA hc0
 clear hr0 hc0
 have H : (roll_Of.l0 k 0 l0 (l0.length : Int) 0) = some r := h
 clear h
 have H' := zA H
 clear H
 go_enter Try.func44, Try.ntmps44
 go_wp2
 go_loopg [3, 8] k (fun kq v3 v8 w' => ∃ (x3_1 : Int) (x8_1 : Int), v3 = .int .u32 x3_1 ∧ v8 = .int .i64 x8_1 ∧ Aside0 (roll_Of.l0 kq x3_1 l0 (l0.length : Int) x8_1 = some r) ∧ Aside0 (kq ≤ k) ∧ Drawn0 w w')
 case atStart => exact ⟨(0), (0), (by first | rfl | (simp; done) | (simp [*]; done)), (by first | rfl | (simp; done) | (simp [*]; done)), H', ⟨Nat.le_refl _⟩, by repeat (first | exact Drawn0.refl _ | apply Drawn0.step)⟩
 case round =>
  clear H'
  obtain ⟨x3_1, x8_1, rfl, rfl, HA, HK1, ⟨m1, rfl⟩⟩ := hrel
  cases gk with
  | zero => exact absurd HA.out (by simp [roll_Of.l0])
  | succ k1 =>
   have H := HA.out
   clear HA
   simp only [roll_Of.l0] at H
   by_cases c2 : x8_1 < (l0.length : Int)
   ·rw [if_pos c2] at H
    have c2b0 : decide (x8_1 < (l0.length : Int)) = true := zd1 c2
    clear c2
    by_cases c3 : 0 ≤ x8_1
    ·rw [if_pos c3] at H
     have c3b0 : decide (0 ≤ x8_1) = true := zd1 c3
     clear c3
     by_cases c4 : x8_1 < (l0.length : Int)
     ·rw [if_pos c4] at H
      have c4b0 : decide (x8_1 < (l0.length : Int)) = true := zd1 c4
      clear c4
      replace H := Option.bind_eq_some_iff.mp H
      obtain ⟨t135, A50, H⟩ := H
      replace H : (roll_Of.l0 k1 t135 l0 (l0.length : Int) (wrap64 (x8_1 + 1))) = some r := H
      have A5 := zA A50
      clear A50
      have H' := zA H
      clear H
      have p134 : 0 ≤ (x8_1 : Int) := zd3 (by first | (with_reducible assumption) | assumption)
      have q134 : x8_1 < (l0.length : Int) := zd3 (by first | (with_reducible assumption) | assumption)
      obtain ⟨ad134, e134, hx134_0⟩ := Kd.at_int HR0.out x8_1 p134 q134
      cases e134
      replace p134 := eq_true p134
      replace q134 := eq_true q134
      go_wp2_with (first | ((with_reducible refine gate_callee (f := 49) rfl ?_); refine goesL_ (some 14) rfl rfl Try.func49 (by kernel_rfl) rfl #[.int .u32 x3_1, .int .i64 0, .int .u8 (rd l0 x8_1)] rfl (by (try simp only [zm1, zm2, zm3]); first | done | rfl | (simp only [List.length_drop, List.length_take]; rfl)) ?_; (with_reducible refine (roll_In.calls x3_1 0 (rd l0 x8_1) t135 _ A5.out).mono ?_); rintro e w' ⟨rfl, ⟨nd, rfl⟩⟩; refine ⟨_, rfl, ?_⟩))
      go_roundg k1
      case measure => have := HK1.out; omega
      case rel => exact ⟨(t135), (wrap64 (x8_1 + 1)), (by first | rfl | (simp; done) | (simp [*]; done)), (by first | rfl | (simp; done) | (simp [*]; done)), H', ⟨by have := HK1.out; omega⟩, by repeat (first | exact Drawn0.refl _ | apply Drawn0.step)⟩
     ·rw [if_neg c4] at H
      exact absurd H (by simp)
    ·rw [if_neg c3] at H
     exact absurd H (by simp)
   ·rw [if_neg c2] at H
    have c2b0 : decide (x8_1 < (l0.length : Int)) = false := zd2 c2
    clear c2
    obtain rfl := Option.some.inj H
    go_wp2
    go_ret
    exact ⟨by first | rfl | (simp; done) | (simp [*]; done), by repeat (first | exact Drawn0.refl _ | apply Drawn0.step)⟩

/-! ### sig_mark: function 34 -/
def sig_mark.f (k : Nat) (l0 : List Int) (a1 : Int) : Option (Int × ByteArray) := (sha_Cut.f l0 a1).bind fun bt137 => ((roll_Of.f k l0).bind fun t139 => (some (t139, bt137.1)))
theorem sig_mark.mono : ∀ a0 a1 k, LeO (sig_mark.f k a0 a1) (sig_mark.f (k + 1) a0 a1) := by
 intro a0 a1 k
 unfold sig_mark.f
 repeat' first
     | (with_reducible exact roll_Of.mono _ _)
     | (with_reducible exact LeO.refl _)
     | (with_reducible exact LeO.none _)
     | (with_reducible refine LeO.ite ?_ ?_)
     | (with_reducible refine LeO.bind ?_ (fun _ => ?_))
     | exact roll_Of.mono _ _
     | exact LeO.none _
     | refine LeO.ite ?_ ?_
     | refine LeO.bind ?_ (fun _ => ?_)
set_option maxHeartbeats 8000000 in
set_option maxRecDepth 100000 in
theorem sig_mark.calls (k : Nat) (A0 : Option Addr) (c0 : Nat) (l0 : List Int) (a1 : Int) (r1 : Int) (r2 : ByteArray) (w : World) (hr0 : Kd.C (Kd.int .u8) w A0 l0.length l0) (hc0 : l0.length ≤ c0) (h : sig_mark.f k l0 a1 = some (r1, r2)) :
    Calls Try.prog 34 #[.slice A0 l0.length c0, .int .i64 a1] w fun e w' => e = .returned (.agg #[.int .u32 r1, .string r2]) ∧ Below w.heap.size w w' := by
 have hu44 := Try.underlying44
 have HR0 := zA hr0
 have HC0 := zA hc0
 clear hr0 hc0
 have HB := zA (Below.refl w.heap.size w)
 have H : ((sha_Cut.f l0 a1).bind fun bt137 => ((roll_Of.f k l0).bind fun t139 => (some (t139, bt137.1)))) = some (r1, r2) := h
 clear h
 replace H := Option.bind_eq_some_iff.mp H
 obtain ⟨⟨t137, t138⟩, A30, H⟩ := H
 replace H : ((roll_Of.f k l0).bind fun t139 => (some (t139, t137))) = some (r1, r2) := H
 have A3 := zA A30
 clear A30
 replace H := Option.bind_eq_some_iff.mp H
 obtain ⟨t139, A40, H⟩ := H
 replace H : (some (t139, t137)) = some (r1, r2) := H
 have A4 := zA A40
 clear A40
 simp only [Option.some.injEq, Prod.mk.injEq] at H
 obtain ⟨rfl, rfl⟩ := H
 go_enter Try.func34, Try.ntmps34
 go_wp2_with (first | ((with_reducible refine gate_dst (N := 4) rfl ?_); refine box_event ?hg (N := 4) ?hd (cs := #[.int .u32 0, .string (⟨#[]⟩ : ByteArray)]) (t := 44) ?hr ?_; (case hd => rfl); (case hg => rfl); (case hr => first | (go_simp; done) | (go_simp; rfl)); intro gb136 hg w5 hbox hb; have n0_ := zA (zb5 (by repeat (first | (with_reducible first | exact HB.out | apply zb3 | apply zb1 | apply zb2) | exact HB.out)) hb); have n1_ := zA (hbox); have n2_ := zA ((by rw [hg]; exact (zb6 (by repeat (first | (with_reducible first | exact HB.out | apply zb3 | apply zb1 | apply zb2) | exact HB.out))) : w.heap.size ≤ gb136)); have n3_ := zA ((by rw [hg]; exact (zb6 (by repeat (first | (with_reducible first | exact HB.out | apply zb3 | apply zb1 | apply zb2) | exact HB.out))) : w.heap.size ≤ gb136)); clear HB; have HB := n0_; have BK136 := n1_; have GW136 := n2_; have GE136 := n3_; clear n0_ n1_ n2_ n3_; clear hb hbox hg) | ((with_reducible refine gate_callee (f := 43) rfl ?_); refine goesL_ (some 10) rfl rfl Try.func43 (by kernel_rfl) rfl #[.slice A0 l0.length c0, .int .i64 a1] rfl (by (try simp only [zm1, zm2, zm3]); first | done | rfl | (simp only [List.length_drop, List.length_take]; rfl)) ?_; (with_reducible refine (sha_Cut.calls _ _ l0 a1 t137 t138 _ ?side1 ?side2 A3.out).mono ?_); (case side1 => repeat (first | exact (Kd.C_below HR0.out HB.out) | (with_reducible refine Kd.C_alloc ?_ _) | (with_reducible refine Kd.C_drewN ?_ _) | (with_reducible refine Kd.C_drew ?_))); (case side2 => exact HC0.out); rintro e w6 ⟨rfl, hb⟩; refine ⟨_, rfl, ?_⟩; have n0_ := zA (zc6 (g := gb136) (o := .cells #[.int .u32 0, .string (⟨#[]⟩ : ByteArray)] 44 (0, 0)) (by (with_reducible repeat (first | refine zc3 ?_ _ | refine zc4 ?_ | refine zc2 ?_ _)); exact BK136.out) hb); have n1_ := zA (zb5 (by repeat (first | (with_reducible first | exact HB.out | apply zb3 | apply zb1 | apply zb2 | refine zb4 ?_ GE136.out) | exact HB.out)) hb); clear BK136; clear HB; have BK136 := n0_; have HB := n1_; clear n0_ n1_; (try clear hb); (try clear hb2); (try clear hk); (try clear hi)) | ((with_reducible refine gate_callee (f := 44) rfl ?_); refine goesL_ (some 14) rfl rfl Try.func44 (by kernel_rfl) rfl #[.slice A0 l0.length c0] rfl (by (try simp only [zm1, zm2, zm3]); first | done | rfl | (simp only [List.length_drop, List.length_take]; rfl)) ?_; (with_reducible refine (roll_Of.calls k _ _ l0 t139 _ ?side1 ?side2 A4.out).mono ?_); (case side1 => repeat (first | exact (Kd.C_below HR0.out HB.out) | (with_reducible refine Kd.C_alloc ?_ _) | (with_reducible refine Kd.C_drewN ?_ _) | (with_reducible refine Kd.C_drew ?_))); (case side2 => exact HC0.out); rintro e w' ⟨rfl, ⟨nd, rfl⟩⟩; refine ⟨_, rfl, ?_⟩; (try (rw [drewN_self w6]; generalize hq_ : World.drewN w6 _ = w6; have n0_ : Aside0 (w6.heap[gb136]? = some (.cells #[.int .u32 0, .string (⟨#[]⟩ : ByteArray)] 44 (0, 0))) := ⟨by rw [← hq_]; exact (by (with_reducible repeat (first | refine zc3 ?_ _ | refine zc4 ?_ | refine zc2 ?_ _)); exact BK136.out)⟩; have n1_ : Aside0 (Below w.heap.size w w6) := ⟨by rw [← hq_]; exact (by repeat (first | (with_reducible first | exact HB.out | apply zb3 | apply zb1 | apply zb2 | refine zb4 ?_ GE136.out) | exact HB.out))⟩; clear BK136 HB hq_; have BK136 := n0_; have HB := n1_; clear n0_ n1_)); have hcz7_0 : w6.cell? ⟨gb136, 0, none⟩ = some (.int .u32 0) := (zc1 BK136.out 0).trans rfl; have hcz7_1 : w6.cell? ⟨gb136, 1, none⟩ = some (.string (⟨#[]⟩ : ByteArray)) := (zc1 BK136.out 1).trans rfl; have hfz7_0 := zc5 BK136.out 0; have hfz7_1 := zc5 BK136.out 1))
 refine bodyPost_ret (results_cell_row rfl _ _ gb136 44 #[.int .u32 t139, .string t137] (0, 0) _ rfl (by (with_reducible repeat (first | refine zc3 ?_ _ | refine zc4 ?_ | refine zc2 ?_ _)); refine blk_put (cs := #[.int .u32 t139, .string (⟨#[]⟩ : ByteArray)]) ?_ 1 _ rfl; (with_reducible repeat (first | refine zc3 ?_ _ | refine zc4 ?_ | refine zc2 ?_ _)); refine blk_put (cs := #[.int .u32 0, .string (⟨#[]⟩ : ByteArray)]) ?_ 0 _ rfl; (with_reducible repeat (first | refine zc3 ?_ _ | refine zc4 ?_ | refine zc2 ?_ _)); exact BK136.out) Try.underlying44 rfl (by kernel_rfl)) rfl ?_
 exact ⟨by first | rfl | (simp [*] <;> rfl), by repeat (first | (with_reducible first | exact HB.out | apply zb3 | apply zb1 | apply zb2 | refine zb4 ?_ GE136.out) | exact HB.out)⟩

/-! ### sig_Of: function 15 -/
/-- The marks of the first n blocks. -/
def sigMs (k : Nat) (l0 : List Int) (B a2 : Int) : Nat → Option (List S44)
 | 0 => some []
 | n + 1 => (sigMs k l0 B a2 n).bind fun l => (sig_mark.f k (cutRow l0 B n) a2).bind fun m => some (l ++ [⟨m.1, m.2⟩])
theorem sigMs_mono (l0 : List Int) (B a2 : Int) (n : Nat) : ∀ k, LeO (sigMs k l0 B a2 n) (sigMs (k + 1) l0 B a2 n) := by
 intro k
 induction n with
 | zero => exact LeO.refl _
 | succ n ih => exact LeO.bind ih (fun _ => LeO.bind (sig_mark.mono _ _ _) (fun _ => LeO.refl _))
theorem sigMs_at {k : Nat} {l0 : List Int} {B a2 : Int} : ∀ {N : Nat} {ms : List S44}, sigMs k l0 B a2 N = some ms → ∀ i, i < N → ∃ li m, sigMs k l0 B a2 i = some li ∧ sig_mark.f k (cutRow l0 B i) a2 = some m ∧ sigMs k l0 B a2 (i + 1) = some (li ++ [⟨m.1, m.2⟩])
 | 0, _, _, i, hi => absurd hi (Nat.not_lt_zero i)
 | N + 1, ms, h, i, hi => by
  obtain ⟨l, hl, h2⟩ := Option.bind_eq_some_iff.mp (show ((sigMs k l0 B a2 N).bind fun l => (sig_mark.f k (cutRow l0 B N) a2).bind fun m => some (l ++ [(⟨m.1, m.2⟩ : S44)])) = some ms from h)
  obtain ⟨m, hm, h3⟩ := Option.bind_eq_some_iff.mp h2
  by_cases e : i = N
  ·subst e
   exact ⟨l, m, hl, hm, h.trans h3.symm⟩
  ·exact sigMs_at hl i (by omega)
theorem sigMs_len {k : Nat} {l0 : List Int} {B a2 : Int} : ∀ {N : Nat} {ms : List S44}, sigMs k l0 B a2 N = some ms → ms.length = N
 | 0, ms, h => by obtain rfl := Option.some.inj h; rfl
 | N + 1, ms, h => by
  obtain ⟨l, hl, h2⟩ := Option.bind_eq_some_iff.mp (show ((sigMs k l0 B a2 N).bind fun l => (sig_mark.f k (cutRow l0 B N) a2).bind fun m => some (l ++ [(⟨m.1, m.2⟩ : S44)])) = some ms from h)
  obtain ⟨m, hm, h3⟩ := Option.bind_eq_some_iff.mp h2
  obtain rfl := Option.some.inj h3
  rw [List.length_append, sigMs_len hl]
  rfl
def sigMl (k : Nat) (l0 : List Int) (B a2 : Int) (n : Nat) : List S44 := (sigMs k l0 B a2 n).getD []
def sig_Of.f (k : Nat) (l0 : List Int) (a1 : Int) (a2 : Int) : Option (Int × Int × Int × List S44 × Int) :=
 if (1 ≤ a2 ∧ a2 ≤ 32) ∧ (a1 = 0 ∨ (16 ≤ a1 ∧ a1 ≤ 4096)) then
  if l0.length ≤ 131072 then
   ((if a1 = 0 then blocks_Length.f k (l0.length : Int) else some a1).bind fun B =>
    if 16 ≤ B ∧ B ≤ 4096 then (sigMs k l0 B a2 (cutNum l0 B)).bind fun ms => some ((l0.length : Int), B, a2, ms, 0) else none)
  else some (0, 0, 0, [], 7)
 else some (0, 0, 0, [], 2)
theorem sig_Of.mono : ∀ a0 a1 a2 k, LeO (sig_Of.f k a0 a1 a2) (sig_Of.f (k + 1) a0 a1 a2) := by
 intro a0 a1 a2 k
 unfold sig_Of.f
 repeat' first
 | (with_reducible exact LeO.refl _)
 | (with_reducible exact blocks_Length.mono _ _)
 | (with_reducible exact sigMs_mono _ _ _ _ _)
 | (with_reducible refine LeO.ite ?_ ?_)
 | (with_reducible refine LeO.bind ?_ (fun _ => ?_))
def sig_Of.T10 : Bool × List (List Nat × List Nat) := (true, [([], []), ([0], [0]), ([], []), ([], []), ([2, 3], [2, 3]), ([4], [4]), ([1, 5, 4], [1, 5]), ([0, 1, 2, 3, 4, 5, 6], []), ([7, 6, 6, 0, 1, 2, 3, 4, 5, 6], [6, 7])])
def sig_Of.B10 : List Nat := [0, 1, 0, 0, 12, 28, 63, 127, 255]
theorem sig_Of.tab10 : rtab .any (opsOf Try.f15 10) = sig_Of.T10 := by kernel_rfl
theorem sig_Of.bits10 : waitsOk sig_Of.T10.2 sig_Of.B10 = true := by kernel_rfl
set_option maxHeartbeats 16000000 in
set_option maxRecDepth 100000 in
theorem sig_Of.calls (k : Nat) (A0 : Option Addr) (c0 : Nat) (l0 : List Int) (a1 : Int) (a2 : Int) (r1 : Int) (r2 : Int) (r3 : Int) (r4 : List S44) (r5 : Int) (w : World) (hr0 : Kd.C (Kd.int .u8) w A0 l0.length l0) (hc0 : l0.length ≤ c0) (h : sig_Of.f k l0 a1 a2 = some (r1, r2, r3, r4, r5)) :
    Calls Try.prog 15 #[.slice A0 l0.length c0, .int .i64 a1, .int .i64 a2] w fun e w' => ∃ v3_ : Value, e = .returned (.tuple #[.agg #[.int .i64 r1, .int .i64 r2, .int .i64 r3, v3_], .int .i64 r5]) ∧ Kd.R k44 44 w' w.heap.size (fun _ => True) v3_ r4 ∧ Below w.heap.size w w' := by
 have hu := Try.underlying24
 have HR0 := zA hr0
 have HC0 := zA hc0
 clear hr0 hc0
 unfold sig_Of.f at h
 by_cases h1 : (1 ≤ a2 ∧ a2 ≤ 32) ∧ (a1 = 0 ∨ (16 ≤ a1 ∧ a1 ≤ 4096))
 ·rw [if_pos h1] at h
  have HS := zA (show sig_strong.f a2 = some true by unfold sig_strong.f; rw [if_pos h1.1.1, zd1 h1.1.2])
  by_cases h2 : l0.length ≤ 131072
  ·rw [if_pos h2] at h
   have H2 := zA h2
   have c1 : decide (131072 < (l0.length : Int)) = false := by simp; omega
   have c2 : decide (131072 < l0.length) = false := by simp; omega
   clear h2
   by_cases h3 : a1 = 0
   ·subst h3
    rw [if_pos rfl] at h
    clear h1
    obtain ⟨B, hB, h⟩ := Option.bind_eq_some_iff.mp h
    have h4 : 16 ≤ B ∧ B ≤ 4096 := by
     by_cases h4 : 16 ≤ B ∧ B ≤ 4096
     ·exact h4
     ·rw [if_neg h4] at h; cases h
    rw [if_pos h4] at h
    obtain ⟨ms, hms, h⟩ := Option.bind_eq_some_iff.mp h
    simp only [Option.some.injEq, Prod.mk.injEq] at h
    obtain ⟨rfl, rfl, rfl, rfl, rfl⟩ := h
    obtain ⟨f1, f2, f3⟩ := cut_facts h4.1 h4.2 H2.out
    have F1 := zA f1
    have F2 := zA f2
    have F3 := zA f3
    have HMS := zA hms
    have HL := zA hB
    clear hB hms h4 f1 f2 f3
    refine RdKit.calls_marks Try.func15 rfl ?_
    simp only [Try.ntmps15, List.size_toArray, List.length_cons, List.length_nil, Nat.reduceAdd, Nat.reduceSub, Array.replicate_succ, Array.replicate_zero, List.push_toArray, List.append_toArray, List.nil_append, List.cons_append]
    go_wp2_with (first | ((with_reducible refine gate_dst (N := 5) rfl ?_); refine box_event ?hg (N := 5) ?hd (cs := #[.int .i64 a2]) (t := 3) ?hr ?_; (case hd => rfl); (case hg => rfl); (case hr => first | (go_simp; done) | (go_simp; rfl)); intro gB hgB wB hA hq; have HB := zA hq; have HKB := zA hA; have hcB : wB.cell? ⟨gB, 0, none⟩ = some (.int .i64 a2) := (by rw [zc1 hA]; rfl); clear hA hq hgB) | ((with_reducible refine gate_dst (N := 6) rfl ?_); refine box_event ?hg (N := 6) ?hd (cs := #[.int .i64 0, .int .i64 0, .int .i64 0, .slice none 0 0]) (t := 24) ?hr ?_; (case hd => rfl); (case hg => rfl); (case hr => first | (go_simp; done) | (go_simp; rfl)); intro gR hgR wR hA hq; have HGR := zA hgR; have HKR := zA hA; have HKB := zA (zc6 HKB.out hq); have HBR := zA (zb5 HB.out hq); replace hcB : wR.cell? ⟨gB, 0, none⟩ = some (.int .i64 a2) := (by rw [zc1 HKB.out]; rfl); clear hA hq hgR) | ((with_reducible refine gate_dst (N := 8) rfl ?_); refine box_event ?hg (N := 8) ?hd (cs := #[.int .i64 0, .int .i64 0, .int .i64 0, .slice none 0 0]) (t := 24) ?hr ?_; (case hd => rfl); (case hg => rfl); (case hr => first | (go_simp; done) | (go_simp; rfl)); intro gS hgS wS hA hq; have HKS := zA hA; have HKB2 := zA (zc6 (g := gB) (by exact HKB.out) hq); have HKR2 := zA (zc6 (g := gR) (by exact HKR.out) hq); have HBS := zA (zb5 (zb1 HBR.out _) hq); have GES := zA (show w.heap.size ≤ gS by rw [hgS]; exact zb6 (zb1 HBR.out _)); have NBS := zA (show gB ≠ gS by rw [hgS]; exact Nat.ne_of_lt (blk_lt HKB.out)); have NRS := zA (show gR ≠ gS by rw [hgS]; exact Nat.ne_of_lt (blk_lt HKR.out)); replace hcB : wS.cell? ⟨gB, 0, none⟩ = some (.int .i64 a2) := (by rw [zc1 HKB2.out]; rfl); have hz0 : wS.cell? ⟨gS, 0, none⟩ = some (.int .i64 0) := (zc1 HKS.out 0).trans rfl; have hz1 : wS.cell? ⟨gS, 1, none⟩ = some (.int .i64 0) := (zc1 HKS.out 1).trans rfl; have hz2 : wS.cell? ⟨gS, 2, none⟩ = some (.int .i64 0) := (zc1 HKS.out 2).trans rfl; have hz3 : wS.cell? ⟨gS, 3, none⟩ = some (.slice none 0 0) := (zc1 HKS.out 3).trans rfl; have hf0 := zc5 HKS.out 0; have hf1 := zc5 HKS.out 1; have hf2 := zc5 HKS.out 2; have hf3 := zc5 HKS.out 3; clear hA hq hgS) | (go_at_call 30; (with_reducible refine (sig_strong.calls a2 true _ HS.out).mono ?_); rintro e w' ⟨rfl, ⟨nd, rfl⟩⟩) | (go_at_call 32; (with_reducible refine (blocks_Length.calls k _ B _ HL.out).mono ?_); rintro e w' ⟨rfl, ⟨nd2, rfl⟩⟩))
    refine (each_calls A0 c0 l0 B _ (Kd.C_below HR0.out (zb4 (zb4 (zb4 (zb4 HBS.out GES.out) GES.out) GES.out) GES.out))).mono ?_
    rintro e w2 ⟨g1, g2, rfl, hIt, hb, _⟩
    have HI := zA hIt
    have HB2 := zA (zb5 (zb4 (zb4 (zb4 (zb4 HBS.out GES.out) GES.out) GES.out) GES.out) hb)
    have HKS2 := zA (zc6 (blk_put (blk_put (blk_put (blk_put HKS.out 0 (.int .i64 (l0.length : Int)) rfl) 1 (.int .i64 B) rfl) 2 (.int .i64 a2) rfl) 3 (.slice none 0 0) rfl) hb)
    have HKB3 := zA (zc6 (zc7 (zc7 (zc7 (zc7 HKB2.out NBS.out _) NBS.out _) NBS.out _) NBS.out _) hb)
    have HKR3 := zA (zc6 (zc7 (zc7 (zc7 (zc7 HKR2.out NRS.out _) NRS.out _) NRS.out _) NRS.out _) hb)
    clear hIt hb
    replace HI := HI
    go_wp2_with fail
    obtain ⟨L, hL⟩ : ∃ L, L = w2.heap.size := ⟨_, rfl⟩
    have HLS := zA (show gS < L by rw [hL]; exact (Array.getElem?_eq_some_iff.1 HKS2.out).1)
    have HLB := zA (show gB < L by rw [hL]; exact (Array.getElem?_eq_some_iff.1 HKB3.out).1)
    have HLR := zA (show gR < L by rw [hL]; exact (Array.getElem?_eq_some_iff.1 HKR3.out).1)
    have HGE := zA (show w.heap.size ≤ gR by rw [HGR.out]; exact HB.out.size)
    refine RdKit.wp_range_rd (gf := 42) rfl (fun args w => enters_ Try.func42 (by kernel_rfl) rfl args w) (each_iter g1 g2 A0 c0 l0 B (cutNum l0 B) (cutRow l0 B) HC0.out H2.out F1.out F2.out F3.out)
     (fun i args W hr => by obtain ⟨A, c, rfl, _⟩ := hr; rfl)
     (fun i args W r o hr hl => hr.put hl) (fun W r o hi hl => hi.put hl) (fun W W' hi hb => hi.below hb)
     (fun i W => ∃ v, W.heap[gS]? = some (.cells #[.int .i64 (l0.length : Int), .int .i64 B, .int .i64 a2, v] 24 (0, 0)) ∧ W.heap[gB]? = some (.cells #[.int .i64 a2] 3 (0, 0)) ∧ W.heap[gR]? = some (.cells #[.int .i64 0, .int .i64 0, .int .i64 0, .slice none 0 0] 24 (0, 0)) ∧ Kd.R k44 44 W (L + 2) (fun _ => True) v (sigMl k l0 B a2 i) ∧ Below w.heap.size w W)
     (fun _ _ => False) ?hIb ?hIp (fun _ _ _ _ h _ => h) ⟨_, HKS2.out, HKB3.out, HKR3.out, Kd.R_nil _ _ _ _ _, HB2.out⟩ HI.out
     (fun args => { tmps := #[.slice A0 l0.length c0, .int .i64 B, .int .i64 a2, undef, undef, .pointer (some ⟨gB, 0, none⟩), .pointer (some ⟨gR, 0, none⟩), .int .i64 0, .pointer (some ⟨gS, 0, none⟩), undef, args.getD 1 undef, .bool false, .int .i64 a2, .bool true, .bool false, .bool false, .int .i64 0, .bool false, .bool false, undef, undef, undef, .bool false, .bool false, undef, .bool false, .slice A0 l0.length c0, .int .i64 (l0.length : Int), .bool false, undef, .int .i64 0, .bool true, .slice A0 l0.length c0, .int .i64 (l0.length : Int), .int .i64 B, .slice A0 l0.length c0, .int .i64 (l0.length : Int), .int .i64 B, .int .i64 a2, .agg #[.int .i64 (l0.length : Int), .int .i64 B, .int .i64 a2, .slice none 0 0], .slice A0 l0.length c0, .int .i64 B, .func (.func 42) #[] #[.pointer (some ⟨g1, 0, none⟩), .pointer (some ⟨g2, 0, none⟩)], args.getD 0 undef, args.getD 1 undef, undef, undef, undef, undef, undef, undef, undef, undef, undef], defers := [] }) ?hassign ?hbody ?hdone (fun _ _ h _ => h.elim)
    case hIb =>
     rintro i W W' ⟨v, h1, h2, h3, h4, h5⟩ hb
     exact ⟨v, zc6 h1 hb, zc6 h2 hb, zc6 h3 hb, Kd.R_below h4 hb, zb5 h5 hb⟩
    case hIp =>
     rintro i W r o ⟨v, h1, h2, h3, h4, h5⟩ hl
     have hs := HLS.out; have hbb := HLB.out; have hr := HLR.out; have hb2 := HB2.out.size
     refine ⟨v, (World.putObj_heap_other (by omega)).trans h1, (World.putObj_heap_other (by omega)).trans h2, (World.putObj_heap_other (by omega)).trans h3, Kd.R_mono (Kd.R_move (Kd.R_bound h4) (fun k hk => World.putObj_heap_other (by have := hk.2.1; omega))) (fun _ _ => trivial), h5.trans (RdKit.putObj_below (by omega))⟩
    case hassign =>
     rintro i args W K ⟨A, c, rfl, _, _⟩ hK
     refine RdKit.region_round (l := [_]) (by kernel_rfl) (fun ⟨_, _, h⟩ => h) ?_
     go_wp2
     exact hK
    case hbody =>
     rintro i args W hi ⟨v, hgs, hgb, hgr, hR, hbw⟩ hIt ⟨A, c, rfl, hC, hcc⟩ ⟨r, hlr⟩ hD
     rw [← hL] at hlr hD
     obtain ⟨li, ⟨m1, m2⟩, hli, hm, hn⟩ := sigMs_at HMS.out i hi
     have HM := zA hm
     have hl1 : sigMl k l0 B a2 i = li := by unfold sigMl; rw [hli]; rfl
     have HL2 := zA (show sigMl k l0 B a2 (i + 1) = li ++ [⟨m1, m2⟩] by unfold sigMl; rw [hn]; rfl)
     rw [hl1] at hR
     have HLN := zA (sigMs_len hli)
     obtain ⟨Av, cv, rfl⟩ := Kd.R_slice hR
     have HIN := zA hi
     have HGS := zA hgs
     have HGB := zA hgb
     have HGZ := zA hgr
     have HBw := zA hbw
     have HIt := zA hIt
     have HLR1 := zA hlr
     have HD := zA hD
     have HCC := zA hcc
     have HLW := zA (show L + 2 ≤ W.heap.size from (Array.getElem?_eq_some_iff.1 hlr).1)
     have hb := below_drew (Below.refl W.heap.size W)
     have HC1 := zA (Kd.C_below hC hb)
     have HR1 := zA (Kd.R_below hR hb)
     have HBW := zA (hb.mono HLW.out)
     have hsz9 : L + 2 ≤ W.drew.heap.size := HLW.out
     have HCL := zA (show W.cell? ⟨gS, 3, none⟩ = some (.slice Av li.length cv) from (zc1 hgs 3).trans rfl)
     have HCB := zA (show W.cell? ⟨gB, 0, none⟩ = some (.int .i64 a2) from (zc1 hgb 0).trans rfl)
     have hcell : W.drew.cell? ⟨gS, 3, none⟩ = some (.slice Av li.length cv) := HCL.out
     have hcell2 : W.drew.cell? ⟨gB, 0, none⟩ = some (.int .i64 a2) := HCB.out
     clear hi hgs hgb hgr hbw hIt hlr hD hcc hb hC hR hm hn hli hl1
     refine wpIn_block ?_
     refine start_round (n := 9) (S := fun w' => w'.cell? ⟨gS, 3, none⟩ = some (.slice Av li.length cv) ∧ w'.cell? ⟨gB, 0, none⟩ = some (.int .i64 a2)) (ds := [8]) #[false, false, false, false, false, false, false, false, false] (by kernel_rfl) rfl rfl (by kernel_rfl) (fun ⟨_, _, h⟩ => h) ⟨hcell, hcell2⟩ (fun hHeld => ?_)
     refine with_tabW sig_Of.tab10 sig_Of.bits10 (fun HT_ HW_ => ?_)
     generalize W.drew = w9 at HC1 HR1 HBW hsz9 hHeld ⊢
     clear hcell hcell2
     refine pure_ (i := 0) (N := some 45) (v := ?_) (a' := ?_) #[true, false, false, false, false, false, false, false, false] rfl rfl (any_of HT_.out (by kernel_rfl)) (fun _ _ _ h => h) (Or.inl ⟨by rfl, ?_⟩) ?_ ?_
     rotate_left
     ·intro w'
      go_simp
      with_reducible rfl
     rotate_left
     ·simp only [Act.put, zs1, zs2, zs3, i64_w, i32_w]
      rfl
     refine pure_ (i := 2) (N := some 47) (v := ?_) (a' := ?_) #[true, false, true, false, false, false, false, false, false] rfl rfl (any_of HT_.out (by kernel_rfl)) (fun _ _ _ h => h) (Or.inl ⟨by rfl, ?_⟩) ?_ ?_
     rotate_left
     ·intro w'
      go_simp
      with_reducible rfl
     rotate_left
     ·simp only [Act.put, zs1, zs2, zs3, i64_w, i32_w]
      rfl
     refine take_ (i := 1) (N := some 46) (v := ?_) (a' := ?_) #[true, true, true, false, false, false, false, false, false] rfl rfl (take_ofW HT_.out HW_.out (by kernel_rfl)) (fun _ _ _ h => h) (Or.inl ⟨by rfl, ?_⟩) hHeld ?_ ?_
     rotate_left
     ·rintro w' ⟨s0, s1⟩
      go_simp
      with_reducible rfl
     rotate_left
     ·simp only [Act.put, zs1, zs2, zs3, i64_w, i32_w]
      rfl
     refine take_ (i := 3) (N := some 48) (v := ?_) (a' := ?_) #[true, true, true, true, false, false, false, false, false] rfl rfl (take_ofW HT_.out HW_.out (by kernel_rfl)) (fun _ _ _ h => h) (Or.inl ⟨by rfl, ?_⟩) hHeld ?_ ?_
     rotate_left
     ·rintro w' ⟨s0, s1⟩
      go_simp
      with_reducible rfl
     rotate_left
     ·simp only [Act.put, zs1, zs2, zs3, i64_w, i32_w]
      rfl
     refine one_ (i := 4) (N := some 49) #[true, true, true, true, true, false, false, false, false] rfl rfl (one_of HT_.out (by kernel_rfl)) (by decide) (fun K hK => ?_)
     refine goes_ Try.func34 (by kernel_rfl) rfl #[.slice A (cutRow l0 B i).length c, .int .i64 a2] (by rfl) rfl rfl (by (try simp only [zm1, zm2, zm3]); first | done | rfl) ?_
     with_reducible refine (sig_mark.calls k A c (cutRow l0 B i) a2 m1 m2 _ HC1.out HCC.out HM.out).mono ?_
     rintro e w10 ⟨rfl, hb⟩
     have HB10 := zA (HBW.out.trans (hb.mono hsz9))
     have HR10 := zA (Kd.R_below HR1.out hb)
     have hsz10 : L + 2 ≤ w10.heap.size := Nat.le_trans HLW.out HB10.out.size
     have HS10 := zA (show gS < w10.heap.size by have := HLS.out; omega)
     have HG10 := zA (show gB < w10.heap.size by have := HLB.out; omega)
     have hc10 : w10.cell? ⟨gS, 3, none⟩ = some (.slice Av li.length cv) := (HB10.out.cell (p := ⟨gS, 3, none⟩) (show gS < L + 2 by have := HLS.out; omega)).trans HCL.out
     have hb10 : w10.cell? ⟨gB, 0, none⟩ = some (.int .i64 a2) := (HB10.out.cell (p := ⟨gB, 0, none⟩) (show gB < L + 2 by have := HLB.out; omega)).trans HCB.out
     clear hb HR1 HBW hsz9
     refine ⟨_, rfl, ?_⟩
     refine hK.out _ _ ⟨hc10, hb10⟩ (fun hHeld => ?_)
     clear hK K
     refine norm_ (a' := ?_) ?_ ?_
     rotate_left
     ·show Act.put _ (some 49) _ = _
      simp only [Act.put, zs1, zs2, zs3, i64_w, i32_w]
      rfl
     refine one_ (i := 5) (N := some 50) #[true, true, true, true, true, true, false, false, false] rfl rfl (one_of HT_.out (by kernel_rfl)) (by decide) (fun K hK => ?_)
     refine value_ (w1 := ?_) (v := ?_) (by rfl) rfl ?_ ?_
     rotate_left 2
     ·go_simp
      constructor
      ·rfl
      ·rfl
     refine hK.out _ _ ⟨(Below.cell (zb3 (Below.refl _ _) _) (p := ⟨gS, 3, none⟩) HS10.out).trans hc10, (Below.cell (zb3 (Below.refl _ _) _) (p := ⟨gB, 0, none⟩) HG10.out).trans hb10⟩ (fun hHeld => ?_)
     clear hK K
     refine norm_ (a' := ?_) ?_ ?_
     rotate_left
     ·show Act.put _ (some 50) _ = _
      simp only [Act.put, zs1, zs2, zs3, i64_w, i32_w]
      rfl
     refine one_ (i := 6) (N := some 51) #[true, true, true, true, true, true, true, false, false] rfl rfl (one_of HT_.out (by kernel_rfl)) (by decide) (fun K hK => ?_)
     refine Kd.R_append_step k44 (w0 := W) (L + 2) (by rfl) (.tmp 46) (.tmp 50) 22 44 (.agg #[(.int .u32 0), (.string ⟨#[]⟩)]) 24 rfl Try.underlying22 info44 rfl (by decide) (by omega) (.slice Av li.length cv) li (⟨m1, m2⟩ : S44) [.int .u32 m1, .string m2] (fun _ => True) (fun _ => False) rfl rfl (k44_mkM _ _ _ (⟨m1, m2⟩ : S44)) (fun _ hk => hk.elim) (fun _ _ => trivial) HR10.out HB10.out hsz10 (by have := HIN.out; have := F2.out; have := HLN.out; omega) ?_
     intro v2 w11 ho hb hg hat
     rw [← HL2.out] at ho
     have HS4 := zA ho
     have HB4 := zA hb
     have hcell11 : w11.cell? ⟨gS, 3, none⟩ = some (.slice Av li.length cv) := (hb.cell (p := ⟨gS, 3, none⟩) (show gS < L + 2 by have := HLS.out; omega)).trans HCL.out
     have hcellb : w11.cell? ⟨gB, 0, none⟩ = some (.int .i64 a2) := (hb.cell (p := ⟨gB, 0, none⟩) (show gB < L + 2 by have := HLB.out; omega)).trans HCB.out
     have hblk11 := (hb.block gS (by have := HLS.out; omega)).trans HGS.out
     have hblkb := (hb.block gB (by have := HLB.out; omega)).trans HGB.out
     have hblkr := (hb.block gR (by have := HLR.out; omega)).trans HGZ.out
     obtain ⟨A4, c4, e4⟩ := Kd.R_slice HS4.out
     subst e4
     clear ho hb hg hat HR10 HB10 hc10 hb10
     refine hK.out _ _ ⟨hcell11, hcellb⟩ (fun hHeld => ?_)
     clear hK K
     refine norm_ (a' := ?_) ?_ ?_
     rotate_left
     ·show Act.put _ (some 51) _ = _
      simp only [Act.put, zs1, zs2, zs3, i64_w, i32_w]
      rfl
     refine pure_ (i := 7) (N := some 52) (v := ?_) (a' := ?_) #[true, true, true, true, true, true, true, true, false] rfl rfl (any_of HT_.out (by kernel_rfl)) (fun _ _ _ h => h) (Or.inl ⟨by rfl, ?_⟩) ?_ ?_
     rotate_left
     ·intro w'
      go_simp
      with_reducible rfl
     rotate_left
     ·simp only [Act.put, zs1, zs2, zs3, i64_w, i32_w]
      rfl
     refine last_ (i := 8) (N := none) #[true, true, true, true, true, true, true, true, true] rfl rfl (one_of HT_.out (by kernel_rfl)) (by decide) (fun K hK => ?_)
     have hfz : w11.frozen? ⟨gS, 3, none⟩ = false := zc5 hblk11 3
     go_simp
     refine hK.out _ _ ?_
     refine done_ (done_of HT_.out (by kernel_rfl)) ?_
     clear hK K HT_ HW_
     have hls := HLS.out
     have hlr := HLR.out
     have hlb := HLB.out
     have hbe := HB4.out
     have hbase : Below w.heap.size w (w11.setCell ⟨gS, 3, none⟩ (.slice A4 (sigMl k l0 B a2 (i + 1)).length c4)) := (HBw.out.trans (hbe.mono (by have := HB2.out.size; omega))).setCell GES.out _
     refine ⟨?_, ?_, ⟨.slice A4 (sigMl k l0 B a2 (i + 1)).length c4, blk_put hblk11 3 _ rfl, zc7 hblkb NBS.out _, zc7 hblkr NRS.out _, ?_, hbase⟩, ?_⟩
     ·rw [← hL]
      exact (Below.heap_setCell _ _ _ _ (by show L + 1 ≠ gS; omega)).trans (hbe.block _ (by omega))
     ·rw [← hL]
      exact (Below.heap_setCell _ _ _ _ (by show L ≠ gS; omega)).trans (hbe.block _ (by omega))
     ·exact Kd.R_mono (Kd.R_move (Kd.R_bound HS4.out) (fun k hk => Below.heap_setCell _ _ _ _ (by have := hk.2.1; show k ≠ gS; omega))) (fun _ _ => trivial)
     ·refine ⟨?_, ?_, Kd.C_below HR0.out hbase⟩
      ·refine (Below.heap_setCell _ _ _ _ (fun e => ?_)).trans ((hbe.block _ (by have := (Array.getElem?_eq_some_iff.1 HI.out.1).1; omega)).trans HIt.out.1)
       have e' : g1 = gS := e
       have := HIt.out.1
       rw [e', HGS.out] at this
       injection this with this
       injection this with _ this
       exact absurd this (by decide)
      ·refine (Below.heap_setCell _ _ _ _ (fun e => ?_)).trans ((hbe.block _ (by have := (Array.getElem?_eq_some_iff.1 HI.out.2.1).1; omega)).trans HIt.out.2.1)
       have e' : g2 = gS := e
       have := HIt.out.2.1
       rw [e', HGS.out] at this
       injection this with this
       injection this with _ this
       exact absurd this (by decide)
    case hdone =>
     rintro W ⟨v, hgs, hgb, hgr, hR, hbw⟩ hD
     rw [← hL] at hD
     have hl1 : sigMl k l0 B a2 (cutNum l0 B) = ms := by unfold sigMl; rw [HMS.out]; rfl
     rw [hl1] at hR
     obtain ⟨Av, cv, rfl⟩ := Kd.R_slice hR
     have hz0 : W.cell? ⟨gS, 0, none⟩ = some (.int .i64 (l0.length : Int)) := (zc1 hgs 0).trans rfl
     have hz1 : W.cell? ⟨gS, 1, none⟩ = some (.int .i64 B) := (zc1 hgs 1).trans rfl
     have hz2 : W.cell? ⟨gS, 2, none⟩ = some (.int .i64 a2) := (zc1 hgs 2).trans rfl
     have hz3 : W.cell? ⟨gS, 3, none⟩ = some (.slice Av ms.length cv) := (zc1 hgs 3).trans rfl
     have hf0 := zc5 hgr 0
     have hf1 := zc5 hgr 1
     have hf2 := zc5 hgr 2
     have hf3 := zc5 hgr 3
     have hy0 : W.cell? ⟨gR, 0, none⟩ = some (.int .i64 0) := (zc1 hgr 0).trans rfl
     have hy1 : W.cell? ⟨gR, 1, none⟩ = some (.int .i64 0) := (zc1 hgr 1).trans rfl
     have hy2 : W.cell? ⟨gR, 2, none⟩ = some (.int .i64 0) := (zc1 hgr 2).trans rfl
     have hy3 : W.cell? ⟨gR, 3, none⟩ = some (.slice none 0 0) := (zc1 hgr 3).trans rfl
     have HGZ := zA hgr
     have HR := zA hR
     have HBw := zA hbw
     have HD := zA hD
     clear hgs hgb hgr hR hbw hD hl1
     go_wp2
     rw [← hL]
     have hlr := HLR.out
     refine RdKit.marks_ret1 (D := L) ?_ ?_
     ·exact (Below.heap_setCell _ _ _ _ (by show L ≠ gR; omega)).trans ((Below.heap_setCell _ _ _ _ (by show L ≠ gR; omega)).trans ((Below.heap_setCell _ _ _ _ (by show L ≠ gR; omega)).trans ((Below.heap_setCell _ _ _ _ (by show L ≠ gR; omega)).trans HD.out)))
     refine ⟨_, results_ct rfl _ _ gR 24 #[.int .i64 (l0.length : Int), .int .i64 B, .int .i64 a2, .slice Av ms.length cv] (0, 0) _ rfl ((World.putObj_heap_other (show gR ≠ L by omega)).trans (blk_put (blk_put (blk_put (blk_put HGZ.out 0 (.int .i64 (l0.length : Int)) rfl) 1 (.int .i64 B) rfl) 2 (.int .i64 a2) rfl) 3 (.slice Av ms.length cv) rfl)) Try.underlying24 rfl (by kernel_rfl), ?_⟩
     refine ⟨_, rfl, Kd.R_lower (Kd.R_mono (Kd.R_move (Kd.R_bound HR.out) (fun k hk => ?_)) (fun _ _ => trivial)) (by have := HB2.out.size; omega), ?_⟩
     ·have := hk.2.1
      exact (World.putObj_heap_other (by omega)).trans ((Below.heap_setCell _ _ _ _ (by show k ≠ gR; omega)).trans ((Below.heap_setCell _ _ _ _ (by show k ≠ gR; omega)).trans ((Below.heap_setCell _ _ _ _ (by show k ≠ gR; omega)).trans (Below.heap_setCell _ _ _ _ (by show k ≠ gR; omega)))))
     ·exact (zb4 (zb4 (zb4 (zb4 HBw.out HGE.out) HGE.out) HGE.out) HGE.out).trans (RdKit.putObj_below (by have := HB2.out.size; omega))
   ·rw [if_neg h3, Option.bind_some] at h
    have h4 : 16 ≤ a1 ∧ a1 ≤ 4096 := h1.2.resolve_left h3
    rw [if_pos h4] at h
    obtain ⟨ms, hms, h⟩ := Option.bind_eq_some_iff.mp h
    simp only [Option.some.injEq, Prod.mk.injEq] at h
    obtain ⟨rfl, rfl, rfl, rfl, rfl⟩ := h
    obtain ⟨f1, f2, f3⟩ := cut_facts h4.1 h4.2 H2.out
    have F1 := zA f1
    have F2 := zA f2
    have F3 := zA f3
    have HMS := zA hms
    have HK := zA (show sig_block.f a1 = some true by unfold sig_block.f; rw [if_pos h4.1, zd1 h4.2])
    have n1 : decide (a1 = 0) = false := zd2 h3
    clear hms h4 f1 f2 f3 h1
    refine RdKit.calls_marks Try.func15 rfl ?_
    simp only [Try.ntmps15, List.size_toArray, List.length_cons, List.length_nil, Nat.reduceAdd, Nat.reduceSub, Array.replicate_succ, Array.replicate_zero, List.push_toArray, List.append_toArray, List.nil_append, List.cons_append]
    go_wp2_with (first | ((with_reducible refine gate_dst (N := 5) rfl ?_); refine box_event ?hg (N := 5) ?hd (cs := #[.int .i64 a2]) (t := 3) ?hr ?_; (case hd => rfl); (case hg => rfl); (case hr => first | (go_simp; done) | (go_simp; rfl)); intro gB hgB wB hA hq; have HB := zA hq; have HKB := zA hA; have hcB : wB.cell? ⟨gB, 0, none⟩ = some (.int .i64 a2) := (by rw [zc1 hA]; rfl); clear hA hq hgB) | ((with_reducible refine gate_dst (N := 6) rfl ?_); refine box_event ?hg (N := 6) ?hd (cs := #[.int .i64 0, .int .i64 0, .int .i64 0, .slice none 0 0]) (t := 24) ?hr ?_; (case hd => rfl); (case hg => rfl); (case hr => first | (go_simp; done) | (go_simp; rfl)); intro gR hgR wR hA hq; have HGR := zA hgR; have HKR := zA hA; have HKB := zA (zc6 HKB.out hq); have HBR := zA (zb5 HB.out hq); replace hcB : wR.cell? ⟨gB, 0, none⟩ = some (.int .i64 a2) := (by rw [zc1 HKB.out]; rfl); clear hA hq hgR) | ((with_reducible refine gate_dst (N := 8) rfl ?_); refine box_event ?hg (N := 8) ?hd (cs := #[.int .i64 0, .int .i64 0, .int .i64 0, .slice none 0 0]) (t := 24) ?hr ?_; (case hd => rfl); (case hg => rfl); (case hr => first | (go_simp; done) | (go_simp; rfl)); intro gS hgS wS hA hq; have HKS := zA hA; have HKB2 := zA (zc6 (g := gB) (by exact HKB.out) hq); have HKR2 := zA (zc6 (g := gR) (by exact HKR.out) hq); have HBS := zA (zb5 (zb1 HBR.out _) hq); have GES := zA (show w.heap.size ≤ gS by rw [hgS]; exact zb6 (zb1 HBR.out _)); have NBS := zA (show gB ≠ gS by rw [hgS]; exact Nat.ne_of_lt (blk_lt HKB.out)); have NRS := zA (show gR ≠ gS by rw [hgS]; exact Nat.ne_of_lt (blk_lt HKR.out)); replace hcB : wS.cell? ⟨gB, 0, none⟩ = some (.int .i64 a2) := (by rw [zc1 HKB2.out]; rfl); have hz0 : wS.cell? ⟨gS, 0, none⟩ = some (.int .i64 0) := (zc1 HKS.out 0).trans rfl; have hz1 : wS.cell? ⟨gS, 1, none⟩ = some (.int .i64 0) := (zc1 HKS.out 1).trans rfl; have hz2 : wS.cell? ⟨gS, 2, none⟩ = some (.int .i64 0) := (zc1 HKS.out 2).trans rfl; have hz3 : wS.cell? ⟨gS, 3, none⟩ = some (.slice none 0 0) := (zc1 HKS.out 3).trans rfl; have hf0 := zc5 HKS.out 0; have hf1 := zc5 HKS.out 1; have hf2 := zc5 HKS.out 2; have hf3 := zc5 HKS.out 3; clear hA hq hgS) | (go_at_call 30; (with_reducible refine (sig_strong.calls a2 true _ HS.out).mono ?_); rintro e w' ⟨rfl, ⟨nd, rfl⟩⟩) | (go_at_call 31; (with_reducible refine (sig_block.calls a1 true _ HK.out).mono ?_); rintro e w' ⟨rfl, ⟨nd2, rfl⟩⟩))
    refine (each_calls A0 c0 l0 a1 _ (Kd.C_below HR0.out (zb4 (zb4 (zb4 (zb4 HBS.out GES.out) GES.out) GES.out) GES.out))).mono ?_
    rintro e w2 ⟨g1, g2, rfl, hIt, hb, _⟩
    have HI := zA hIt
    have HB2 := zA (zb5 (zb4 (zb4 (zb4 (zb4 HBS.out GES.out) GES.out) GES.out) GES.out) hb)
    have HKS2 := zA (zc6 (blk_put (blk_put (blk_put (blk_put HKS.out 0 (.int .i64 (l0.length : Int)) rfl) 1 (.int .i64 a1) rfl) 2 (.int .i64 a2) rfl) 3 (.slice none 0 0) rfl) hb)
    have HKB3 := zA (zc6 (zc7 (zc7 (zc7 (zc7 HKB2.out NBS.out _) NBS.out _) NBS.out _) NBS.out _) hb)
    have HKR3 := zA (zc6 (zc7 (zc7 (zc7 (zc7 HKR2.out NRS.out _) NRS.out _) NRS.out _) NRS.out _) hb)
    clear hIt hb
    replace HI := HI
    go_wp2_with fail
    obtain ⟨L, hL⟩ : ∃ L, L = w2.heap.size := ⟨_, rfl⟩
    have HLS := zA (show gS < L by rw [hL]; exact (Array.getElem?_eq_some_iff.1 HKS2.out).1)
    have HLB := zA (show gB < L by rw [hL]; exact (Array.getElem?_eq_some_iff.1 HKB3.out).1)
    have HLR := zA (show gR < L by rw [hL]; exact (Array.getElem?_eq_some_iff.1 HKR3.out).1)
    have HGE := zA (show w.heap.size ≤ gR by rw [HGR.out]; exact HB.out.size)
    refine RdKit.wp_range_rd (gf := 42) rfl (fun args w => enters_ Try.func42 (by kernel_rfl) rfl args w) (each_iter g1 g2 A0 c0 l0 a1 (cutNum l0 a1) (cutRow l0 a1) HC0.out H2.out F1.out F2.out F3.out)
     (fun i args W hr => by obtain ⟨A, c, rfl, _⟩ := hr; rfl)
     (fun i args W r o hr hl => hr.put hl) (fun W r o hi hl => hi.put hl) (fun W W' hi hb => hi.below hb)
     (fun i W => ∃ v, W.heap[gS]? = some (.cells #[.int .i64 (l0.length : Int), .int .i64 a1, .int .i64 a2, v] 24 (0, 0)) ∧ W.heap[gB]? = some (.cells #[.int .i64 a2] 3 (0, 0)) ∧ W.heap[gR]? = some (.cells #[.int .i64 0, .int .i64 0, .int .i64 0, .slice none 0 0] 24 (0, 0)) ∧ Kd.R k44 44 W (L + 2) (fun _ => True) v (sigMl k l0 a1 a2 i) ∧ Below w.heap.size w W)
     (fun _ _ => False) ?hIb ?hIp (fun _ _ _ _ h _ => h) ⟨_, HKS2.out, HKB3.out, HKR3.out, Kd.R_nil _ _ _ _ _, HB2.out⟩ HI.out
     (fun args => { tmps := #[.slice A0 l0.length c0, .int .i64 a1, .int .i64 a2, undef, undef, .pointer (some ⟨gB, 0, none⟩), .pointer (some ⟨gR, 0, none⟩), .int .i64 0, .pointer (some ⟨gS, 0, none⟩), undef, args.getD 1 undef, .bool false, .int .i64 a2, .bool true, .bool false, .bool false, .int .i64 a1, .bool (a1 != 0), .bool (a1 != 0), .int .i64 a1, .bool true, .bool false, .bool false, .bool false, undef, .bool false, .slice A0 l0.length c0, .int .i64 (l0.length : Int), .bool false, undef, .int .i64 a1, .bool false, undef, undef, undef, .slice A0 l0.length c0, .int .i64 (l0.length : Int), .int .i64 a1, .int .i64 a2, .agg #[.int .i64 (l0.length : Int), .int .i64 a1, .int .i64 a2, .slice none 0 0], .slice A0 l0.length c0, .int .i64 a1, .func (.func 42) #[] #[.pointer (some ⟨g1, 0, none⟩), .pointer (some ⟨g2, 0, none⟩)], args.getD 0 undef, args.getD 1 undef, undef, undef, undef, undef, undef, undef, undef, undef, undef], defers := [] }) ?hassign ?hbody ?hdone (fun _ _ h _ => h.elim)
    case hIb =>
     rintro i W W' ⟨v, h1, h2, h3, h4, h5⟩ hb
     exact ⟨v, zc6 h1 hb, zc6 h2 hb, zc6 h3 hb, Kd.R_below h4 hb, zb5 h5 hb⟩
    case hIp =>
     rintro i W r o ⟨v, h1, h2, h3, h4, h5⟩ hl
     have hs := HLS.out; have hbb := HLB.out; have hr := HLR.out; have hb2 := HB2.out.size
     refine ⟨v, (World.putObj_heap_other (by omega)).trans h1, (World.putObj_heap_other (by omega)).trans h2, (World.putObj_heap_other (by omega)).trans h3, Kd.R_mono (Kd.R_move (Kd.R_bound h4) (fun k hk => World.putObj_heap_other (by have := hk.2.1; omega))) (fun _ _ => trivial), h5.trans (RdKit.putObj_below (by omega))⟩
    case hassign =>
     rintro i args W K ⟨A, c, rfl, _, _⟩ hK
     refine RdKit.region_round (l := [_]) (by kernel_rfl) (fun ⟨_, _, h⟩ => h) ?_
     go_wp2
     exact hK
    case hbody =>
     rintro i args W hi ⟨v, hgs, hgb, hgr, hR, hbw⟩ hIt ⟨A, c, rfl, hC, hcc⟩ ⟨r, hlr⟩ hD
     rw [← hL] at hlr hD
     obtain ⟨li, ⟨m1, m2⟩, hli, hm, hn⟩ := sigMs_at HMS.out i hi
     have HM := zA hm
     have hl1 : sigMl k l0 a1 a2 i = li := by unfold sigMl; rw [hli]; rfl
     have HL2 := zA (show sigMl k l0 a1 a2 (i + 1) = li ++ [⟨m1, m2⟩] by unfold sigMl; rw [hn]; rfl)
     rw [hl1] at hR
     have HLN := zA (sigMs_len hli)
     obtain ⟨Av, cv, rfl⟩ := Kd.R_slice hR
     have HIN := zA hi
     have HGS := zA hgs
     have HGB := zA hgb
     have HGZ := zA hgr
     have HBw := zA hbw
     have HIt := zA hIt
     have HLR1 := zA hlr
     have HD := zA hD
     have HCC := zA hcc
     have HLW := zA (show L + 2 ≤ W.heap.size from (Array.getElem?_eq_some_iff.1 hlr).1)
     have hb := below_drew (Below.refl W.heap.size W)
     have HC1 := zA (Kd.C_below hC hb)
     have HR1 := zA (Kd.R_below hR hb)
     have HBW := zA (hb.mono HLW.out)
     have hsz9 : L + 2 ≤ W.drew.heap.size := HLW.out
     have HCL := zA (show W.cell? ⟨gS, 3, none⟩ = some (.slice Av li.length cv) from (zc1 hgs 3).trans rfl)
     have HCB := zA (show W.cell? ⟨gB, 0, none⟩ = some (.int .i64 a2) from (zc1 hgb 0).trans rfl)
     have hcell : W.drew.cell? ⟨gS, 3, none⟩ = some (.slice Av li.length cv) := HCL.out
     have hcell2 : W.drew.cell? ⟨gB, 0, none⟩ = some (.int .i64 a2) := HCB.out
     clear hi hgs hgb hgr hbw hIt hlr hD hcc hb hC hR hm hn hli hl1
     refine wpIn_block ?_
     refine start_round (n := 9) (S := fun w' => w'.cell? ⟨gS, 3, none⟩ = some (.slice Av li.length cv) ∧ w'.cell? ⟨gB, 0, none⟩ = some (.int .i64 a2)) (ds := [8]) #[false, false, false, false, false, false, false, false, false] (by kernel_rfl) rfl rfl (by kernel_rfl) (fun ⟨_, _, h⟩ => h) ⟨hcell, hcell2⟩ (fun hHeld => ?_)
     refine with_tabW sig_Of.tab10 sig_Of.bits10 (fun HT_ HW_ => ?_)
     generalize W.drew = w9 at HC1 HR1 HBW hsz9 hHeld ⊢
     clear hcell hcell2
     refine pure_ (i := 0) (N := some 45) (v := ?_) (a' := ?_) #[true, false, false, false, false, false, false, false, false] rfl rfl (any_of HT_.out (by kernel_rfl)) (fun _ _ _ h => h) (Or.inl ⟨by rfl, ?_⟩) ?_ ?_
     rotate_left
     ·intro w'
      go_simp
      with_reducible rfl
     rotate_left
     ·simp only [Act.put, zs1, zs2, zs3, i64_w, i32_w]
      rfl
     refine pure_ (i := 2) (N := some 47) (v := ?_) (a' := ?_) #[true, false, true, false, false, false, false, false, false] rfl rfl (any_of HT_.out (by kernel_rfl)) (fun _ _ _ h => h) (Or.inl ⟨by rfl, ?_⟩) ?_ ?_
     rotate_left
     ·intro w'
      go_simp
      with_reducible rfl
     rotate_left
     ·simp only [Act.put, zs1, zs2, zs3, i64_w, i32_w]
      rfl
     refine take_ (i := 1) (N := some 46) (v := ?_) (a' := ?_) #[true, true, true, false, false, false, false, false, false] rfl rfl (take_ofW HT_.out HW_.out (by kernel_rfl)) (fun _ _ _ h => h) (Or.inl ⟨by rfl, ?_⟩) hHeld ?_ ?_
     rotate_left
     ·rintro w' ⟨s0, s1⟩
      go_simp
      with_reducible rfl
     rotate_left
     ·simp only [Act.put, zs1, zs2, zs3, i64_w, i32_w]
      rfl
     refine take_ (i := 3) (N := some 48) (v := ?_) (a' := ?_) #[true, true, true, true, false, false, false, false, false] rfl rfl (take_ofW HT_.out HW_.out (by kernel_rfl)) (fun _ _ _ h => h) (Or.inl ⟨by rfl, ?_⟩) hHeld ?_ ?_
     rotate_left
     ·rintro w' ⟨s0, s1⟩
      go_simp
      with_reducible rfl
     rotate_left
     ·simp only [Act.put, zs1, zs2, zs3, i64_w, i32_w]
      rfl
     refine one_ (i := 4) (N := some 49) #[true, true, true, true, true, false, false, false, false] rfl rfl (one_of HT_.out (by kernel_rfl)) (by decide) (fun K hK => ?_)
     refine goes_ Try.func34 (by kernel_rfl) rfl #[.slice A (cutRow l0 a1 i).length c, .int .i64 a2] (by rfl) rfl rfl (by (try simp only [zm1, zm2, zm3]); first | done | rfl) ?_
     with_reducible refine (sig_mark.calls k A c (cutRow l0 a1 i) a2 m1 m2 _ HC1.out HCC.out HM.out).mono ?_
     rintro e w10 ⟨rfl, hb⟩
     have HB10 := zA (HBW.out.trans (hb.mono hsz9))
     have HR10 := zA (Kd.R_below HR1.out hb)
     have hsz10 : L + 2 ≤ w10.heap.size := Nat.le_trans HLW.out HB10.out.size
     have HS10 := zA (show gS < w10.heap.size by have := HLS.out; omega)
     have HG10 := zA (show gB < w10.heap.size by have := HLB.out; omega)
     have hc10 : w10.cell? ⟨gS, 3, none⟩ = some (.slice Av li.length cv) := (HB10.out.cell (p := ⟨gS, 3, none⟩) (show gS < L + 2 by have := HLS.out; omega)).trans HCL.out
     have hb10 : w10.cell? ⟨gB, 0, none⟩ = some (.int .i64 a2) := (HB10.out.cell (p := ⟨gB, 0, none⟩) (show gB < L + 2 by have := HLB.out; omega)).trans HCB.out
     clear hb HR1 HBW hsz9
     refine ⟨_, rfl, ?_⟩
     refine hK.out _ _ ⟨hc10, hb10⟩ (fun hHeld => ?_)
     clear hK K
     refine norm_ (a' := ?_) ?_ ?_
     rotate_left
     ·show Act.put _ (some 49) _ = _
      simp only [Act.put, zs1, zs2, zs3, i64_w, i32_w]
      rfl
     refine one_ (i := 5) (N := some 50) #[true, true, true, true, true, true, false, false, false] rfl rfl (one_of HT_.out (by kernel_rfl)) (by decide) (fun K hK => ?_)
     refine value_ (w1 := ?_) (v := ?_) (by rfl) rfl ?_ ?_
     rotate_left 2
     ·go_simp
      constructor
      ·rfl
      ·rfl
     refine hK.out _ _ ⟨(Below.cell (zb3 (Below.refl _ _) _) (p := ⟨gS, 3, none⟩) HS10.out).trans hc10, (Below.cell (zb3 (Below.refl _ _) _) (p := ⟨gB, 0, none⟩) HG10.out).trans hb10⟩ (fun hHeld => ?_)
     clear hK K
     refine norm_ (a' := ?_) ?_ ?_
     rotate_left
     ·show Act.put _ (some 50) _ = _
      simp only [Act.put, zs1, zs2, zs3, i64_w, i32_w]
      rfl
     refine one_ (i := 6) (N := some 51) #[true, true, true, true, true, true, true, false, false] rfl rfl (one_of HT_.out (by kernel_rfl)) (by decide) (fun K hK => ?_)
     refine Kd.R_append_step k44 (w0 := W) (L + 2) (by rfl) (.tmp 46) (.tmp 50) 22 44 (.agg #[(.int .u32 0), (.string ⟨#[]⟩)]) 24 rfl Try.underlying22 info44 rfl (by decide) (by omega) (.slice Av li.length cv) li (⟨m1, m2⟩ : S44) [.int .u32 m1, .string m2] (fun _ => True) (fun _ => False) rfl rfl (k44_mkM _ _ _ (⟨m1, m2⟩ : S44)) (fun _ hk => hk.elim) (fun _ _ => trivial) HR10.out HB10.out hsz10 (by have := HIN.out; have := F2.out; have := HLN.out; omega) ?_
     intro v2 w11 ho hb hg hat
     rw [← HL2.out] at ho
     have HS4 := zA ho
     have HB4 := zA hb
     have hcell11 : w11.cell? ⟨gS, 3, none⟩ = some (.slice Av li.length cv) := (hb.cell (p := ⟨gS, 3, none⟩) (show gS < L + 2 by have := HLS.out; omega)).trans HCL.out
     have hcellb : w11.cell? ⟨gB, 0, none⟩ = some (.int .i64 a2) := (hb.cell (p := ⟨gB, 0, none⟩) (show gB < L + 2 by have := HLB.out; omega)).trans HCB.out
     have hblk11 := (hb.block gS (by have := HLS.out; omega)).trans HGS.out
     have hblkb := (hb.block gB (by have := HLB.out; omega)).trans HGB.out
     have hblkr := (hb.block gR (by have := HLR.out; omega)).trans HGZ.out
     obtain ⟨A4, c4, e4⟩ := Kd.R_slice HS4.out
     subst e4
     clear ho hb hg hat HR10 HB10 hc10 hb10
     refine hK.out _ _ ⟨hcell11, hcellb⟩ (fun hHeld => ?_)
     clear hK K
     refine norm_ (a' := ?_) ?_ ?_
     rotate_left
     ·show Act.put _ (some 51) _ = _
      simp only [Act.put, zs1, zs2, zs3, i64_w, i32_w]
      rfl
     refine pure_ (i := 7) (N := some 52) (v := ?_) (a' := ?_) #[true, true, true, true, true, true, true, true, false] rfl rfl (any_of HT_.out (by kernel_rfl)) (fun _ _ _ h => h) (Or.inl ⟨by rfl, ?_⟩) ?_ ?_
     rotate_left
     ·intro w'
      go_simp
      with_reducible rfl
     rotate_left
     ·simp only [Act.put, zs1, zs2, zs3, i64_w, i32_w]
      rfl
     refine last_ (i := 8) (N := none) #[true, true, true, true, true, true, true, true, true] rfl rfl (one_of HT_.out (by kernel_rfl)) (by decide) (fun K hK => ?_)
     have hfz : w11.frozen? ⟨gS, 3, none⟩ = false := zc5 hblk11 3
     go_simp
     refine hK.out _ _ ?_
     refine done_ (done_of HT_.out (by kernel_rfl)) ?_
     clear hK K HT_ HW_
     have hls := HLS.out
     have hlr := HLR.out
     have hlb := HLB.out
     have hbe := HB4.out
     have hbase : Below w.heap.size w (w11.setCell ⟨gS, 3, none⟩ (.slice A4 (sigMl k l0 a1 a2 (i + 1)).length c4)) := (HBw.out.trans (hbe.mono (by have := HB2.out.size; omega))).setCell GES.out _
     refine ⟨?_, ?_, ⟨.slice A4 (sigMl k l0 a1 a2 (i + 1)).length c4, blk_put hblk11 3 _ rfl, zc7 hblkb NBS.out _, zc7 hblkr NRS.out _, ?_, hbase⟩, ?_⟩
     ·rw [← hL]
      exact (Below.heap_setCell _ _ _ _ (by show L + 1 ≠ gS; omega)).trans (hbe.block _ (by omega))
     ·rw [← hL]
      exact (Below.heap_setCell _ _ _ _ (by show L ≠ gS; omega)).trans (hbe.block _ (by omega))
     ·exact Kd.R_mono (Kd.R_move (Kd.R_bound HS4.out) (fun k hk => Below.heap_setCell _ _ _ _ (by have := hk.2.1; show k ≠ gS; omega))) (fun _ _ => trivial)
     ·refine ⟨?_, ?_, Kd.C_below HR0.out hbase⟩
      ·refine (Below.heap_setCell _ _ _ _ (fun e => ?_)).trans ((hbe.block _ (by have := (Array.getElem?_eq_some_iff.1 HI.out.1).1; omega)).trans HIt.out.1)
       have e' : g1 = gS := e
       have := HIt.out.1
       rw [e', HGS.out] at this
       injection this with this
       injection this with _ this
       exact absurd this (by decide)
      ·refine (Below.heap_setCell _ _ _ _ (fun e => ?_)).trans ((hbe.block _ (by have := (Array.getElem?_eq_some_iff.1 HI.out.2.1).1; omega)).trans HIt.out.2.1)
       have e' : g2 = gS := e
       have := HIt.out.2.1
       rw [e', HGS.out] at this
       injection this with this
       injection this with _ this
       exact absurd this (by decide)
    case hdone =>
     rintro W ⟨v, hgs, hgb, hgr, hR, hbw⟩ hD
     rw [← hL] at hD
     have hl1 : sigMl k l0 a1 a2 (cutNum l0 a1) = ms := by unfold sigMl; rw [HMS.out]; rfl
     rw [hl1] at hR
     obtain ⟨Av, cv, rfl⟩ := Kd.R_slice hR
     have hz0 : W.cell? ⟨gS, 0, none⟩ = some (.int .i64 (l0.length : Int)) := (zc1 hgs 0).trans rfl
     have hz1 : W.cell? ⟨gS, 1, none⟩ = some (.int .i64 a1) := (zc1 hgs 1).trans rfl
     have hz2 : W.cell? ⟨gS, 2, none⟩ = some (.int .i64 a2) := (zc1 hgs 2).trans rfl
     have hz3 : W.cell? ⟨gS, 3, none⟩ = some (.slice Av ms.length cv) := (zc1 hgs 3).trans rfl
     have hf0 := zc5 hgr 0
     have hf1 := zc5 hgr 1
     have hf2 := zc5 hgr 2
     have hf3 := zc5 hgr 3
     have hy0 : W.cell? ⟨gR, 0, none⟩ = some (.int .i64 0) := (zc1 hgr 0).trans rfl
     have hy1 : W.cell? ⟨gR, 1, none⟩ = some (.int .i64 0) := (zc1 hgr 1).trans rfl
     have hy2 : W.cell? ⟨gR, 2, none⟩ = some (.int .i64 0) := (zc1 hgr 2).trans rfl
     have hy3 : W.cell? ⟨gR, 3, none⟩ = some (.slice none 0 0) := (zc1 hgr 3).trans rfl
     have HGZ := zA hgr
     have HR := zA hR
     have HBw := zA hbw
     have HD := zA hD
     clear hgs hgb hgr hR hbw hD hl1
     go_wp2
     rw [← hL]
     have hlr := HLR.out
     refine RdKit.marks_ret1 (D := L) ?_ ?_
     ·exact (Below.heap_setCell _ _ _ _ (by show L ≠ gR; omega)).trans ((Below.heap_setCell _ _ _ _ (by show L ≠ gR; omega)).trans ((Below.heap_setCell _ _ _ _ (by show L ≠ gR; omega)).trans ((Below.heap_setCell _ _ _ _ (by show L ≠ gR; omega)).trans HD.out)))
     refine ⟨_, results_ct rfl _ _ gR 24 #[.int .i64 (l0.length : Int), .int .i64 a1, .int .i64 a2, .slice Av ms.length cv] (0, 0) _ rfl ((World.putObj_heap_other (show gR ≠ L by omega)).trans (blk_put (blk_put (blk_put (blk_put HGZ.out 0 (.int .i64 (l0.length : Int)) rfl) 1 (.int .i64 a1) rfl) 2 (.int .i64 a2) rfl) 3 (.slice Av ms.length cv) rfl)) Try.underlying24 rfl (by kernel_rfl), ?_⟩
     refine ⟨_, rfl, Kd.R_lower (Kd.R_mono (Kd.R_move (Kd.R_bound HR.out) (fun k hk => ?_)) (fun _ _ => trivial)) (by have := HB2.out.size; omega), ?_⟩
     ·have := hk.2.1
      exact (World.putObj_heap_other (by omega)).trans ((Below.heap_setCell _ _ _ _ (by show k ≠ gR; omega)).trans ((Below.heap_setCell _ _ _ _ (by show k ≠ gR; omega)).trans ((Below.heap_setCell _ _ _ _ (by show k ≠ gR; omega)).trans (Below.heap_setCell _ _ _ _ (by show k ≠ gR; omega)))))
     ·exact (zb4 (zb4 (zb4 (zb4 HBw.out HGE.out) HGE.out) HGE.out) HGE.out).trans (RdKit.putObj_below (by have := HB2.out.size; omega))
  ·rw [if_neg h2] at h
   simp only [Option.some.injEq, Prod.mk.injEq] at h
   obtain ⟨rfl, rfl, rfl, rfl, rfl⟩ := h
   have c1 : decide (131072 < (l0.length : Int)) = true := by simp; omega
   have c2 : decide (131072 < l0.length) = true := by simp; omega
   clear h2
   by_cases h3 : a1 = 0
   ·subst h3
    clear h1
    refine RdKit.calls_marks Try.func15 rfl ?_
    simp only [Try.ntmps15, List.size_toArray, List.length_cons, List.length_nil, Nat.reduceAdd, Nat.reduceSub, Array.replicate_succ, Array.replicate_zero, List.push_toArray, List.append_toArray, List.nil_append, List.cons_append]
    go_wp2_with (first | ((with_reducible refine gate_dst (N := 5) rfl ?_); refine box_event ?hg (N := 5) ?hd (cs := #[.int .i64 a2]) (t := 3) ?hr ?_; (case hd => rfl); (case hg => rfl); (case hr => first | (go_simp; done) | (go_simp; rfl)); intro gB hgB wB hA hq; have HB := zA hq; have HKB := zA hA; have hcB : wB.cell? ⟨gB, 0, none⟩ = some (.int .i64 a2) := (by rw [zc1 hA]; rfl); clear hA hq hgB) | ((with_reducible refine gate_dst (N := 6) rfl ?_); refine box_event ?hg (N := 6) ?hd (cs := #[.int .i64 0, .int .i64 0, .int .i64 0, .slice none 0 0]) (t := 24) ?hr ?_; (case hd => rfl); (case hg => rfl); (case hr => first | (go_simp; done) | (go_simp; rfl)); intro gR hgR wR hA hq; have HGR := zA hgR; have HKR := zA hA; have HKB := zA (zc6 HKB.out hq); have HBR := zA (zb5 HB.out hq); replace hcB : wR.cell? ⟨gB, 0, none⟩ = some (.int .i64 a2) := (by rw [zc1 HKB.out]; rfl); have hy0 : wR.cell? ⟨gR, 0, none⟩ = some (.int .i64 0) := (zc1 HKR.out 0).trans rfl; have hy1 : wR.cell? ⟨gR, 1, none⟩ = some (.int .i64 0) := (zc1 HKR.out 1).trans rfl; have hy2 : wR.cell? ⟨gR, 2, none⟩ = some (.int .i64 0) := (zc1 HKR.out 2).trans rfl; have hy3 : wR.cell? ⟨gR, 3, none⟩ = some (.slice none 0 0) := (zc1 HKR.out 3).trans rfl; have hx0 := zc5 HKR.out 0; have hx1 := zc5 HKR.out 1; have hx2 := zc5 HKR.out 2; have hx3 := zc5 HKR.out 3; clear hA hq hgR) | ((with_reducible refine gate_dst (N := 8) rfl ?_); refine box_event ?hg (N := 8) ?hd (cs := #[.int .i64 0, .int .i64 0, .int .i64 0, .slice none 0 0]) (t := 24) ?hr ?_; (case hd => rfl); (case hg => rfl); (case hr => first | (go_simp; done) | (go_simp; rfl)); intro gS hgS wS hA hq; have HKS := zA hA; have HKB2 := zA (zc6 (g := gB) (by exact HKB.out) hq); have HKR2 := zA (zc6 (g := gR) (by exact HKR.out) hq); have HBS := zA (zb5 (zb1 HBR.out _) hq); have GES := zA (show w.heap.size ≤ gS by rw [hgS]; exact zb6 (zb1 HBR.out _)); have NBS := zA (show gB ≠ gS by rw [hgS]; exact Nat.ne_of_lt (blk_lt HKB.out)); have NRS := zA (show gR ≠ gS by rw [hgS]; exact Nat.ne_of_lt (blk_lt HKR.out)); replace hcB : wS.cell? ⟨gB, 0, none⟩ = some (.int .i64 a2) := (by rw [zc1 HKB2.out]; rfl); have hz0 : wS.cell? ⟨gS, 0, none⟩ = some (.int .i64 0) := (zc1 HKS.out 0).trans rfl; have hz1 : wS.cell? ⟨gS, 1, none⟩ = some (.int .i64 0) := (zc1 HKS.out 1).trans rfl; have hz2 : wS.cell? ⟨gS, 2, none⟩ = some (.int .i64 0) := (zc1 HKS.out 2).trans rfl; have hz3 : wS.cell? ⟨gS, 3, none⟩ = some (.slice none 0 0) := (zc1 HKS.out 3).trans rfl; have hf0 := zc5 HKS.out 0; have hf1 := zc5 HKS.out 1; have hf2 := zc5 HKS.out 2; have hf3 := zc5 HKS.out 3; clear hA hq hgS) | (go_at_call 30; (with_reducible refine (sig_strong.calls a2 true _ HS.out).mono ?_); rintro e w' ⟨rfl, ⟨nd, rfl⟩⟩))
    have HGE := zA (show w.heap.size ≤ gR by rw [HGR.out]; exact HB.out.size)
    refine RdKit.marks_ret ?_
    refine ⟨_, results_ct rfl _ _ gR 24 #[.int .i64 0, .int .i64 0, .int .i64 0, .slice none 0 0] (0, 0) _ rfl (blk_put (blk_put (blk_put (blk_put HKR.out 0 (.int .i64 0) rfl) 1 (.int .i64 0) rfl) 2 (.int .i64 0) rfl) 3 (.slice none 0 0) rfl) Try.underlying24 rfl (by kernel_rfl), ?_⟩
    refine ⟨_, rfl, Kd.R_nil _ _ _ _ _, ?_⟩
    exact zb4 (zb4 (zb4 (zb4 (zb1 HBR.out _) HGE.out) HGE.out) HGE.out) HGE.out
   ·have h4 : 16 ≤ a1 ∧ a1 ≤ 4096 := h1.2.resolve_left h3
    have HK := zA (show sig_block.f a1 = some true by unfold sig_block.f; rw [if_pos h4.1, zd1 h4.2])
    have n1 : decide (a1 = 0) = false := zd2 h3
    clear h4 h1
    refine RdKit.calls_marks Try.func15 rfl ?_
    simp only [Try.ntmps15, List.size_toArray, List.length_cons, List.length_nil, Nat.reduceAdd, Nat.reduceSub, Array.replicate_succ, Array.replicate_zero, List.push_toArray, List.append_toArray, List.nil_append, List.cons_append]
    go_wp2_with (first | ((with_reducible refine gate_dst (N := 5) rfl ?_); refine box_event ?hg (N := 5) ?hd (cs := #[.int .i64 a2]) (t := 3) ?hr ?_; (case hd => rfl); (case hg => rfl); (case hr => first | (go_simp; done) | (go_simp; rfl)); intro gB hgB wB hA hq; have HB := zA hq; have HKB := zA hA; have hcB : wB.cell? ⟨gB, 0, none⟩ = some (.int .i64 a2) := (by rw [zc1 hA]; rfl); clear hA hq hgB) | ((with_reducible refine gate_dst (N := 6) rfl ?_); refine box_event ?hg (N := 6) ?hd (cs := #[.int .i64 0, .int .i64 0, .int .i64 0, .slice none 0 0]) (t := 24) ?hr ?_; (case hd => rfl); (case hg => rfl); (case hr => first | (go_simp; done) | (go_simp; rfl)); intro gR hgR wR hA hq; have HGR := zA hgR; have HKR := zA hA; have HKB := zA (zc6 HKB.out hq); have HBR := zA (zb5 HB.out hq); replace hcB : wR.cell? ⟨gB, 0, none⟩ = some (.int .i64 a2) := (by rw [zc1 HKB.out]; rfl); have hy0 : wR.cell? ⟨gR, 0, none⟩ = some (.int .i64 0) := (zc1 HKR.out 0).trans rfl; have hy1 : wR.cell? ⟨gR, 1, none⟩ = some (.int .i64 0) := (zc1 HKR.out 1).trans rfl; have hy2 : wR.cell? ⟨gR, 2, none⟩ = some (.int .i64 0) := (zc1 HKR.out 2).trans rfl; have hy3 : wR.cell? ⟨gR, 3, none⟩ = some (.slice none 0 0) := (zc1 HKR.out 3).trans rfl; have hx0 := zc5 HKR.out 0; have hx1 := zc5 HKR.out 1; have hx2 := zc5 HKR.out 2; have hx3 := zc5 HKR.out 3; clear hA hq hgR) | ((with_reducible refine gate_dst (N := 8) rfl ?_); refine box_event ?hg (N := 8) ?hd (cs := #[.int .i64 0, .int .i64 0, .int .i64 0, .slice none 0 0]) (t := 24) ?hr ?_; (case hd => rfl); (case hg => rfl); (case hr => first | (go_simp; done) | (go_simp; rfl)); intro gS hgS wS hA hq; have HKS := zA hA; have HKB2 := zA (zc6 (g := gB) (by exact HKB.out) hq); have HKR2 := zA (zc6 (g := gR) (by exact HKR.out) hq); have HBS := zA (zb5 (zb1 HBR.out _) hq); have GES := zA (show w.heap.size ≤ gS by rw [hgS]; exact zb6 (zb1 HBR.out _)); have NBS := zA (show gB ≠ gS by rw [hgS]; exact Nat.ne_of_lt (blk_lt HKB.out)); have NRS := zA (show gR ≠ gS by rw [hgS]; exact Nat.ne_of_lt (blk_lt HKR.out)); replace hcB : wS.cell? ⟨gB, 0, none⟩ = some (.int .i64 a2) := (by rw [zc1 HKB2.out]; rfl); have hz0 : wS.cell? ⟨gS, 0, none⟩ = some (.int .i64 0) := (zc1 HKS.out 0).trans rfl; have hz1 : wS.cell? ⟨gS, 1, none⟩ = some (.int .i64 0) := (zc1 HKS.out 1).trans rfl; have hz2 : wS.cell? ⟨gS, 2, none⟩ = some (.int .i64 0) := (zc1 HKS.out 2).trans rfl; have hz3 : wS.cell? ⟨gS, 3, none⟩ = some (.slice none 0 0) := (zc1 HKS.out 3).trans rfl; have hf0 := zc5 HKS.out 0; have hf1 := zc5 HKS.out 1; have hf2 := zc5 HKS.out 2; have hf3 := zc5 HKS.out 3; clear hA hq hgS) | (go_at_call 30; (with_reducible refine (sig_strong.calls a2 true _ HS.out).mono ?_); rintro e w' ⟨rfl, ⟨nd, rfl⟩⟩) | (go_at_call 31; (with_reducible refine (sig_block.calls a1 true _ HK.out).mono ?_); rintro e w' ⟨rfl, ⟨nd2, rfl⟩⟩))
    have HGE := zA (show w.heap.size ≤ gR by rw [HGR.out]; exact HB.out.size)
    refine RdKit.marks_ret ?_
    refine ⟨_, results_ct rfl _ _ gR 24 #[.int .i64 0, .int .i64 0, .int .i64 0, .slice none 0 0] (0, 0) _ rfl (blk_put (blk_put (blk_put (blk_put HKR.out 0 (.int .i64 0) rfl) 1 (.int .i64 0) rfl) 2 (.int .i64 0) rfl) 3 (.slice none 0 0) rfl) Try.underlying24 rfl (by kernel_rfl), ?_⟩
    refine ⟨_, rfl, Kd.R_nil _ _ _ _ _, ?_⟩
    exact zb4 (zb4 (zb4 (zb4 (zb1 HBR.out _) HGE.out) HGE.out) HGE.out) HGE.out
 ·rw [if_neg h1] at h
  simp only [Option.some.injEq, Prod.mk.injEq] at h
  obtain ⟨rfl, rfl, rfl, rfl, rfl⟩ := h
  by_cases h2 : 1 ≤ a2 ∧ a2 ≤ 32
  ·have HS := zA (show sig_strong.f a2 = some true by unfold sig_strong.f; rw [if_pos h2.1, zd1 h2.2])
   have h3 : ¬ a1 = 0 := fun h => h1 ⟨h2, Or.inl h⟩
   have h4 : ¬ (16 ≤ a1 ∧ a1 ≤ 4096) := fun h => h1 ⟨h2, Or.inr h⟩
   have HK := zA (show sig_block.f a1 = some false by
    unfold sig_block.f
    by_cases h5 : 16 ≤ a1
    ·rw [if_pos h5, zd2 (fun h6 => h4 ⟨h5, h6⟩)]
    ·rw [if_neg h5])
   have n1 : decide (a1 = 0) = false := zd2 h3
   clear h4 h1 h2
   refine RdKit.calls_marks Try.func15 rfl ?_
   simp only [Try.ntmps15, List.size_toArray, List.length_cons, List.length_nil, Nat.reduceAdd, Nat.reduceSub, Array.replicate_succ, Array.replicate_zero, List.push_toArray, List.append_toArray, List.nil_append, List.cons_append]
   go_wp2_with (first | ((with_reducible refine gate_dst (N := 5) rfl ?_); refine box_event ?hg (N := 5) ?hd (cs := #[.int .i64 a2]) (t := 3) ?hr ?_; (case hd => rfl); (case hg => rfl); (case hr => first | (go_simp; done) | (go_simp; rfl)); intro gB hgB wB hA hq; have HB := zA hq; have HKB := zA hA; have hcB : wB.cell? ⟨gB, 0, none⟩ = some (.int .i64 a2) := (by rw [zc1 hA]; rfl); clear hA hq hgB) | ((with_reducible refine gate_dst (N := 6) rfl ?_); refine box_event ?hg (N := 6) ?hd (cs := #[.int .i64 0, .int .i64 0, .int .i64 0, .slice none 0 0]) (t := 24) ?hr ?_; (case hd => rfl); (case hg => rfl); (case hr => first | (go_simp; done) | (go_simp; rfl)); intro gR hgR wR hA hq; have HGR := zA hgR; have HKR := zA hA; have HKB := zA (zc6 HKB.out hq); have HBR := zA (zb5 HB.out hq); replace hcB : wR.cell? ⟨gB, 0, none⟩ = some (.int .i64 a2) := (by rw [zc1 HKB.out]; rfl); have hy0 : wR.cell? ⟨gR, 0, none⟩ = some (.int .i64 0) := (zc1 HKR.out 0).trans rfl; have hy1 : wR.cell? ⟨gR, 1, none⟩ = some (.int .i64 0) := (zc1 HKR.out 1).trans rfl; have hy2 : wR.cell? ⟨gR, 2, none⟩ = some (.int .i64 0) := (zc1 HKR.out 2).trans rfl; have hy3 : wR.cell? ⟨gR, 3, none⟩ = some (.slice none 0 0) := (zc1 HKR.out 3).trans rfl; have hx0 := zc5 HKR.out 0; have hx1 := zc5 HKR.out 1; have hx2 := zc5 HKR.out 2; have hx3 := zc5 HKR.out 3; clear hA hq hgR) | ((with_reducible refine gate_dst (N := 8) rfl ?_); refine box_event ?hg (N := 8) ?hd (cs := #[.int .i64 0, .int .i64 0, .int .i64 0, .slice none 0 0]) (t := 24) ?hr ?_; (case hd => rfl); (case hg => rfl); (case hr => first | (go_simp; done) | (go_simp; rfl)); intro gS hgS wS hA hq; have HKS := zA hA; have HKB2 := zA (zc6 (g := gB) (by exact HKB.out) hq); have HKR2 := zA (zc6 (g := gR) (by exact HKR.out) hq); have HBS := zA (zb5 (zb1 HBR.out _) hq); have GES := zA (show w.heap.size ≤ gS by rw [hgS]; exact zb6 (zb1 HBR.out _)); have NBS := zA (show gB ≠ gS by rw [hgS]; exact Nat.ne_of_lt (blk_lt HKB.out)); have NRS := zA (show gR ≠ gS by rw [hgS]; exact Nat.ne_of_lt (blk_lt HKR.out)); replace hcB : wS.cell? ⟨gB, 0, none⟩ = some (.int .i64 a2) := (by rw [zc1 HKB2.out]; rfl); have hz0 : wS.cell? ⟨gS, 0, none⟩ = some (.int .i64 0) := (zc1 HKS.out 0).trans rfl; have hz1 : wS.cell? ⟨gS, 1, none⟩ = some (.int .i64 0) := (zc1 HKS.out 1).trans rfl; have hz2 : wS.cell? ⟨gS, 2, none⟩ = some (.int .i64 0) := (zc1 HKS.out 2).trans rfl; have hz3 : wS.cell? ⟨gS, 3, none⟩ = some (.slice none 0 0) := (zc1 HKS.out 3).trans rfl; have hf0 := zc5 HKS.out 0; have hf1 := zc5 HKS.out 1; have hf2 := zc5 HKS.out 2; have hf3 := zc5 HKS.out 3; clear hA hq hgS) | (go_at_call 30; (with_reducible refine (sig_strong.calls a2 true _ HS.out).mono ?_); rintro e w' ⟨rfl, ⟨nd, rfl⟩⟩) | (go_at_call 31; (with_reducible refine (sig_block.calls a1 false _ HK.out).mono ?_); rintro e w' ⟨rfl, ⟨nd2, rfl⟩⟩))
   have HGE := zA (show w.heap.size ≤ gR by rw [HGR.out]; exact HB.out.size)
   refine RdKit.marks_ret ?_
   refine ⟨_, results_ct rfl _ _ gR 24 #[.int .i64 0, .int .i64 0, .int .i64 0, .slice none 0 0] (0, 0) _ rfl (blk_put (blk_put (blk_put (blk_put HKR.out 0 (.int .i64 0) rfl) 1 (.int .i64 0) rfl) 2 (.int .i64 0) rfl) 3 (.slice none 0 0) rfl) Try.underlying24 rfl (by kernel_rfl), ?_⟩
   refine ⟨_, rfl, Kd.R_nil _ _ _ _ _, ?_⟩
   exact zb4 (zb4 (zb4 (zb4 (zb1 HBR.out _) HGE.out) HGE.out) HGE.out) HGE.out
  ·have HS := zA (show sig_strong.f a2 = some false by
     unfold sig_strong.f
     by_cases h5 : 1 ≤ a2
     ·rw [if_pos h5, zd2 (fun h6 => h2 ⟨h5, h6⟩)]
     ·rw [if_neg h5])
   clear h1 h2
   refine RdKit.calls_marks Try.func15 rfl ?_
   simp only [Try.ntmps15, List.size_toArray, List.length_cons, List.length_nil, Nat.reduceAdd, Nat.reduceSub, Array.replicate_succ, Array.replicate_zero, List.push_toArray, List.append_toArray, List.nil_append, List.cons_append]
   go_wp2_with (first | ((with_reducible refine gate_dst (N := 5) rfl ?_); refine box_event ?hg (N := 5) ?hd (cs := #[.int .i64 a2]) (t := 3) ?hr ?_; (case hd => rfl); (case hg => rfl); (case hr => first | (go_simp; done) | (go_simp; rfl)); intro gB hgB wB hA hq; have HB := zA hq; have HKB := zA hA; have hcB : wB.cell? ⟨gB, 0, none⟩ = some (.int .i64 a2) := (by rw [zc1 hA]; rfl); clear hA hq hgB) | ((with_reducible refine gate_dst (N := 6) rfl ?_); refine box_event ?hg (N := 6) ?hd (cs := #[.int .i64 0, .int .i64 0, .int .i64 0, .slice none 0 0]) (t := 24) ?hr ?_; (case hd => rfl); (case hg => rfl); (case hr => first | (go_simp; done) | (go_simp; rfl)); intro gR hgR wR hA hq; have HGR := zA hgR; have HKR := zA hA; have HKB := zA (zc6 HKB.out hq); have HBR := zA (zb5 HB.out hq); replace hcB : wR.cell? ⟨gB, 0, none⟩ = some (.int .i64 a2) := (by rw [zc1 HKB.out]; rfl); have hy0 : wR.cell? ⟨gR, 0, none⟩ = some (.int .i64 0) := (zc1 HKR.out 0).trans rfl; have hy1 : wR.cell? ⟨gR, 1, none⟩ = some (.int .i64 0) := (zc1 HKR.out 1).trans rfl; have hy2 : wR.cell? ⟨gR, 2, none⟩ = some (.int .i64 0) := (zc1 HKR.out 2).trans rfl; have hy3 : wR.cell? ⟨gR, 3, none⟩ = some (.slice none 0 0) := (zc1 HKR.out 3).trans rfl; have hx0 := zc5 HKR.out 0; have hx1 := zc5 HKR.out 1; have hx2 := zc5 HKR.out 2; have hx3 := zc5 HKR.out 3; clear hA hq hgR) | ((with_reducible refine gate_dst (N := 8) rfl ?_); refine box_event ?hg (N := 8) ?hd (cs := #[.int .i64 0, .int .i64 0, .int .i64 0, .slice none 0 0]) (t := 24) ?hr ?_; (case hd => rfl); (case hg => rfl); (case hr => first | (go_simp; done) | (go_simp; rfl)); intro gS hgS wS hA hq; have HKS := zA hA; have HKB2 := zA (zc6 (g := gB) (by exact HKB.out) hq); have HKR2 := zA (zc6 (g := gR) (by exact HKR.out) hq); have HBS := zA (zb5 (zb1 HBR.out _) hq); have GES := zA (show w.heap.size ≤ gS by rw [hgS]; exact zb6 (zb1 HBR.out _)); have NBS := zA (show gB ≠ gS by rw [hgS]; exact Nat.ne_of_lt (blk_lt HKB.out)); have NRS := zA (show gR ≠ gS by rw [hgS]; exact Nat.ne_of_lt (blk_lt HKR.out)); replace hcB : wS.cell? ⟨gB, 0, none⟩ = some (.int .i64 a2) := (by rw [zc1 HKB2.out]; rfl); have hz0 : wS.cell? ⟨gS, 0, none⟩ = some (.int .i64 0) := (zc1 HKS.out 0).trans rfl; have hz1 : wS.cell? ⟨gS, 1, none⟩ = some (.int .i64 0) := (zc1 HKS.out 1).trans rfl; have hz2 : wS.cell? ⟨gS, 2, none⟩ = some (.int .i64 0) := (zc1 HKS.out 2).trans rfl; have hz3 : wS.cell? ⟨gS, 3, none⟩ = some (.slice none 0 0) := (zc1 HKS.out 3).trans rfl; have hf0 := zc5 HKS.out 0; have hf1 := zc5 HKS.out 1; have hf2 := zc5 HKS.out 2; have hf3 := zc5 HKS.out 3; clear hA hq hgS) | (go_at_call 30; (with_reducible refine (sig_strong.calls a2 false _ HS.out).mono ?_); rintro e w' ⟨rfl, ⟨nd, rfl⟩⟩))
   have HGE := zA (show w.heap.size ≤ gR by rw [HGR.out]; exact HB.out.size)
   refine RdKit.marks_ret ?_
   refine ⟨_, results_ct rfl _ _ gR 24 #[.int .i64 0, .int .i64 0, .int .i64 0, .slice none 0 0] (0, 0) _ rfl (blk_put (blk_put (blk_put (blk_put HKR.out 0 (.int .i64 0) rfl) 1 (.int .i64 0) rfl) 2 (.int .i64 0) rfl) 3 (.slice none 0 0) rfl) Try.underlying24 rfl (by kernel_rfl), ?_⟩
   refine ⟨_, rfl, Kd.R_nil _ _ _ _ _, ?_⟩
   exact zb4 (zb4 (zb4 (zb4 (zb1 HBR.out _) HGE.out) HGE.out) HGE.out) HGE.out


end Go.Proofs.Ytlndkemblbbfaaa.PIndexOwn
