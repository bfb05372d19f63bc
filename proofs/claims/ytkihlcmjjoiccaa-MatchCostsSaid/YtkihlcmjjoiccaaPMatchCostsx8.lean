-- Written by a program of this session (the kit's printer with hand-written contracts among its functions).
-- squeezed
import Derived.Test.YtkihlcmjjoiccaaPMatchCostsx0
import Derived.Test.YtkihlcmjjoiccaaPMatchCostsx1
import Derived.Test.YtkihlcmjjoiccaaPMatchCostsx5
import Derived.Test.YtkihlcmjjoiccaaPMatchCostsx6
namespace Go.Proofs.Ytkihlcmjjoiccaa.PMatchCosts
open Go.RowKit Go.Proofs.YtkihlcmjjoiccaaW.PrintWords Go.Proofs.YtkihlcmjjoiccaaW.PrintLast Go.Proofs.YtkihlcmjjoiccaaW.PrintMore
attribute [local go_sem] max2_int min2_int max_two min_two max_three min_three max_four min_four   -- for this text's walks alone
set_option linter.unusedVariables false
set_option linter.unusedSimpArgs false

def sig_block.f (a0 : Int) : Option (Bool) := if a0 ≥ 16 then (some (decide (a0 ≤ 4096))) else (some false)
set_option maxHeartbeats 8000000 in
set_option maxRecDepth 100000 in
theorem sig_block.calls (a0 : Int) (r : Bool) (w : World) (h : sig_block.f a0 = some r) :
    Calls Try.prog 34 #[.int .i64 a0] w fun e w' => e = .returned (.bool r) ∧ Drawn0 w w' := by
 have H : (if a0 ≥ 16 then (some (decide (a0 ≤ 4096))) else (some false)) = some r := h
 clear h
 by_cases c2 : a0 ≥ 16
 ·rw [if_pos c2] at H
  have c2b0 : decide (16 ≤ a0) = true := zd1 c2
  clear c2
  obtain rfl := Option.some.inj H
  go_enter Try.func34, Try.ntmps34
  go_wp2
  go_ret
  exact ⟨by first | rfl | (simp; done) | (simp [*]; done), by repeat (first | exact Drawn0.refl _ | apply Drawn0.step)⟩
 ·rw [if_neg c2] at H
  have c2b0 : decide (16 ≤ a0) = false := zd2 c2
  clear c2
  obtain rfl := Option.some.inj H
  go_enter Try.func34, Try.ntmps34
  go_wp2
  go_ret
  exact ⟨by first | rfl | (simp; done) | (simp [*]; done), by repeat (first | exact Drawn0.refl _ | apply Drawn0.step)⟩

def blocks_Length.l0 : Nat → Int → Int → Option (Int)
 | 0, _, _ => none
 | k + 1, x0, x3 => if x3 < 4096 then (if (wrap64 (x3 * x3)) < x0 then (blocks_Length.l0 k x0 (wrap64 (x3 * 2))) else (some x3)) else (some x3)
def blocks_Length.f (k : Nat) (a0 : Int) : Option (Int) := blocks_Length.l0 k a0 16
theorem blocks_Length.mono_l : ∀ k, (∀ y0 y1, LeO (blocks_Length.l0 k y0 y1) (blocks_Length.l0 (k + 1) y0 y1))
 | 0 => fun _ _ r h => by simp [blocks_Length.l0] at h
 | k + 1 => by
  have ih0 := blocks_Length.mono_l k
  ·intro y0 y1
   unfold blocks_Length.l0
   repeat' first
   | (with_reducible exact ih0 _ _)
   | (with_reducible exact LeO.refl _)
   | (with_reducible exact LeO.none _)
   | (with_reducible refine LeO.ite ?_ ?_)
   | (with_reducible refine LeO.bind ?_ (fun _ => ?_))
   | exact ih0 _ _
   | exact LeO.none _
   | refine LeO.ite ?_ ?_
   | refine LeO.bind ?_ (fun _ => ?_)
theorem blocks_Length.mono : ∀ a0 k, LeO (blocks_Length.f k a0) (blocks_Length.f (k + 1) a0) := by
 intro a0 k
 have ih0 := blocks_Length.mono_l k
 unfold blocks_Length.f
 repeat' first
     | (with_reducible exact ih0 _ _)
     | (with_reducible exact LeO.refl _)
     | (with_reducible exact LeO.none _)
     | (with_reducible refine LeO.ite ?_ ?_)
     | (with_reducible refine LeO.bind ?_ (fun _ => ?_))
     | exact ih0 _ _
     | exact LeO.none _
     | refine LeO.ite ?_ ?_
     | refine LeO.bind ?_ (fun _ => ?_)
set_option maxHeartbeats 8000000 in
set_option maxRecDepth 100000 in
theorem blocks_Length.calls (k : Nat) (a0 : Int) (r : Int) (w : World) (h : blocks_Length.f k a0 = some r) :
    Calls Try.prog 35 #[.int .i64 a0] w fun e w' => e = .returned (.int .i64 r) ∧ Drawn0 w w' := by
 have H : (blocks_Length.l0 k a0 16) = some r := h
 clear h
 have H' := zA H
 clear H
 go_enter Try.func35, Try.ntmps35
 go_wp2
 go_loopg [3] k (fun kq v3 w' => ∃ (x3_1 : Int), v3 = .int .i64 x3_1 ∧ Aside0 (blocks_Length.l0 kq a0 x3_1 = some r) ∧ Aside0 (kq ≤ k) ∧ Drawn0 w w')
 case atStart => exact ⟨(16), (by first | rfl | (simp; done) | (simp [*]; done)), H', ⟨Nat.le_refl _⟩, by repeat (first | exact Drawn0.refl _ | apply Drawn0.step)⟩
 case round =>
  clear H'
  obtain ⟨x3_1, rfl, HA, HK1, ⟨m1, rfl⟩⟩ := hrel
  cases gk with
  | zero => exact absurd HA.out (by simp [blocks_Length.l0])
  | succ k1 =>
   have H := HA.out
   clear HA
   simp only [blocks_Length.l0] at H
   by_cases c2 : x3_1 < 4096
   ·rw [if_pos c2] at H
    have c2b0 : decide (x3_1 < 4096) = true := zd1 c2
    clear c2
    by_cases c3 : (wrap64 (x3_1 * x3_1)) < a0
    ·rw [if_pos c3] at H
     have c3b0 : decide ((wrap64 (x3_1 * x3_1)) < a0) = true := zd1 c3
     clear c3
     have H' := zA H
     clear H
     go_wp2
     go_roundg k1
     case measure => have := HK1.out; omega
     case rel => exact ⟨(wrap64 (x3_1 * 2)), (by first | rfl | (simp; done) | (simp [*]; done)), H', ⟨by have := HK1.out; omega⟩, by repeat (first | exact Drawn0.refl _ | apply Drawn0.step)⟩
    ·rw [if_neg c3] at H
     have c3b0 : decide ((wrap64 (x3_1 * x3_1)) < a0) = false := zd2 c3
     clear c3
     obtain rfl := Option.some.inj H
     go_wp2
     go_ret
     exact ⟨by first | rfl | (simp; done) | (simp [*]; done), by repeat (first | exact Drawn0.refl _ | apply Drawn0.step)⟩
   ·rw [if_neg c2] at H
    have c2b0 : decide (x3_1 < 4096) = false := zd2 c2
    clear c2
    obtain rfl := Option.some.inj H
    go_wp2
    go_ret
    exact ⟨by first | rfl | (simp; done) | (simp [*]; done), by repeat (first | exact Drawn0.refl _ | apply Drawn0.step)⟩

theorem start_round {P : Program} {ops : Array Oper} {Q : Exit → Act → World → Prop} {S : World → Prop} {ds : List Nat} {id n r m : Nat} {a : Act} {w : World} (l : Array Bool) (hm : P.follows .mixedOrders = true) (hn : ops.size = n) (hl : Array.replicate n false = l)
    (hd : RdKit.calm ops = true) (hQ : ¬ LetsOut Q) (hS : S w.drew) (h : S w.drew → wpAnyLast P .any ops Q S ds n l a w.drew) : (Code.region id ops true).wpIn (Fence.wide.inRound r) m P Q a w := by
 subst hn
 subst hl
 exact RdKit.region_round_any hm hd hQ (wpAny_of_last _ _ _ _ (h hS))
def cutRow (l0 : List Int) (a1 : Int) (i : Nat) : List Int := (l0.take (mn (l0.length : Int) (wrap64 (wrap64 ((i : Int) + 1) * a1))).toNat).drop (wrap64 ((i : Int) * a1)).toNat
def cutNum (l0 : List Int) (a1 : Int) : Nat := (l0.length + a1.toNat - 1) / a1.toNat
theorem cut_facts {l0 : List Int} {a1 : Int} (h1 : 16 ≤ a1) (h2 : a1 ≤ 4096) (h3 : l0.length ≤ 131072) :
    blocks_Count.f l0.length a1 = some ((cutNum l0 a1 : Nat) : Int) ∧ cutNum l0 a1 ≤ 131072 ∧
    ∀ i : Nat, i < cutNum l0 a1 → ∃ f t : Int, blocks_Range.f l0.length a1 (i : Int) = some (f, t, true) ∧ 0 ≤ f ∧ f ≤ t ∧ t ≤ l0.length ∧ cutRow l0 a1 i = (l0.take t.toNat).drop f.toNat := by
 have hb : blocks_block.f a1 = some true := by unfold blocks_block.f; rw [if_pos h1, zd1 h2]
 have hr : blocks_Right.f (l0.length : Int) a1 = some true := by unfold blocks_Right.f; rw [if_pos (by omega), if_pos (by omega), hb]; rfl
 obtain ⟨b, rfl⟩ : ∃ b : Nat, a1 = (b : Int) := ⟨a1.toNat, by omega⟩
 have hbp : 0 < b := by omega
 have hN : cutNum l0 (b : Int) ≤ 131072 := by
  unfold cutNum
  rw [Int.toNat_natCast]
  refine Nat.le_trans (Nat.div_le_div_right (c := b) (show l0.length + b - 1 ≤ 131072 * b by omega)) ?_
  rw [Nat.mul_div_cancel _ hbp]
  exact Nat.le_refl _
 have hC : blocks_Count.f (l0.length : Int) (b : Int) = some ((cutNum l0 (b : Int) : Nat) : Int) := by
  unfold blocks_Count.f
  rw [hr, Option.bind_some, if_pos rfl, if_neg (by omega)]
  have e1 : wrap64 ((l0.length : Int) + (b : Int)) = ((l0.length + b : Nat) : Int) := by unfold wrap64; omega
  rw [e1, show wrap64 (((l0.length + b : Nat) : Int) - 1) = ((l0.length + b - 1 : Nat) : Int) by unfold wrap64; omega]
  rw [show Int.tdiv ((l0.length + b - 1 : Nat) : Int) (b : Int) = (((l0.length + b - 1) / b : Nat) : Int) from rfl]
  have : (l0.length + b - 1) / b ≤ 131072 := by have := hN; unfold cutNum at this; rwa [Int.toNat_natCast] at this
  rw [show wrap64 (((l0.length + b - 1) / b : Nat) : Int) = (((l0.length + b - 1) / b : Nat) : Int) by generalize (l0.length + b - 1) / b = q at this ⊢; unfold wrap64; omega]
  unfold cutNum
  rw [Int.toNat_natCast]
 refine ⟨hC, hN, fun i hi => ?_⟩
 have hib : i * b < l0.length := by
  unfold cutNum at hi
  rw [Int.toNat_natCast] at hi
  have := (Nat.le_div_iff_mul_le hbp).1 (show i + 1 ≤ (l0.length + b - 1) / b from hi)
  rw [Nat.add_mul, Nat.one_mul] at this
  omega
 have e1 : wrap64 ((i : Int) * (b : Int)) = ((i * b : Nat) : Int) := by
  rw [show (i : Int) * (b : Int) = ((i * b : Nat) : Int) by push_cast; rfl]
  generalize i * b = q at hib ⊢
  unfold wrap64
  omega
 have e2 : wrap64 (wrap64 ((i : Int) + 1) * (b : Int)) = ((i * b + b : Nat) : Int) := by
  rw [show wrap64 ((i : Int) + 1) = ((i + 1 : Nat) : Int) by unfold wrap64; omega, show ((i + 1 : Nat) : Int) * (b : Int) = ((i * b + b : Nat) : Int) by push_cast; rw [Int.add_mul, Int.one_mul]]
  generalize i * b = q at hib ⊢
  unfold wrap64
  omega
 refine ⟨((i * b : Nat) : Int), mn (l0.length : Int) ((i * b + b : Nat) : Int), ?_, by omega, ?_, ?_, ?_⟩
 ·unfold blocks_Range.f
  rw [if_neg (by omega), hC, Option.bind_some, if_neg (by omega), e1, e2]
 ·unfold mn; split <;> omega
 ·unfold mn; split <;> omega
 ·unfold cutRow
  rw [e1, e2]
def EachRd (row : Nat → List Int) (i : Nat) (args : Array Value) (W : World) : Prop :=
 ∃ A c, args = #[.int .i64 (i : Int), .slice A (row i).length c] ∧ (Kd.int .u8).C W A (row i).length (row i) ∧ (row i).length ≤ c
def EachIt (g1 g2 : Nat) (A0 : Option Addr) (c0 : Nat) (l0 : List Int) (a1 : Int) (W : World) : Prop :=
 W.heap[g1]? = some (.cells #[.slice A0 l0.length c0] 33 (0, 0)) ∧ W.heap[g2]? = some (.cells #[.int .i64 a1] 3 (0, 0)) ∧ (Kd.int .u8).C W A0 l0.length l0
theorem C_putObj {W : World} {A : Option Addr} {n l : Nat} {xs : List Int} {r : Loop} {o : Obj} (h : (Kd.int .u8).C W A n xs) (hl : W.heap[l]? = some (.loop r)) : (Kd.int .u8).C (W.putObj l o) A n xs := by
 refine ⟨h.1, h.2.1, fun hn => ?_⟩
 obtain ⟨ad, e, hc⟩ := h.2.2 hn
 refine ⟨ad, e, fun j p hp => ?_⟩
 obtain ⟨c, h1, h2, h3⟩ := hc j p hp
 exact ⟨c, h1, h2, fun i u hu => RdKit.cell_putObj (h3 i u hu) hl⟩
theorem EachRd.put {row : Nat → List Int} {i : Nat} {args : Array Value} {W : World} {l : Nat} {r : Loop} {o : Obj} (h : EachRd row i args W) (hl : W.heap[l]? = some (.loop r)) : EachRd row i args (W.putObj l o) := by
 obtain ⟨A, c, e, h1, h2⟩ := h
 exact ⟨A, c, e, C_putObj h1 hl, h2⟩
theorem EachIt.put {g1 g2 : Nat} {A0 : Option Addr} {c0 : Nat} {l0 : List Int} {a1 : Int} {W : World} {l : Nat} {r : Loop} {o : Obj} (h : EachIt g1 g2 A0 c0 l0 a1 W) (hl : W.heap[l]? = some (.loop r)) : EachIt g1 g2 A0 c0 l0 a1 (W.putObj l o) := by
 obtain ⟨h1, h2, h3⟩ := h
 refine ⟨(World.putObj_heap_other (fun e => ?_)).trans h1, (World.putObj_heap_other (fun e => ?_)).trans h2, C_putObj h3 hl⟩
 ·rw [← e, h1] at hl; cases hl
 ·rw [← e, h2] at hl; cases hl
theorem EachIt.below {g1 g2 : Nat} {A0 : Option Addr} {c0 : Nat} {l0 : List Int} {a1 : Int} {W W' : World} (h : EachIt g1 g2 A0 c0 l0 a1 W) (hb : Below W.heap.size W W') : EachIt g1 g2 A0 c0 l0 a1 W' := by
 obtain ⟨h1, h2, h3⟩ := h
 exact ⟨(hb.block _ (Array.getElem?_eq_some_iff.1 h1).1).trans h1, (hb.block _ (Array.getElem?_eq_some_iff.1 h2).1).trans h2, Kd.C_below h3 hb⟩
set_option maxHeartbeats 8000000 in
set_option maxRecDepth 100000 in
theorem each_iter (g1 g2 : Nat) (A0 : Option Addr) (c0 : Nat) (l0 : List Int) (a1 : Int) (N : Nat) (row : Nat → List Int) (hc0 : l0.length ≤ c0) (hl : l0.length ≤ 131072)
    (hN : blocks_Count.f l0.length a1 = some (N : Int)) (hNs : N ≤ 131072)
    (hR : ∀ i : Nat, i < N → ∃ f t : Int, blocks_Range.f l0.length a1 (i : Int) = some (f, t, true) ∧ 0 ≤ f ∧ f ≤ t ∧ t ≤ l0.length ∧ row i = (l0.take t.toNat).drop f.toNat) :
    RdKit.IterC Try.prog 55 #[.pointer (some ⟨g1, 0, none⟩), .pointer (some ⟨g2, 0, none⟩)] (EachRd row) N (EachIt g1 g2 A0 c0 l0 a1) := by
 intro l J Jx W hIt hJ0 hJb hround
 refine callsIn_wide.2 ?_
 have HN := zA hN
 have HNS := zA hNs
 have HL := zA hl
 have HC := zA hc0
 have HRG := zA hR
 have HJb := zA hJb
 have HRD := zA hround
 clear hN hNs hl hc0 hR hJb hround
 have HI := zA hIt
 have HJ := zA hJ0
 have q1 : W.cell? ⟨g1, 0, none⟩ = some (.slice A0 l0.length c0) := (zc1 hIt.1 0).trans rfl
 have q2 : W.cell? ⟨g2, 0, none⟩ = some (.int .i64 a1) := (zc1 hIt.2.1 0).trans rfl
 clear hIt hJ0
 simp only [List.append_toArray, List.cons_append, List.nil_append]
 go_enter Try.func55, Try.ntmps55
 go_wp2_with (first | (go_at_call 56; (with_reducible refine (blocks_Count.calls _ _ _ _ HN.out).mono ?_); rintro e w' ⟨rfl, ⟨nd, rfl⟩⟩))
 have hb0 := zb1 (Below.refl W.heap.size W) nd
 go_loopg [12] (N + 1) (fun kq v12 w' => ∃ i : Nat, v12 = .int .i64 (i : Int) ∧ Aside0 (i + kq = N + 1 ∧ i ≤ N) ∧ Aside0 (J i w') ∧ Aside0 (EachIt g1 g2 A0 c0 l0 a1 w'))
 case atStart => exact ⟨0, rfl, ⟨by omega, by omega⟩, ⟨HJb.out 0 _ _ HJ.out hb0⟩, ⟨HI.out.below hb0⟩⟩
 case round =>
  clear HJ HI q1 q2 hb0
  obtain ⟨i, rfl, hk, HJ, HI⟩ := hrel
  by_cases hlt : i < N
  ·obtain ⟨f, t, hr1, hr0, hr2, hr3, hr4⟩ := HRG.out i hlt
   have hd0 : decide ((i : Int) < (N : Int)) = true := by simp; omega
   have hd1 : decide (i < N) = true := by simp; omega
   have HR1 := zA hr1
   have HR0 := zA hr0
   have HR2 := zA hr2
   have HR3 := zA hr3
   have HR4 := zA hr4
   have HLT := zA hlt
   clear hr1 hr0 hr2 hr3 hr4 hlt
   have q1 : wr.cell? ⟨g1, 0, none⟩ = some (.slice A0 l0.length c0) := (zc1 HI.out.1 0).trans rfl
   have q2 : wr.cell? ⟨g2, 0, none⟩ = some (.int .i64 a1) := (zc1 HI.out.2.1 0).trans rfl
   go_upto_region 4 with (first | (go_at_call 48; (with_reducible refine (blocks_Range.calls _ _ _ _ _ _ _ HR1.out).mono ?_); rintro e w2 ⟨rfl, hb⟩; replace HI := zA (HI.out.below hb); replace HJ := zA (HJb.out _ _ _ HJ.out hb); replace q1 : w2.cell? ⟨g1, 0, none⟩ = some (.slice A0 l0.length c0) := (zc1 HI.out.1 0).trans rfl; replace q2 : w2.cell? ⟨g2, 0, none⟩ = some (.int .i64 a1) := (zc1 HI.out.2.1 0).trans rfl; clear hb))
   refine (wpIn_wide (n := 0)).1 ?_
   refine wpIn_region_lit ?_
   refine RdKit.listIn_take (k := 7) (fun ⟨_, _, h⟩ => by obtain ⟨⟨_, h⟩, _⟩ := h; cases h) (by rfl) ?_
   simp only [List.take_succ_cons, List.take_zero, List.drop_succ_cons, List.drop_zero]
   have HB := zA (Below.refl w2.heap.size w2)
   have h1 : decide ((0 : Int) ≤ f) = true := zd1 HR0.out
   have h0' := eq_true HR0.out
   have h2' := eq_true HR2.out
   have h3' := eq_true HR3.out
   have h2 : decide (f ≤ t) = true := zd1 HR2.out
   have h3 : decide (t ≤ (l0.length : Int)) = true := zd1 HR3.out
   obtain ⟨i0, hi0, _, hsz, _⟩ := info_parts info5
   obtain ⟨A5, hcut, hA5, hC5⟩ := print_mid_of (P := Try.prog) (Value.int .u8) 0 33 5 .i64 .i64 Try.underlying33 hi0 hsz A0 c0 l0 f t (zd3 h1) (zd3 h2) (zd3 h3) HC.out
   have HR5 := zA (Kd.C_of_reads (h1 := fun _ => rfl) (hA5 _ (Kd.reads_of_C HI.out.2.2)))
   clear hA5 hC5 hi0 hsz
   have hlen : ((l0.take t.toNat).drop f.toNat).length = t.toNat - f.toNat := by have h0 := HR0.out; have h2 := HR2.out; have h3 := HR3.out; rw [List.length_drop, List.length_take]; omega
   have HLEN := zA hlen
   clear hlen
   go_wp2_with (first | ((with_reducible refine gate_dst (N := 30) rfl ?_); refine Kd.R_append_row (Value.int .u8) (0 : Int) (h1 := fun _ => rfl) (w0 := w2) w2.heap.size rfl (.const (.slice none 0 0)) (.tmp 29) 33 5 (.int .u8 0) 1 rfl Try.underlying33 info5 rfl (by decide) (.slice none 0 0) ([] : List Int) ((l0.take t.toNat).drop f.toNat) _ _ _ (fun _ => True) rfl rfl (fun _ _ => trivial) (Kd.R_nil _ _ _ _ _) ?aR HB.out (Nat.le_refl _) ?aL ?_; (case aR => rw [← HLEN.out]; exact HR5.out); (case aL => have := HLEN.out; have := HL.out; have := HR3.out; simp only [List.length_nil]; omega); intro v w3 ho hb hg hat; rw [List.nil_append, ← HR4.out] at ho; obtain ⟨A6, c6, hv6, hc6, hr6⟩ := Kd.R_reads ho; subst hv6; have HO := zA hr6; have HO2 := zA hc6; replace HI := zA (HI.out.below hb); replace HJ := zA (HJb.out _ _ _ HJ.out hb); clear ho hg hat hr6 hc6 hb))
   clear q1 q2 h1 h0' h2' h3' h2 h3
   obtain ⟨fn, tmps, assign, body, hy, hRo⟩ := HRD.out i _ w3 HLT.out HJ.out HI.out ⟨A6, c6, rfl, HO.out, HO2.out⟩
   go_simp
   gi_wp2
   refine ⟨rfl, hRo.mono ?_⟩
   clear hy hRo
   rintro e W3 (⟨rfl, hJ3, hI3⟩ | ⟨rfl, hJx3⟩)
   ·have HJ3 := zA hJ3
    have HI3 := zA hI3
    clear hJ3 hI3
    obtain ⟨k1, rfl⟩ : ∃ k1, gk = k1 + 1 := ⟨gk - 1, by have := hk.out; have := HLT.out; omega⟩
    have hw : wrap64 ((i : Int) + 1) = ((i + 1 : Nat) : Int) := by have := HLT.out; have := HNS.out; unfold wrap64; omega
    gi_wp2
    go_wp2
    go_roundg k1
    case measure => omega
    case rel => exact ⟨i + 1, by rw [hw], ⟨by have := hk.out; omega, by have := HLT.out; omega⟩, HJ3, HI3⟩
   ·have HX := zA hJx3
    clear hJx3
    gi_wp2
    go_wp2
    refine bodyPost_ret (results_none rfl _ _ _) rfl ?_
    exact ⟨⟨_, rfl⟩, .inr HX.out⟩
  ·have e := hk.out
   have he : i = N := by omega
   have hd0 : decide ((i : Int) < (N : Int)) = false := by simp; omega
   have hd1 : decide (i < N) = false := by simp; omega
   clear hlt e
   go_wp2
   go_end0
   exact ⟨⟨_, rfl⟩, .inl (by rw [← he]; exact HJ.out)⟩
set_option maxHeartbeats 8000000 in
set_option maxRecDepth 100000 in
theorem each_calls (A0 : Option Addr) (c0 : Nat) (l0 : List Int) (a1 : Int) (w : World) (hr0 : Kd.C (Kd.int .u8) w A0 l0.length l0) :
    Calls Try.prog 36 #[.slice A0 l0.length c0, .int .i64 a1] w fun e w' => ∃ g1 g2 : Nat, e = .returned (.func (.func 55) #[] #[.pointer (some ⟨g1, 0, none⟩), .pointer (some ⟨g2, 0, none⟩)]) ∧ EachIt g1 g2 A0 c0 l0 a1 w' ∧ Below w.heap.size w w' ∧ w.heap.size ≤ g1 ∧ w.heap.size ≤ g2 := by
 have HR := zA hr0
 clear hr0
 go_enter Try.func36, Try.ntmps36
 go_wp2
 go_ret
 have hb : Below w.heap.size w ((w.alloc (Obj.cells #[Value.slice A0 l0.length c0] 33)).alloc (Obj.cells #[Value.int IntKind.i64 a1] 3)) := zb3 (zb3 (Below.refl _ _) _) _
 refine ⟨w.heap.size, w.heap.size + 1, rfl, ⟨?_, ?_, Kd.C_below HR.out hb⟩, hb, Nat.le_refl _, Nat.le_succ _⟩
 ·exact (Below.heap_alloc _ _ _ (by simp)).trans (World.alloc_heap_new w _)
 ·have := World.alloc_heap_new (w.alloc (Obj.cells #[Value.slice A0 l0.length c0] 33)) (Obj.cells #[Value.int IntKind.i64 a1] 3)
  rwa [World.size_alloc] at this

def roll_Of.l0 : Nat → Int → List Int → Int → Int → Option (Int)
 | 0, _, _, _, _ => none
 | k + 1, x3, x6, x7, x8 => if x8 < x7 then (if 0 ≤ x8 then (if x8 < (x6.length : Int) then ((roll_In.f x3 0 (rd x6 x8)).bind fun t146 => (roll_Of.l0 k t146 x6 x7 (wrap64 (x8 + 1)))) else (none)) else (none)) else (some x3)
def roll_Of.f (k : Nat) (l0 : List Int) : Option (Int) := roll_Of.l0 k 0 l0 (l0.length : Int) 0
theorem roll_Of.mono_l : ∀ k, (∀ y0 y1 y2 y3, LeO (roll_Of.l0 k y0 y1 y2 y3) (roll_Of.l0 (k + 1) y0 y1 y2 y3))
 | 0 => fun _ _ _ _ r h => by simp [roll_Of.l0] at h
 | k + 1 => by
  have ih0 := roll_Of.mono_l k
  ·intro y0 y1 y2 y3
   unfold roll_Of.l0
   repeat' first
   | (with_reducible exact ih0 _ _ _ _)
   | (with_reducible exact LeO.refl _)
   | (with_reducible exact LeO.none _)
   | (with_reducible refine LeO.ite ?_ ?_)
   | (with_reducible refine LeO.bind ?_ (fun _ => ?_))
   | exact ih0 _ _ _ _
   | exact LeO.none _
   | refine LeO.ite ?_ ?_
   | refine LeO.bind ?_ (fun _ => ?_)
theorem roll_Of.mono : ∀ a0 k, LeO (roll_Of.f k a0) (roll_Of.f (k + 1) a0) := by
 intro a0 k
 have ih0 := roll_Of.mono_l k
 unfold roll_Of.f
 repeat' first
     | (with_reducible exact ih0 _ _ _ _)
     | (with_reducible exact LeO.refl _)
     | (with_reducible exact LeO.none _)
     | (with_reducible refine LeO.ite ?_ ?_)
     | (with_reducible refine LeO.bind ?_ (fun _ => ?_))
     | exact ih0 _ _ _ _
     | exact LeO.none _
     | refine LeO.ite ?_ ?_
     | refine LeO.bind ?_ (fun _ => ?_)
set_option maxHeartbeats 8000000 in
set_option maxRecDepth 100000 in
theorem roll_Of.calls (k : Nat) (A0 : Option Addr) (c0 : Nat) (l0 : List Int) (r : Int) (w : World) (hr0 : Kd.C (Kd.int .u8) w A0 l0.length l0) (hc0 : l0.length ≤ c0) (h : roll_Of.f k l0 = some r) :
    Calls Try.prog 57 #[.slice A0 l0.length c0] w fun e w' => e = .returned (.int .u32 r) ∧ Drawn0 w w' := by
 have HR0 := zA hr0
 have HC0 := zA hc0
 clear hr0 hc0
 have H : (roll_Of.l0 k 0 l0 (l0.length : Int) 0) = some r := h
 clear h
 have H' := zA H
 clear H
 go_enter Try.func57, Try.ntmps57
 go_wp2
 go_loopg [3, 8] k (fun kq v3 v8 w' => ∃ (x3_1 : Int) (x8_1 : Int), v3 = .int .u32 x3_1 ∧ v8 = .int .i64 x8_1 ∧ Aside0 (roll_Of.l0 kq x3_1 l0 (l0.length : Int) x8_1 = some r) ∧ Aside0 (kq ≤ k) ∧ Drawn0 w w')
 case atStart => exact ⟨(0), (0), (by first | rfl | (simp; done) | (simp [*]; done)), (by first | rfl | (simp; done) | (simp [*]; done)), H', ⟨Nat.le_refl _⟩, by repeat (first | exact Drawn0.refl _ | apply Drawn0.step)⟩
 case round =>
  clear H'
  obtain ⟨x3_1, x8_1, rfl, rfl, HA, HK1, ⟨m1, rfl⟩⟩ := hrel
  cases gk with
  | zero => exact absurd HA.out (by simp [roll_Of.l0])
  | succ k1 =>
   have H := HA.out
   clear HA
   simp only [roll_Of.l0] at H
   by_cases c2 : x8_1 < (l0.length : Int)
   ·rw [if_pos c2] at H
    have c2b0 : decide (x8_1 < (l0.length : Int)) = true := zd1 c2
    clear c2
    by_cases c3 : 0 ≤ x8_1
    ·rw [if_pos c3] at H
     have c3b0 : decide (0 ≤ x8_1) = true := zd1 c3
     clear c3
     by_cases c4 : x8_1 < (l0.length : Int)
     ·rw [if_pos c4] at H
      have c4b0 : decide (x8_1 < (l0.length : Int)) = true := zd1 c4
      clear c4
      replace H := Option.bind_eq_some_iff.mp H
      obtain ⟨t146, A50, H⟩ := H
      replace H : (roll_Of.l0 k1 t146 l0 (l0.length : Int) (wrap64 (x8_1 + 1))) = some r := H
      have A5 := zA A50
      clear A50
      have H' := zA H
      clear H
      have p145 : 0 ≤ (x8_1 : Int) := zd3 (by first | (with_reducible assumption) | assumption)
      have q145 : x8_1 < (l0.length : Int) := zd3 (by first | (with_reducible assumption) | assumption)
      obtain ⟨ad145, e145, hx145_0⟩ := Kd.at_int HR0.out x8_1 p145 q145
      cases e145
      replace p145 := eq_true p145
      replace q145 := eq_true q145
      go_wp2_with (first | ((with_reducible refine gate_callee (f := 44) rfl ?_); refine goesL_ (some 14) rfl rfl Try.func44 (by kernel_rfl) rfl #[.int .u32 x3_1, .int .i64 0, .int .u8 (rd l0 x8_1)] rfl (by (try simp only [zm1, zm2, zm3]); first | done | rfl | (simp only [List.length_drop, List.length_take]; rfl)) ?_; (with_reducible refine (roll_In.calls x3_1 0 (rd l0 x8_1) t146 _ A5.out).mono ?_); rintro e w' ⟨rfl, ⟨nd, rfl⟩⟩; refine ⟨_, rfl, ?_⟩))
      go_roundg k1
      case measure => have := HK1.out; omega
      case rel => exact ⟨(t146), (wrap64 (x8_1 + 1)), (by first | rfl | (simp; done) | (simp [*]; done)), (by first | rfl | (simp; done) | (simp [*]; done)), H', ⟨by have := HK1.out; omega⟩, by repeat (first | exact Drawn0.refl _ | apply Drawn0.step)⟩
     ·rw [if_neg c4] at H
      exact absurd H (by simp)
    ·rw [if_neg c3] at H
     exact absurd H (by simp)
   ·rw [if_neg c2] at H
    have c2b0 : decide (x8_1 < (l0.length : Int)) = false := zd2 c2
    clear c2
    obtain rfl := Option.some.inj H
    go_wp2
    go_ret
    exact ⟨by first | rfl | (simp; done) | (simp [*]; done), by repeat (first | exact Drawn0.refl _ | apply Drawn0.step)⟩

def sig_mark.f (k : Nat) (l0 : List Int) (a1 : Int) : Option (Int × ByteArray) := (sha_Cut.f l0 a1).bind fun bt148 => ((roll_Of.f k l0).bind fun t150 => (some (t150, bt148.1)))
theorem sig_mark.mono : ∀ a0 a1 k, LeO (sig_mark.f k a0 a1) (sig_mark.f (k + 1) a0 a1) := by
 intro a0 a1 k
 unfold sig_mark.f
 repeat' first
     | (with_reducible exact roll_Of.mono _ _)
     | (with_reducible exact LeO.refl _)
     | (with_reducible exact LeO.none _)
     | (with_reducible refine LeO.ite ?_ ?_)
     | (with_reducible refine LeO.bind ?_ (fun _ => ?_))
     | exact roll_Of.mono _ _
     | exact LeO.none _
     | refine LeO.ite ?_ ?_
     | refine LeO.bind ?_ (fun _ => ?_)
set_option maxHeartbeats 8000000 in
set_option maxRecDepth 100000 in
theorem sig_mark.calls (k : Nat) (A0 : Option Addr) (c0 : Nat) (l0 : List Int) (a1 : Int) (r1 : Int) (r2 : ByteArray) (w : World) (hr0 : Kd.C (Kd.int .u8) w A0 l0.length l0) (hc0 : l0.length ≤ c0) (h : sig_mark.f k l0 a1 = some (r1, r2)) :
    Calls Try.prog 37 #[.slice A0 l0.length c0, .int .i64 a1] w fun e w' => e = .returned (.agg #[.int .u32 r1, .string r2]) ∧ Below w.heap.size w w' := by
 have hu55 := Try.underlying55
 have HR0 := zA hr0
 have HC0 := zA hc0
 clear hr0 hc0
 have HB := zA (Below.refl w.heap.size w)
 have H : ((sha_Cut.f l0 a1).bind fun bt148 => ((roll_Of.f k l0).bind fun t150 => (some (t150, bt148.1)))) = some (r1, r2) := h
 clear h
 replace H := Option.bind_eq_some_iff.mp H
 obtain ⟨⟨t148, t149⟩, A30, H⟩ := H
 replace H : ((roll_Of.f k l0).bind fun t150 => (some (t150, t148))) = some (r1, r2) := H
 have A3 := zA A30
 clear A30
 replace H := Option.bind_eq_some_iff.mp H
 obtain ⟨t150, A40, H⟩ := H
 replace H : (some (t150, t148)) = some (r1, r2) := H
 have A4 := zA A40
 clear A40
 simp only [Option.some.injEq, Prod.mk.injEq] at H
 obtain ⟨rfl, rfl⟩ := H
 go_enter Try.func37, Try.ntmps37
 go_wp2_with (first | ((with_reducible refine gate_dst (N := 4) rfl ?_); refine box_event ?hg (N := 4) ?hd (cs := #[.int .u32 0, .string (⟨#[]⟩ : ByteArray)]) (t := 55) ?hr ?_; (case hd => rfl); (case hg => rfl); (case hr => first | (go_simp; done) | (go_simp; rfl)); intro gb147 hg w5 hbox hb; have n0_ := zA (zb5 (by repeat (first | (with_reducible first | exact HB.out | apply zb3 | apply zb1 | apply zb2) | exact HB.out)) hb); have n1_ := zA (hbox); have n2_ := zA ((by rw [hg]; exact (zb6 (by repeat (first | (with_reducible first | exact HB.out | apply zb3 | apply zb1 | apply zb2) | exact HB.out))) : w.heap.size ≤ gb147)); have n3_ := zA ((by rw [hg]; exact (zb6 (by repeat (first | (with_reducible first | exact HB.out | apply zb3 | apply zb1 | apply zb2) | exact HB.out))) : w.heap.size ≤ gb147)); clear HB; have HB := n0_; have BK147 := n1_; have GW147 := n2_; have GE147 := n3_; clear n0_ n1_ n2_ n3_; clear hb hbox hg) | ((with_reducible refine gate_callee (f := 46) rfl ?_); refine goesL_ (some 10) rfl rfl Try.func46 (by kernel_rfl) rfl #[.slice A0 l0.length c0, .int .i64 a1] rfl (by (try simp only [zm1, zm2, zm3]); first | done | rfl | (simp only [List.length_drop, List.length_take]; rfl)) ?_; (with_reducible refine (sha_Cut.calls _ _ l0 a1 t148 t149 _ ?side1 ?side2 A3.out).mono ?_); (case side1 => repeat (first | exact (Kd.C_below HR0.out HB.out) | (with_reducible refine Kd.C_alloc ?_ _) | (with_reducible refine Kd.C_drewN ?_ _) | (with_reducible refine Kd.C_drew ?_))); (case side2 => exact HC0.out); rintro e w6 ⟨rfl, hb⟩; refine ⟨_, rfl, ?_⟩; have n0_ := zA (zc6 (g := gb147) (o := .cells #[.int .u32 0, .string (⟨#[]⟩ : ByteArray)] 55 (0, 0)) (by (with_reducible repeat (first | refine zc3 ?_ _ | refine zc4 ?_ | refine zc2 ?_ _)); exact BK147.out) hb); have n1_ := zA (zb5 (by repeat (first | (with_reducible first | exact HB.out | apply zb3 | apply zb1 | apply zb2 | refine zb4 ?_ GE147.out) | exact HB.out)) hb); clear BK147; clear HB; have BK147 := n0_; have HB := n1_; clear n0_ n1_; (try clear hb); (try clear hb2); (try clear hk); (try clear hi)) | ((with_reducible refine gate_callee (f := 57) rfl ?_); refine goesL_ (some 14) rfl rfl Try.func57 (by kernel_rfl) rfl #[.slice A0 l0.length c0] rfl (by (try simp only [zm1, zm2, zm3]); first | done | rfl | (simp only [List.length_drop, List.length_take]; rfl)) ?_; (with_reducible refine (roll_Of.calls k _ _ l0 t150 _ ?side1 ?side2 A4.out).mono ?_); (case side1 => repeat (first | exact (Kd.C_below HR0.out HB.out) | (with_reducible refine Kd.C_alloc ?_ _) | (with_reducible refine Kd.C_drewN ?_ _) | (with_reducible refine Kd.C_drew ?_))); (case side2 => exact HC0.out); rintro e w' ⟨rfl, ⟨nd, rfl⟩⟩; refine ⟨_, rfl, ?_⟩; (try (rw [drewN_self w6]; generalize hq_ : World.drewN w6 _ = w6; have n0_ : Aside0 (w6.heap[gb147]? = some (.cells #[.int .u32 0, .string (⟨#[]⟩ : ByteArray)] 55 (0, 0))) := ⟨by rw [← hq_]; exact (by (with_reducible repeat (first | refine zc3 ?_ _ | refine zc4 ?_ | refine zc2 ?_ _)); exact BK147.out)⟩; have n1_ : Aside0 (Below w.heap.size w w6) := ⟨by rw [← hq_]; exact (by repeat (first | (with_reducible first | exact HB.out | apply zb3 | apply zb1 | apply zb2 | refine zb4 ?_ GE147.out) | exact HB.out))⟩; clear BK147 HB hq_; have BK147 := n0_; have HB := n1_; clear n0_ n1_)); have hcz7_0 : w6.cell? ⟨gb147, 0, none⟩ = some (.int .u32 0) := (zc1 BK147.out 0).trans rfl; have hcz7_1 : w6.cell? ⟨gb147, 1, none⟩ = some (.string (⟨#[]⟩ : ByteArray)) := (zc1 BK147.out 1).trans rfl; have hfz7_0 := zc5 BK147.out 0; have hfz7_1 := zc5 BK147.out 1))
 refine bodyPost_ret (results_cell_row rfl _ _ gb147 55 #[.int .u32 t150, .string t148] (0, 0) _ rfl (by (with_reducible repeat (first | refine zc3 ?_ _ | refine zc4 ?_ | refine zc2 ?_ _)); refine blk_put (cs := #[.int .u32 t150, .string (⟨#[]⟩ : ByteArray)]) ?_ 1 _ rfl; (with_reducible repeat (first | refine zc3 ?_ _ | refine zc4 ?_ | refine zc2 ?_ _)); refine blk_put (cs := #[.int .u32 0, .string (⟨#[]⟩ : ByteArray)]) ?_ 0 _ rfl; (with_reducible repeat (first | refine zc3 ?_ _ | refine zc4 ?_ | refine zc2 ?_ _)); exact BK147.out) Try.underlying55 rfl (by kernel_rfl)) rfl ?_
 exact ⟨by first | rfl | (simp [*] <;> rfl), by repeat (first | (with_reducible first | exact HB.out | apply zb3 | apply zb1 | apply zb2 | refine zb4 ?_ GE147.out) | exact HB.out)⟩

end Go.Proofs.Ytkihlcmjjoiccaa.PMatchCosts
