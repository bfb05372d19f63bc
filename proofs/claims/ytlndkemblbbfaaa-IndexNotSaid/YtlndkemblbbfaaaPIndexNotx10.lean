-- Written by a program of this session (the kit's printer with hand-written contracts among its functions).
-- squeezed
import Derived.Test.YtlndkemblbbfaaaPIndexNotx0
import Derived.Test.YtlndkemblbbfaaaPIndexNotx1
import Derived.Test.YtlndkemblbbfaaaPIndexNotx2
import Derived.Test.YtlndkemblbbfaaaPIndexNotx3
import Derived.Test.YtlndkemblbbfaaaPIndexNotx4
import Derived.Test.YtlndkemblbbfaaaPIndexNotx7
import Derived.Test.YtlndkemblbbfaaaPIndexNotx8
import Derived.Test.YtlndkemblbbfaaaPIndexNotx9
namespace Go.Proofs.Ytlndkemblbbfaaa.PIndexNot
open Go.RowKit Go.Proofs.YtlndkemblbbfaaaW.PrintWords Go.Proofs.YtlndkemblbbfaaaW.PrintLast Go.Proofs.YtlndkemblbbfaaaW.PrintMore
attribute [local go_sem] max2_int min2_int max_two min_two max_three min_three max_four min_four   -- for this text's walks alone
set_option linter.unusedVariables false
set_option linter.unusedSimpArgs false

/-! ### remoralaw07_IndexNot: function 4 -/
/-- What is looked for, in its box. -/
structure LwQ (w w' : World) (gq : Nat) (a0 : Int) (a1 : ByteArray) (a2 a3 : Int) : Prop where
 bs : w'.heap[gq]? = some (.cells #[.int .u32 a0, .string a1, .int .i64 a2, .int .i64 a3] 27 (0, 0))
 bl : Below w.heap.size w w'
section
variable {w w' w2 : World} {gq : Nat} {a0 : Int} {a1 : ByteArray} {a2 a3 : Int}
theorem LwQ.step (h : LwQ w w' gq a0 a1 a2 a3) (hb : Below w'.heap.size w' w2) : LwQ w w2 gq a0 a1 a2 a3 := ⟨zc6 h.bs hb, zb5 h.bl hb⟩
theorem LwQ.c0 (h : LwQ w w' gq a0 a1 a2 a3) : w'.cell? ⟨gq, 0, none⟩ = some (.int .u32 a0) := (zc1 h.bs 0).trans rfl
theorem LwQ.c1 (h : LwQ w w' gq a0 a1 a2 a3) : w'.cell? ⟨gq, 1, none⟩ = some (.string a1) := (zc1 h.bs 1).trans rfl
theorem LwQ.c2 (h : LwQ w w' gq a0 a1 a2 a3) : w'.cell? ⟨gq, 2, none⟩ = some (.int .i64 a2) := (zc1 h.bs 2).trans rfl
theorem LwQ.c3 (h : LwQ w w' gq a0 a1 a2 a3) : w'.cell? ⟨gq, 3, none⟩ = some (.int .i64 a3) := (zc1 h.bs 3).trans rfl
end
-- parts: lwq.txt
/-! ### IndexNot, by hand -/
/-- The marks from i on: where one has the sum that is looked for, the small case; else none is picked by less of its sum, nor with another length; behind them nothing is found. -/
def notL (k : Nat) (l : List S44) (s b : Int) (x0 : Int) (x1 : ByteArray) (x2 x3 : Int) : Nat → Nat → Option Bool
 | 0, _ => none
 | d + 1, i =>
  if i < l.length then
   if (rd_T44 l (i : Int)).f0 = x0 then remoralaw07_awake.f k
   else
    (blocks_Range.f s b (i : Int)).bind fun q =>
    (index_Index_Pick.f k l s b (ixChains l) (rd_T44 l (i : Int)).f0 ((rd_T44 l (i : Int)).f1.extract 0 (min (rd_T44 l (i : Int)).f1.size 7)) (wrap64 (q.2.1 - q.1)) (i : Int)).bind fun p =>
    (index_Index_Pick.f k l s b (ixChains l) (rd_T44 l (i : Int)).f0 (rd_T44 l (i : Int)).f1 17 (i : Int)).bind fun p' =>
    if p.2 = false ∧ p'.2 = false then notL k l s b x0 x1 x2 x3 d (i + 1) else none
  else
   (index_Index_Pick.f k l s b (ixChains l) x0 x1 x2 x3).bind fun p =>
   (index_Index_Find.f k l s b (ixChains l) x0).bind fun L =>
   if p.2 = false ∧ L.length = 0 then remoralaw07_awake.f k else none
def remoralaw07_IndexNot.f (k : Nat) (l0 : List Int) (a1_0 : Int) (a1_1 : ByteArray) (a1_2 a1_3 : Int) : Option Bool :=
 if l0.length > 2000 then remoralaw07_awake.f k else
 (sig_Of.f k l0 16 8).bind fun s =>
 if s.2.2.2.2 = 0 ∧ s.2.2.2.1.length ≤ 1000000 then
  (sig_Check.f s.1 s.2.1 s.2.2.1 s.2.2.2.1).bind fun c =>
  if c = 0 then notL k s.2.2.2.1 s.1 s.2.1 a1_0 a1_1 a1_2 a1_3 (s.2.2.2.1.length + 1) 0 else none
 else none
def remoralaw07_IndexNot.T10 : Bool × List (List Nat × List Nat) := (true, [([], []), ([0], [0]), ([], []), ([1, 2], [1, 2]), ([3], [3]), ([4], [4]), ([], []), ([6], [6]), ([5, 7], [5, 7])])
def remoralaw07_IndexNot.B10 : List Nat := [0, 1, 0, 7, 15, 31, 0, 64, 255]
theorem remoralaw07_IndexNot.tab10 : rtab .any (opsOf Try.f4 10) = remoralaw07_IndexNot.T10 := by kernel_rfl
theorem remoralaw07_IndexNot.bits10 : waitsOk remoralaw07_IndexNot.T10.2 remoralaw07_IndexNot.B10 = true := by kernel_rfl
def remoralaw07_IndexNot.T13 : Bool × List (List Nat × List Nat) := (true, [([], []), ([], []), ([1], [1]), ([], []), ([2, 3], [2, 3]), ([4], [4]), ([5], [5]), ([], []), ([7], [7]), ([], []), ([8, 9], [8, 9]), ([10], [10]), ([11], [11]), ([], []), ([13], [13]), ([], []), ([14, 15], [14, 15]), ([16], [16]), ([17], [17]), ([18], [18]), ([19], [19]), ([12, 20], [12, 20]), ([], []), ([], []), ([22, 23], [22, 23]), ([], []), ([0, 6, 21, 24, 25], [0, 6, 21, 24, 25]), ([26], [26]), ([27], [27]), ([27], [27]), ([28, 26, 0, 1, 2, 3, 4, 5, 6, 7, 8, 9, 10, 11, 12, 13, 14, 15, 16, 17, 18, 19, 20, 21, 22, 23, 24, 25, 26, 27, 28], [28]), ([29, 30, 0, 1, 2, 3, 4, 5, 6, 7, 8, 9, 10, 11, 12, 13, 14, 15, 16, 17, 18, 19, 20, 21, 22, 23, 24, 25, 26, 27, 28, 29, 30], [29])])
def remoralaw07_IndexNot.B13 : List Nat := [0, 0, 2, 0, 14, 30, 62, 0, 128, 0, 896, 1920, 3968, 0, 8192, 0, 57344, 122880, 253952, 516096, 1040384, 2097024, 0, 0, 12582912, 0, 67108863, 134217727, 268435455, 268435455, 536870911, 2147483647]
theorem remoralaw07_IndexNot.tab13 : rtab .any (opsOf Try.f4 13) = remoralaw07_IndexNot.T13 := by kernel_rfl
theorem remoralaw07_IndexNot.bits13 : waitsOk remoralaw07_IndexNot.T13.2 remoralaw07_IndexNot.B13 = true := by kernel_rfl
def remoralaw07_IndexNot.T14 : Bool × List (List Nat × List Nat) := (true, [([], []), ([], []), ([1], [1]), ([], []), ([2, 3], [2, 3]), ([4], [4]), ([5], [5]), ([], []), ([7], [7]), ([], []), ([8, 9], [8, 9]), ([10], [10]), ([11], [11]), ([], []), ([0, 6, 12, 13], [0, 6, 12, 13]), ([14], [14]), ([15], [15]), ([15], [15]), ([16, 14, 0, 1, 2, 3, 4, 5, 6, 7, 8, 9, 10, 11, 12, 13, 14, 15, 16], [16]), ([17, 18, 0, 1, 2, 3, 4, 5, 6, 7, 8, 9, 10, 11, 12, 13, 14, 15, 16, 17, 18], [17])])
def remoralaw07_IndexNot.B14 : List Nat := [0, 0, 2, 0, 14, 30, 62, 0, 128, 0, 896, 1920, 3968, 0, 16383, 32767, 65535, 65535, 131071, 524287]
theorem remoralaw07_IndexNot.tab14 : rtab .any (opsOf Try.f4 14) = remoralaw07_IndexNot.T14 := by kernel_rfl
theorem remoralaw07_IndexNot.bits14 : waitsOk remoralaw07_IndexNot.T14.2 remoralaw07_IndexNot.B14 = true := by kernel_rfl
set_option maxHeartbeats 16000000 in
set_option maxRecDepth 100000 in
theorem remoralaw07_IndexNot.calls (k : Nat) (A0 : Option Addr) (c0 : Nat) (l0 : List Int) (a1_0 : Int) (a1_1 : ByteArray) (a1_2 a1_3 : Int) (r : Bool) (w : World) (hr0 : Kd.C (Kd.int .u8) w A0 l0.length l0) (hc0 : l0.length ≤ c0) (h : remoralaw07_IndexNot.f k l0 a1_0 a1_1 a1_2 a1_3 = some r) :
    Calls Try.prog 4 #[.slice A0 l0.length c0, .agg #[.int .u32 a1_0, .string a1_1, .int .i64 a1_2, .int .i64 a1_3]] w fun e w' => e = .returned (.bool r) ∧ Below w.heap.size w w' := by
 have hu := Try.underlying24
 have hu2 := Try.underlying27
 have hu3 := Try.underlying44
 have HR := zA hr0
 have HC := zA hc0
 unfold remoralaw07_IndexNot.f at h
 clear hr0 hc0
 by_cases hg : l0.length > 2000
 ·rw [if_pos hg] at h
  have HAW := zA h
  have d1 : decide (2000 < (l0.length : Int)) = true := zd1 (by omega)
  have d2 : decide (2000 < l0.length) = true := zd1 hg
  clear h hg
  go_enter Try.func4, Try.ntmps4
  go_wp2_with (first | ((with_reducible refine gate_dst (N := 3) rfl ?_); refine box_event ?hg (N := 3) ?hd (cs := #[.int .u32 a1_0, .string a1_1, .int .i64 a1_2, .int .i64 a1_3]) (t := 27) ?hr ?_; (case hd => rfl); (case hg => rfl); (case hr => first | (go_simp; done) | (go_simp; rfl)); intro gq hgq w0 hA hq; have HQ : Aside0 (LwQ w w0 gq a1_0 a1_1 a1_2 a1_3) := ⟨⟨hA, hq⟩⟩; have hd0 := HQ.out.c0; have hd1 := HQ.out.c1; have hd2 := HQ.out.c2; have hd3 := HQ.out.c3; clear hA hq hgq))
  refine (remoralaw07_awake.calls k r _ HAW.out).mono ?_
  rintro e wz ⟨rfl, hb⟩
  replace HQ := zA (HQ.out.step hb)
  clear hb
  go_wp2_with fail
  go_ret
  exact ⟨rfl, HQ.out.bl⟩
 ·rw [if_neg hg] at h
  have d1 : decide (2000 < (l0.length : Int)) = false := zd2 (by omega)
  have d2 : decide (2000 < l0.length) = false := zd2 hg
  clear hg
  obtain ⟨⟨s, b, n, l, e0⟩, hof, h2⟩ := ob_ h
  clear h
  obtain ⟨⟨h0, hl3⟩, h⟩ := oi_ h2
  clear h2
  obtain rfl : e0 = 0 := h0
  obtain ⟨c1, hck, h2⟩ := ob_ h
  clear h
  obtain ⟨h0, h⟩ := oi_ h2
  clear h2
  obtain rfl : c1 = 0 := h0
  have HOF : Aside0 (sig_Of.f k l0 16 8 = some (s, b, n, l, 0)) := ⟨hof⟩
  have HLL : Aside0 (l.length ≤ 1000000) := ⟨hl3⟩
  have HCK : Aside0 (sig_Check.f s b n l = some 0) := ⟨hck⟩
  have H : Aside0 (notL k l s b a1_0 a1_1 a1_2 a1_3 (l.length + 1) 0 = some r) := ⟨h⟩
  clear hof hl3 hck h
  go_enter Try.func4, Try.ntmps4
  go_wp2_with (first | ((with_reducible refine gate_dst (N := 3) rfl ?_); refine box_event ?hg (N := 3) ?hd (cs := #[.int .u32 a1_0, .string a1_1, .int .i64 a1_2, .int .i64 a1_3]) (t := 27) ?hr ?_; (case hd => rfl); (case hg => rfl); (case hr => first | (go_simp; done) | (go_simp; rfl)); intro gq hgq w0 hA hq; have HQ : Aside0 (LwQ w w0 gq a1_0 a1_1 a1_2 a1_3) := ⟨⟨hA, hq⟩⟩; have hd0 := HQ.out.c0; have hd1 := HQ.out.c1; have hd2 := HQ.out.c2; have hd3 := HQ.out.c3; clear hA hq hgq))
  refine (ix_of k (l0 := l0) rfl (Kd.C_below HR.out HQ.out.bl) HC.out HOF.out).mono ?_
  rintro e w2 ⟨A, c, rfl, hR, hc, hb⟩
  have HR2 := zA hR
  have HC2 := zA hc
  replace HQ := zA (HQ.out.step hb)
  have HB := zA HQ.out.bl
  clear hb hR hc hd0 hd1 hd2 hd3
  go_wp2_with (first | ((with_reducible refine gate_dst (N := 5) rfl ?_); refine box_event ?hg (N := 5) ?hd (cs := #[.int .i64 0, .int .i64 0, .int .i64 0, .slice none 0 0]) (t := 24) ?hr ?_; (case hd => rfl); (case hg => rfl); (case hr => first | (go_simp; done) | (go_simp; rfl)); intro gs hgs w3 hA hq; have HQ3 := zA hq; have HS0 := zA hA; have HGS := zA (show w2.heap.size ≤ gs by rw [hgs]; exact Nat.le_refl _); have hq0 := zc1 hA 0; have hf0 := zc5 hA 0; have hq1 := zc1 hA 1; have hf1 := zc5 hA 1; have hq2 := zc1 hA 2; have hf2 := zc5 hA 2; have hq3 := zc1 hA 3; have hf3 := zc5 hA 3; clear hA hq hgs))
  have HB3 : Aside0 (Below w2.heap.size w2 ((((w3.setCell ⟨gs, 0, none⟩ (.int .i64 s)).setCell ⟨gs, 1, none⟩ (.int .i64 b)).setCell ⟨gs, 2, none⟩ (.int .i64 n)).setCell ⟨gs, 3, none⟩ (.slice A l.length c))) := ⟨zb4 (zb4 (zb4 (zb4 HQ3.out HGS.out) HGS.out) HGS.out) HGS.out⟩
  have HS : Aside0 (LwS w ((((w3.setCell ⟨gs, 0, none⟩ (.int .i64 s)).setCell ⟨gs, 1, none⟩ (.int .i64 b)).setCell ⟨gs, 2, none⟩ (.int .i64 n)).setCell ⟨gs, 3, none⟩ (.slice A l.length c)) gs s b n A c l) := ⟨⟨blk_put (blk_put (blk_put (blk_put HS0.out 0 _ rfl) 1 _ rfl) 2 _ rfl) 3 _ rfl, Kd.C_below HR2.out HB3.out, zb5 HB.out HB3.out⟩⟩
  replace HQ := zA (HQ.out.step HB3.out)
  refine (ixis_new s b n A c l _ rfl HS.out.rd HC2.out HCK.out HLL.out).mono ?_
  rintro e w4 ⟨g, rfl, hx, hb⟩
  have HX := zA hx
  replace HS := zA (HS.out.step hb)
  replace HQ := zA (HQ.out.step hb)
  clear hx hb hq0 hq1 hq2 hq3 hf0 hf1 hf2 hf3 HQ3 HS0 HB3 HGS HB
  have hc0 := HS.out.c0
  have hc1 := HS.out.c1
  have hc2 := HS.out.c2
  have hc3 := HS.out.c3
  have hd0 := HQ.out.c0
  have hd1 := HQ.out.c1
  have hd2 := HQ.out.c2
  have hd3 := HQ.out.c3
  obtain ⟨m, hm⟩ : ∃ m : Nat, m = l.length := ⟨_, rfl⟩
  have HM := zA hm
  clear hm
  go_wp2_with fail
  go_loopg [9] (m + 1) (fun kq v9 w' => ∃ i : Nat, v9 = .int .i64 (i : Int) ∧ Aside0 (i + kq = m + 1 ∧ i ≤ m ∧ notL k l s b a1_0 a1_1 a1_2 a1_3 kq i = some r) ∧ Aside0 (IxIs w' g l s b) ∧ Aside0 (LwS w w' gs s b n A c l) ∧ Aside0 (LwQ w w' gq a1_0 a1_1 a1_2 a1_3))
  case atStart => exact ⟨0, rfl, ⟨by omega, by omega, by rw [HM.out]; exact H.out⟩, HX, HS, HQ⟩
  case round =>
   clear HX HS HQ hc0 hc1 hc2 hc3 hd0 hd1 hd2 hd3 H
   obtain ⟨i, rfl, HK, HX, HS, HQ⟩ := hrel
   obtain ⟨k1, rfl⟩ : ∃ k1, gk = k1 + 1 := ⟨gk - 1, by have := HK.out.1; have := HK.out.2.1; omega⟩
   have h := HK.out.2.2
   have hc0 := HS.out.c0
   have hc1 := HS.out.c1
   have hc3 := HS.out.c3
   rw [← HM.out] at hc3
   have hd0 := HQ.out.c0
   have hd1 := HQ.out.c1
   have hd2 := HQ.out.c2
   have hd3 := HQ.out.c3
   unfold notL at h
   rw [← HM.out] at h
   by_cases hlt : i < m
   ·rw [if_pos hlt] at h
    have HL := zA hlt
    have d1 : decide ((i : Int) < (m : Int)) = true := zd1 (by omega)
    have d2 : decide (i < m) = true := zd1 hlt
    have p0 := eq_true (show (i : Int) < (m : Int) by omega)
    have p1 := eq_true hlt
    have o0 := eq_true (show (0 : Int) ≤ (i : Int) by omega)
    obtain ⟨ad, ead, hx0, hx1⟩ := at_T44 HS.out.rd (i : Int) (by omega) (by rw [← HM.out]; omega)
    cases ead
    rw [Int.toNat_natCast] at hx0 hx1
    obtain ⟨wk, hwk⟩ : ∃ wk, wk = (rd_T44 l (i : Int)).f0 := ⟨_, rfl⟩
    obtain ⟨st, hst⟩ : ∃ st, st = (rd_T44 l (i : Int)).f1 := ⟨_, rfl⟩
    rw [← hwk] at hx0 h
    rw [← hst] at hx1 h
    clear hwk hst hlt
    by_cases he : wk = a1_0
    ·subst he
     rw [if_pos rfl] at h
     have HAW := zA h
     have b1 : (wk == wk) = true := beq_self_eq_true _
     clear h
     go_wp2_with fail
     refine start_ (n := 9) (S := fun w' => w'.cell? ⟨gs, 3, none⟩ = some (.slice (some ad) m c) ∧ w'.cell? (ad.add (i * 2)) = some (.int .u32 wk) ∧ w'.cell? ⟨gq, 0, none⟩ = some (.int .u32 wk)) (ds := []) #[false, false, false, false, false, false, false, false, false] (by kernel_rfl) rfl rfl ⟨hc3, hx0, hd0⟩ (fun hHeld => ?_); refine with_tabW remoralaw07_IndexNot.tab10 remoralaw07_IndexNot.bits10 (fun HT_ HW_ => ?_)
     refine pure_ (i := 0) (N := some 50) (v := ?_) (a' := ?_) #[true, false, false, false, false, false, false, false, false] rfl rfl (any_of HT_.out (by kernel_rfl)) (fun _ _ _ h => h) (Or.inl ⟨by rfl, ?_⟩) ?_ ?_
     rotate_left
     ·intro w'
      go_simp
      with_reducible rfl
     rotate_left
     ·simp only [Act.put, zs1, zs2, zs3, i64_w, i32_w]
      rfl
     refine pure_ (i := 2) (N := some 52) (v := ?_) (a' := ?_) #[true, false, true, false, false, false, false, false, false] rfl rfl (any_of HT_.out (by kernel_rfl)) (fun _ _ _ h => h) (Or.inl ⟨by rfl, ?_⟩) ?_ ?_
     rotate_left
     ·intro w'
      go_simp
      with_reducible rfl
     rotate_left
     ·simp only [Act.put, zs1, zs2, zs3, i64_w, i32_w]
      rfl
     refine pure_ (i := 6) (N := some 56) (v := ?_) (a' := ?_) #[true, false, true, false, false, false, true, false, false] rfl rfl (any_of HT_.out (by kernel_rfl)) (fun _ _ _ h => h) (Or.inl ⟨by rfl, ?_⟩) ?_ ?_
     rotate_left
     ·intro w'
      go_simp
      with_reducible rfl
     rotate_left
     ·simp only [Act.put, zs1, zs2, zs3, i64_w, i32_w]
      rfl
     refine take_ (i := 1) (N := some 51) (v := ?_) (a' := ?_) #[true, true, true, false, false, false, true, false, false] rfl rfl (take_ofW HT_.out HW_.out (by kernel_rfl)) (fun _ _ _ h => h) (Or.inl ⟨by rfl, ?_⟩) hHeld ?_ ?_
     rotate_left
     ·rintro w' ⟨s0, s1, s2⟩
      go_simp
      with_reducible rfl
     rotate_left
     ·simp only [Act.put, zs1, zs2, zs3, i64_w, i32_w]
      rfl
     refine pure_ (i := 3) (N := some 53) (v := ?_) (a' := ?_) #[true, true, true, true, false, false, true, false, false] rfl rfl (any_of HT_.out (by kernel_rfl)) (fun _ _ _ h => h) (Or.inl ⟨by rfl, ?_⟩) ?_ ?_
     rotate_left
     ·intro w'
      go_simp
      with_reducible rfl
     rotate_left
     ·simp only [Act.put, zs1, zs2, zs3, i64_w, i32_w]
      rfl
     refine pure_ (i := 4) (N := some 54) (v := ?_) (a' := ?_) #[true, true, true, true, true, false, true, false, false] rfl rfl (any_of HT_.out (by kernel_rfl)) (fun _ _ _ h => h) (Or.inl ⟨by rfl, ?_⟩) ?_ ?_
     rotate_left
     ·intro w'
      go_simp
      with_reducible rfl
     rotate_left
     ·simp only [Act.put, zs1, zs2, zs3, i64_w, i32_w]
      rfl
     refine take_ (i := 5) (N := some 55) (v := ?_) (a' := ?_) #[true, true, true, true, true, true, true, false, false] rfl rfl (take_ofW HT_.out HW_.out (by kernel_rfl)) (fun _ _ _ h => h) (Or.inl ⟨by rfl, ?_⟩) hHeld ?_ ?_
     rotate_left
     ·rintro w' ⟨s0, s1, s2⟩
      go_simp
      with_reducible rfl
     rotate_left
     ·simp only [Act.put, zs1, zs2, zs3, i64_w, i32_w]
      rfl
     refine take_ (i := 7) (N := some 57) (v := ?_) (a' := ?_) #[true, true, true, true, true, true, true, true, false] rfl rfl (take_ofW HT_.out HW_.out (by kernel_rfl)) (fun _ _ _ h => h) (Or.inl ⟨by rfl, ?_⟩) hHeld ?_ ?_
     rotate_left
     ·rintro w' ⟨s0, s1, s2⟩
      go_simp
      with_reducible rfl
     rotate_left
     ·simp only [Act.put, zs1, zs2, zs3, i64_w, i32_w]
      rfl
     refine pure_ (i := 8) (N := some 58) (v := ?_) (a' := ?_) #[true, true, true, true, true, true, true, true, true] rfl rfl (any_of HT_.out (by kernel_rfl)) (fun _ _ _ h => h) (Or.inl ⟨by rfl, ?_⟩) ?_ ?_
     rotate_left
     ·intro w'
      go_simp
      with_reducible rfl
     rotate_left
     ·simp only [Act.put, zs1, zs2, zs3, i64_w, i32_w]
      rfl
     refine done_ (done_of HT_.out (by kernel_rfl)) ?_
     clear HT_ HW_ hHeld
     go_wp2_with fail
     refine (remoralaw07_awake.calls k r _ HAW.out).mono ?_
     rintro e wz ⟨rfl, hb⟩
     replace HQ := zA (HQ.out.step (zb5 (zb2 (Below.refl _ _)) hb))
     clear hb
     go_wp2_with fail
     go_ret
     exact ⟨rfl, HQ.out.bl⟩
    ·rw [if_neg he] at h
     have b1 : (wk == a1_0) = false := beq_eq_false_iff_ne.2 he
     obtain ⟨⟨q1, q2, q3⟩, hrg, h2⟩ := ob_ h
     clear h
     obtain ⟨⟨p1, p2⟩, hp1, h3⟩ := ob_ h2
     clear h2
     obtain ⟨⟨t1, t2⟩, hp2, h4⟩ := ob_ h3
     clear h3
     obtain ⟨hpp, h⟩ := oi_ h4
     clear h4
     obtain ⟨rfl, rfl⟩ : p2 = false ∧ t2 = false := hpp
     obtain ⟨mm, hmm⟩ : ∃ mm : Nat, mm = min st.size 7 := ⟨_, rfl⟩
     rw [← hmm] at hp1
     have HRG := zA hrg
     have HP1 : Aside0 (index_Index_Pick.f k l s b (ixChains l) wk (st.extract 0 mm) (wrap64 (q2 - q1)) (i : Int) = some (p1, false)) := ⟨hp1⟩
     have HP2 : Aside0 (index_Index_Pick.f k l s b (ixChains l) wk st 17 (i : Int) = some (t1, false)) := ⟨hp2⟩
     have HN := zA h
     have e7 : (if 7 < (st.size : Int) then (7 : Int) else (st.size : Int)) = (mm : Int) := by split <;> omega
     have e8 : mm ≤ st.size := by omega
     have e9 := eq_true (show (mm : Int) ≤ (st.size : Int) by omega)
     clear hrg hp1 hp2 h hmm he
     go_wp2_with fail
     refine start_ (n := 9) (S := fun w' => w'.cell? ⟨gs, 3, none⟩ = some (.slice (some ad) m c) ∧ w'.cell? (ad.add (i * 2)) = some (.int .u32 wk) ∧ w'.cell? ⟨gq, 0, none⟩ = some (.int .u32 a1_0)) (ds := []) #[false, false, false, false, false, false, false, false, false] (by kernel_rfl) rfl rfl ⟨hc3, hx0, hd0⟩ (fun hHeld => ?_); refine with_tabW remoralaw07_IndexNot.tab10 remoralaw07_IndexNot.bits10 (fun HT_ HW_ => ?_)
     refine pure_ (i := 0) (N := some 50) (v := ?_) (a' := ?_) #[true, false, false, false, false, false, false, false, false] rfl rfl (any_of HT_.out (by kernel_rfl)) (fun _ _ _ h => h) (Or.inl ⟨by rfl, ?_⟩) ?_ ?_
     rotate_left
     ·intro w'
      go_simp
      with_reducible rfl
     rotate_left
     ·simp only [Act.put, zs1, zs2, zs3, i64_w, i32_w]
      rfl
     refine pure_ (i := 2) (N := some 52) (v := ?_) (a' := ?_) #[true, false, true, false, false, false, false, false, false] rfl rfl (any_of HT_.out (by kernel_rfl)) (fun _ _ _ h => h) (Or.inl ⟨by rfl, ?_⟩) ?_ ?_
     rotate_left
     ·intro w'
      go_simp
      with_reducible rfl
     rotate_left
     ·simp only [Act.put, zs1, zs2, zs3, i64_w, i32_w]
      rfl
     refine pure_ (i := 6) (N := some 56) (v := ?_) (a' := ?_) #[true, false, true, false, false, false, true, false, false] rfl rfl (any_of HT_.out (by kernel_rfl)) (fun _ _ _ h => h) (Or.inl ⟨by rfl, ?_⟩) ?_ ?_
     rotate_left
     ·intro w'
      go_simp
      with_reducible rfl
     rotate_left
     ·simp only [Act.put, zs1, zs2, zs3, i64_w, i32_w]
      rfl
     refine take_ (i := 1) (N := some 51) (v := ?_) (a' := ?_) #[true, true, true, false, false, false, true, false, false] rfl rfl (take_ofW HT_.out HW_.out (by kernel_rfl)) (fun _ _ _ h => h) (Or.inl ⟨by rfl, ?_⟩) hHeld ?_ ?_
     rotate_left
     ·rintro w' ⟨s0, s1, s2⟩
      go_simp
      with_reducible rfl
     rotate_left
     ·simp only [Act.put, zs1, zs2, zs3, i64_w, i32_w]
      rfl
     refine pure_ (i := 3) (N := some 53) (v := ?_) (a' := ?_) #[true, true, true, true, false, false, true, false, false] rfl rfl (any_of HT_.out (by kernel_rfl)) (fun _ _ _ h => h) (Or.inl ⟨by rfl, ?_⟩) ?_ ?_
     rotate_left
     ·intro w'
      go_simp
      with_reducible rfl
     rotate_left
     ·simp only [Act.put, zs1, zs2, zs3, i64_w, i32_w]
      rfl
     refine pure_ (i := 4) (N := some 54) (v := ?_) (a' := ?_) #[true, true, true, true, true, false, true, false, false] rfl rfl (any_of HT_.out (by kernel_rfl)) (fun _ _ _ h => h) (Or.inl ⟨by rfl, ?_⟩) ?_ ?_
     rotate_left
     ·intro w'
      go_simp
      with_reducible rfl
     rotate_left
     ·simp only [Act.put, zs1, zs2, zs3, i64_w, i32_w]
      rfl
     refine take_ (i := 5) (N := some 55) (v := ?_) (a' := ?_) #[true, true, true, true, true, true, true, false, false] rfl rfl (take_ofW HT_.out HW_.out (by kernel_rfl)) (fun _ _ _ h => h) (Or.inl ⟨by rfl, ?_⟩) hHeld ?_ ?_
     rotate_left
     ·rintro w' ⟨s0, s1, s2⟩
      go_simp
      with_reducible rfl
     rotate_left
     ·simp only [Act.put, zs1, zs2, zs3, i64_w, i32_w]
      rfl
     refine take_ (i := 7) (N := some 57) (v := ?_) (a' := ?_) #[true, true, true, true, true, true, true, true, false] rfl rfl (take_ofW HT_.out HW_.out (by kernel_rfl)) (fun _ _ _ h => h) (Or.inl ⟨by rfl, ?_⟩) hHeld ?_ ?_
     rotate_left
     ·rintro w' ⟨s0, s1, s2⟩
      go_simp
      with_reducible rfl
     rotate_left
     ·simp only [Act.put, zs1, zs2, zs3, i64_w, i32_w]
      rfl
     refine pure_ (i := 8) (N := some 58) (v := ?_) (a' := ?_) #[true, true, true, true, true, true, true, true, true] rfl rfl (any_of HT_.out (by kernel_rfl)) (fun _ _ _ h => h) (Or.inl ⟨by rfl, ?_⟩) ?_ ?_
     rotate_left
     ·intro w'
      go_simp
      with_reducible rfl
     rotate_left
     ·simp only [Act.put, zs1, zs2, zs3, i64_w, i32_w]
      rfl
     refine done_ (done_of HT_.out (by kernel_rfl)) ?_
     clear HT_ HW_ hHeld
     go_wp2_with fail
     refine (blocks_Range.calls s b (i : Int) q1 q2 q3 _ HRG.out).mono ?_
     rintro e w5 ⟨rfl, hb⟩
     replace hb : Below wr.heap.size wr w5 := ⟨hb.os, hb.tape, hb.output, hb.size, hb.block⟩
     replace HX := zA (HX.out.below hb)
     replace HS := zA (HS.out.step hb)
     replace HQ := zA (HQ.out.step hb)
     replace hc3 := (hb.cell (World.block_lt_of_cell? _ _ hc3)).trans hc3
     replace hx0 := (hb.cell (World.block_lt_of_cell? _ _ hx0)).trans hx0
     replace hx1 := (hb.cell (World.block_lt_of_cell? _ _ hx1)).trans hx1
     clear hb hc0 hc1 hd0 hd1 hd2 hd3
     go_wp2_with fail
     refine start_ (n := 32) (S := fun w' => w'.cell? ⟨gs, 3, none⟩ = some (.slice (some ad) m c) ∧ w'.cell? (ad.add (i * 2)) = some (.int .u32 wk) ∧ w'.cell? ⟨(ad.add (i * 2)).block, (ad.add (i * 2)).off + 1, none⟩ = some (.string st)) (ds := []) #[false, false, false, false, false, false, false, false, false, false, false, false, false, false, false, false, false, false, false, false, false, false, false, false, false, false, false, false, false, false, false, false] (by kernel_rfl) rfl rfl ⟨hc3, hx0, hx1⟩ (fun hHeld => ?_); refine with_tabW remoralaw07_IndexNot.tab13 remoralaw07_IndexNot.bits13 (fun HT_ HW_ => ?_)
     refine pure_ (i := 0) (N := some 71) (v := ?_) (a' := ?_) #[true, false, false, false, false, false, false, false, false, false, false, false, false, false, false, false, false, false, false, false, false, false, false, false, false, false, false, false, false, false, false, false] rfl rfl (any_of HT_.out (by kernel_rfl)) (fun _ _ _ h => h) (Or.inl ⟨by rfl, ?_⟩) ?_ ?_
     rotate_left
     ·intro w'
      go_simp
      with_reducible rfl
     rotate_left
     ·simp only [Act.put, zs1, zs2, zs3, i64_w, i32_w]
      rfl
     refine pure_ (i := 1) (N := some 72) (v := ?_) (a' := ?_) #[true, true, false, false, false, false, false, false, false, false, false, false, false, false, false, false, false, false, false, false, false, false, false, false, false, false, false, false, false, false, false, false] rfl rfl (any_of HT_.out (by kernel_rfl)) (fun _ _ _ h => h) (Or.inl ⟨by rfl, ?_⟩) ?_ ?_
     rotate_left
     ·intro w'
      go_simp
      with_reducible rfl
     rotate_left
     ·simp only [Act.put, zs1, zs2, zs3, i64_w, i32_w]
      rfl
     refine pure_ (i := 3) (N := some 74) (v := ?_) (a' := ?_) #[true, true, false, true, false, false, false, false, false, false, false, false, false, false, false, false, false, false, false, false, false, false, false, false, false, false, false, false, false, false, false, false] rfl rfl (any_of HT_.out (by kernel_rfl)) (fun _ _ _ h => h) (Or.inl ⟨by rfl, ?_⟩) ?_ ?_
     rotate_left
     ·intro w'
      go_simp
      with_reducible rfl
     rotate_left
     ·simp only [Act.put, zs1, zs2, zs3, i64_w, i32_w]
      rfl
     refine pure_ (i := 7) (N := some 78) (v := ?_) (a' := ?_) #[true, true, false, true, false, false, false, true, false, false, false, false, false, false, false, false, false, false, false, false, false, false, false, false, false, false, false, false, false, false, false, false] rfl rfl (any_of HT_.out (by kernel_rfl)) (fun _ _ _ h => h) (Or.inl ⟨by rfl, ?_⟩) ?_ ?_
     rotate_left
     ·intro w'
      go_simp
      with_reducible rfl
     rotate_left
     ·simp only [Act.put, zs1, zs2, zs3, i64_w, i32_w]
      rfl
     refine pure_ (i := 9) (N := some 80) (v := ?_) (a' := ?_) #[true, true, false, true, false, false, false, true, false, true, false, false, false, false, false, false, false, false, false, false, false, false, false, false, false, false, false, false, false, false, false, false] rfl rfl (any_of HT_.out (by kernel_rfl)) (fun _ _ _ h => h) (Or.inl ⟨by rfl, ?_⟩) ?_ ?_
     rotate_left
     ·intro w'
      go_simp
      with_reducible rfl
     rotate_left
     ·simp only [Act.put, zs1, zs2, zs3, i64_w, i32_w]
      rfl
     refine pure_ (i := 13) (N := some 84) (v := ?_) (a' := ?_) #[true, true, false, true, false, false, false, true, false, true, false, false, false, true, false, false, false, false, false, false, false, false, false, false, false, false, false, false, false, false, false, false] rfl rfl (any_of HT_.out (by kernel_rfl)) (fun _ _ _ h => h) (Or.inl ⟨by rfl, ?_⟩) ?_ ?_
     rotate_left
     ·intro w'
      go_simp
      with_reducible rfl
     rotate_left
     ·simp only [Act.put, zs1, zs2, zs3, i64_w, i32_w]
      rfl
     refine pure_ (i := 15) (N := some 86) (v := ?_) (a' := ?_) #[true, true, false, true, false, false, false, true, false, true, false, false, false, true, false, true, false, false, false, false, false, false, false, false, false, false, false, false, false, false, false, false] rfl rfl (any_of HT_.out (by kernel_rfl)) (fun _ _ _ h => h) (Or.inl ⟨by rfl, ?_⟩) ?_ ?_
     rotate_left
     ·intro w'
      go_simp
      with_reducible rfl
     rotate_left
     ·simp only [Act.put, zs1, zs2, zs3, i64_w, i32_w]
      rfl
     refine pure_ (i := 22) (N := some 93) (v := ?_) (a' := ?_) #[true, true, false, true, false, false, false, true, false, true, false, false, false, true, false, true, false, false, false, false, false, false, true, false, false, false, false, false, false, false, false, false] rfl rfl (any_of HT_.out (by kernel_rfl)) (fun _ _ _ h => h) (Or.inl ⟨by rfl, ?_⟩) ?_ ?_
     rotate_left
     ·intro w'
      go_simp
      with_reducible rfl
     rotate_left
     ·simp only [Act.put, zs1, zs2, zs3, i64_w, i32_w]
      rfl
     refine pure_ (i := 23) (N := some 94) (v := ?_) (a' := ?_) #[true, true, false, true, false, false, false, true, false, true, false, false, false, true, false, true, false, false, false, false, false, false, true, true, false, false, false, false, false, false, false, false] rfl rfl (any_of HT_.out (by kernel_rfl)) (fun _ _ _ h => h) (Or.inl ⟨by rfl, ?_⟩) ?_ ?_
     rotate_left
     ·intro w'
      go_simp
      with_reducible rfl
     rotate_left
     ·simp only [Act.put, zs1, zs2, zs3, i64_w, i32_w]
      rfl
     refine pure_ (i := 24) (N := some 95) (v := ?_) (a' := ?_) #[true, true, false, true, false, false, false, true, false, true, false, false, false, true, false, true, false, false, false, false, false, false, true, true, true, false, false, false, false, false, false, false] rfl rfl (any_of HT_.out (by kernel_rfl)) (fun _ _ _ h => h) (Or.inl ⟨by rfl, ?_⟩) ?_ ?_
     rotate_left
     ·intro w'
      go_simp
      with_reducible rfl
     rotate_left
     ·simp only [Act.put, zs1, zs2, zs3, i64_w, i32_w]
      rfl
     refine pure_ (i := 25) (N := some 96) (v := ?_) (a' := ?_) #[true, true, false, true, false, false, false, true, false, true, false, false, false, true, false, true, false, false, false, false, false, false, true, true, true, true, false, false, false, false, false, false] rfl rfl (any_of HT_.out (by kernel_rfl)) (fun _ _ _ h => h) (Or.inl ⟨by rfl, ?_⟩) ?_ ?_
     rotate_left
     ·intro w'
      go_simp
      with_reducible rfl
     rotate_left
     ·simp only [Act.put, zs1, zs2, zs3, i64_w, i32_w]
      rfl
     refine take_ (i := 2) (N := some 73) (v := ?_) (a' := ?_) #[true, true, true, true, false, false, false, true, false, true, false, false, false, true, false, true, false, false, false, false, false, false, true, true, true, true, false, false, false, false, false, false] rfl rfl (take_ofW HT_.out HW_.out (by kernel_rfl)) (fun _ _ _ h => h) (Or.inl ⟨by rfl, ?_⟩) hHeld ?_ ?_
     rotate_left
     ·rintro w' ⟨s0, s1, s2⟩
      go_simp
      with_reducible rfl
     rotate_left
     ·simp only [Act.put, zs1, zs2, zs3, i64_w, i32_w]
      rfl
     refine pure_ (i := 4) (N := some 75) (v := ?_) (a' := ?_) #[true, true, true, true, true, false, false, true, false, true, false, false, false, true, false, true, false, false, false, false, false, false, true, true, true, true, false, false, false, false, false, false] rfl rfl (any_of HT_.out (by kernel_rfl)) (fun _ _ _ h => h) (Or.inl ⟨by rfl, ?_⟩) ?_ ?_
     rotate_left
     ·intro w'
      go_simp
      with_reducible rfl
     rotate_left
     ·simp only [Act.put, zs1, zs2, zs3, i64_w, i32_w]
      rfl
     refine pure_ (i := 5) (N := some 76) (v := ?_) (a' := ?_) #[true, true, true, true, true, true, false, true, false, true, false, false, false, true, false, true, false, false, false, false, false, false, true, true, true, true, false, false, false, false, false, false] rfl rfl (any_of HT_.out (by kernel_rfl)) (fun _ _ _ h => h) (Or.inl ⟨by rfl, ?_⟩) ?_ ?_
     rotate_left
     ·intro w'
      go_simp
      with_reducible rfl
     rotate_left
     ·simp only [Act.put, zs1, zs2, zs3, i64_w, i32_w]
      rfl
     refine take_ (i := 6) (N := some 77) (v := ?_) (a' := ?_) #[true, true, true, true, true, true, true, true, false, true, false, false, false, true, false, true, false, false, false, false, false, false, true, true, true, true, false, false, false, false, false, false] rfl rfl (take_ofW HT_.out HW_.out (by kernel_rfl)) (fun _ _ _ h => h) (Or.inl ⟨by rfl, ?_⟩) hHeld ?_ ?_
     rotate_left
     ·rintro w' ⟨s0, s1, s2⟩
      go_simp
      with_reducible rfl
     rotate_left
     ·simp only [Act.put, zs1, zs2, zs3, i64_w, i32_w]
      rfl
     refine take_ (i := 8) (N := some 79) (v := ?_) (a' := ?_) #[true, true, true, true, true, true, true, true, true, true, false, false, false, true, false, true, false, false, false, false, false, false, true, true, true, true, false, false, false, false, false, false] rfl rfl (take_ofW HT_.out HW_.out (by kernel_rfl)) (fun _ _ _ h => h) (Or.inl ⟨by rfl, ?_⟩) hHeld ?_ ?_
     rotate_left
     ·rintro w' ⟨s0, s1, s2⟩
      go_simp
      with_reducible rfl
     rotate_left
     ·simp only [Act.put, zs1, zs2, zs3, i64_w, i32_w]
      rfl
     refine pure_ (i := 10) (N := some 81) (v := ?_) (a' := ?_) #[true, true, true, true, true, true, true, true, true, true, true, false, false, true, false, true, false, false, false, false, false, false, true, true, true, true, false, false, false, false, false, false] rfl rfl (any_of HT_.out (by kernel_rfl)) (fun _ _ _ h => h) (Or.inl ⟨by rfl, ?_⟩) ?_ ?_
     rotate_left
     ·intro w'
      go_simp
      with_reducible rfl
     rotate_left
     ·simp only [Act.put, zs1, zs2, zs3, i64_w, i32_w]
      rfl
     refine pure_ (i := 11) (N := some 82) (v := ?_) (a' := ?_) #[true, true, true, true, true, true, true, true, true, true, true, true, false, true, false, true, false, false, false, false, false, false, true, true, true, true, false, false, false, false, false, false] rfl rfl (any_of HT_.out (by kernel_rfl)) (fun _ _ _ h => h) (Or.inl ⟨by rfl, ?_⟩) ?_ ?_
     rotate_left
     ·intro w'
      go_simp
      with_reducible rfl
     rotate_left
     ·simp only [Act.put, zs1, zs2, zs3, i64_w, i32_w]
      rfl
     refine take_ (i := 12) (N := some 83) (v := ?_) (a' := ?_) #[true, true, true, true, true, true, true, true, true, true, true, true, true, true, false, true, false, false, false, false, false, false, true, true, true, true, false, false, false, false, false, false] rfl rfl (take_ofW HT_.out HW_.out (by kernel_rfl)) (fun _ _ _ h => h) (Or.inl ⟨by rfl, ?_⟩) hHeld ?_ ?_
     rotate_left
     ·rintro w' ⟨s0, s1, s2⟩
      go_simp
      with_reducible rfl
     rotate_left
     ·simp only [Act.put, zs1, zs2, zs3, i64_w, i32_w]
      rfl
     refine take_ (i := 14) (N := some 85) (v := ?_) (a' := ?_) #[true, true, true, true, true, true, true, true, true, true, true, true, true, true, true, true, false, false, false, false, false, false, true, true, true, true, false, false, false, false, false, false] rfl rfl (take_ofW HT_.out HW_.out (by kernel_rfl)) (fun _ _ _ h => h) (Or.inl ⟨by rfl, ?_⟩) hHeld ?_ ?_
     rotate_left
     ·rintro w' ⟨s0, s1, s2⟩
      go_simp
      with_reducible rfl
     rotate_left
     ·simp only [Act.put, zs1, zs2, zs3, i64_w, i32_w]
      rfl
     refine pure_ (i := 16) (N := some 87) (v := ?_) (a' := ?_) #[true, true, true, true, true, true, true, true, true, true, true, true, true, true, true, true, true, false, false, false, false, false, true, true, true, true, false, false, false, false, false, false] rfl rfl (any_of HT_.out (by kernel_rfl)) (fun _ _ _ h => h) (Or.inl ⟨by rfl, ?_⟩) ?_ ?_
     rotate_left
     ·intro w'
      go_simp
      with_reducible rfl
     rotate_left
     ·simp only [Act.put, zs1, zs2, zs3, i64_w, i32_w]
      rfl
     refine pure_ (i := 17) (N := some 88) (v := ?_) (a' := ?_) #[true, true, true, true, true, true, true, true, true, true, true, true, true, true, true, true, true, true, false, false, false, false, true, true, true, true, false, false, false, false, false, false] rfl rfl (any_of HT_.out (by kernel_rfl)) (fun _ _ _ h => h) (Or.inl ⟨by rfl, ?_⟩) ?_ ?_
     rotate_left
     ·intro w'
      go_simp
      with_reducible rfl
     rotate_left
     ·simp only [Act.put, zs1, zs2, zs3, i64_w, i32_w]
      rfl
     refine take_ (i := 18) (N := some 89) (v := ?_) (a' := ?_) #[true, true, true, true, true, true, true, true, true, true, true, true, true, true, true, true, true, true, true, false, false, false, true, true, true, true, false, false, false, false, false, false] rfl rfl (take_ofW HT_.out HW_.out (by kernel_rfl)) (fun _ _ _ h => h) (Or.inl ⟨by rfl, ?_⟩) hHeld ?_ ?_
     rotate_left
     ·rintro w' ⟨s0, s1, s2⟩
      go_simp
      with_reducible rfl
     rotate_left
     ·simp only [Act.put, zs1, zs2, zs3, i64_w, i32_w]
      rfl
     refine pure_ (i := 19) (N := some 90) (v := ?_) (a' := ?_) #[true, true, true, true, true, true, true, true, true, true, true, true, true, true, true, true, true, true, true, true, false, false, true, true, true, true, false, false, false, false, false, false] rfl rfl (any_of HT_.out (by kernel_rfl)) (fun _ _ _ h => h) (Or.inl ⟨by rfl, ?_⟩) ?_ ?_
     rotate_left
     ·intro w'
      go_simp
      with_reducible rfl
     rotate_left
     ·simp only [Act.put, zs1, zs2, zs3, i64_w, i32_w]
      rfl
     refine pure_ (i := 20) (N := some 91) (v := ?_) (a' := ?_) #[true, true, true, true, true, true, true, true, true, true, true, true, true, true, true, true, true, true, true, true, true, false, true, true, true, true, false, false, false, false, false, false] rfl rfl (any_of HT_.out (by kernel_rfl)) (fun _ _ _ h => h) (Or.inl ⟨by rfl, ?_⟩) ?_ ?_
     rotate_left
     ·intro w'
      go_simp
      with_reducible rfl
     rotate_left
     ·simp only [Act.put, zs1, zs2, zs3, i64_w, i32_w]
      rfl
     refine pure_ (i := 21) (N := some 92) (v := ?_) (a' := ?_) #[true, true, true, true, true, true, true, true, true, true, true, true, true, true, true, true, true, true, true, true, true, true, true, true, true, true, false, false, false, false, false, false] rfl rfl (any_of HT_.out (by kernel_rfl)) (fun _ _ _ h => h) (Or.inl ⟨by rfl, ?_⟩) ?_ ?_
     rotate_left
     ·intro w'
      go_simp
      with_reducible rfl
     rotate_left
     ·simp only [Act.put, zs1, zs2, zs3, i64_w, i32_w]
      rfl
     refine one_ (i := 26) (N := some 97) #[true, true, true, true, true, true, true, true, true, true, true, true, true, true, true, true, true, true, true, true, true, true, true, true, true, true, true, false, false, false, false, false] rfl rfl (one_of HT_.out (by kernel_rfl)) (by decide) (fun K hK => ?_)
     refine goes_ Try.func13 (by kernel_rfl) rfl #[.pointer (some ⟨g, 0, none⟩), .int .u32 wk, .string (st.extract 0 mm), .int .i64 (wrap64 (q2 - q1)), .int .i64 (i : Int)] (by rfl) rfl rfl (by (try simp only [zm1, zm2, zm3]); first | done | rfl) ?_
     refine (ixis_pick (HX.out.below (zb2 (Below.refl _ _))) HP1.out).mono ?_
     rintro e w6 ⟨rfl, hb⟩
     replace hb : Below w5.heap.size w5 w6 := ⟨hb.os, hb.tape, hb.output, hb.size, hb.block⟩
     refine ⟨_, rfl, ?_⟩
     refine hK.out _ _ ⟨(hb.cell (World.block_lt_of_cell? _ _ hc3)).trans hc3, (hb.cell (World.block_lt_of_cell? _ _ hx0)).trans hx0, (hb.cell (World.block_lt_of_cell? _ _ hx1)).trans hx1⟩ (fun hHeld => ?_)
     clear hK K
     refine norm_ (a' := ?_) ?_ ?_
     rotate_left
     ·show Act.put _ (some 97) _ = _
      simp only [Act.put, zs1, zs2, zs3, i64_w, i32_w]
      rfl
     refine pure_ (i := 27) (N := some 70) (v := ?_) (a' := ?_) #[true, true, true, true, true, true, true, true, true, true, true, true, true, true, true, true, true, true, true, true, true, true, true, true, true, true, true, true, false, false, false, false] rfl rfl (any_of HT_.out (by kernel_rfl)) (fun _ _ _ h => h) (Or.inl ⟨by rfl, ?_⟩) ?_ ?_
     rotate_left
     ·intro w'
      go_simp
      with_reducible rfl
     rotate_left
     ·simp only [Act.put, zs1, zs2, zs3, i64_w, i32_w]
      rfl
     refine pure_ (i := 28) (N := some 98) (v := ?_) (a' := ?_) #[true, true, true, true, true, true, true, true, true, true, true, true, true, true, true, true, true, true, true, true, true, true, true, true, true, true, true, true, true, false, false, false] rfl rfl (any_of HT_.out (by kernel_rfl)) (fun _ _ _ h => h) (Or.inl ⟨by rfl, ?_⟩) ?_ ?_
     rotate_left
     ·intro w'
      go_simp
      with_reducible rfl
     rotate_left
     ·simp only [Act.put, zs1, zs2, zs3, i64_w, i32_w]
      rfl
     refine pure_ (i := 29) (N := some 99) (v := ?_) (a' := ?_) #[true, true, true, true, true, true, true, true, true, true, true, true, true, true, true, true, true, true, true, true, true, true, true, true, true, true, true, true, true, true, false, false] rfl rfl (any_of HT_.out (by kernel_rfl)) (fun _ _ _ h => h) (Or.inl ⟨by rfl, ?_⟩) ?_ ?_
     rotate_left
     ·intro w'
      go_simp
      with_reducible rfl
     rotate_left
     ·simp only [Act.put, zs1, zs2, zs3, i64_w, i32_w]
      rfl
     refine pure_ (i := 30) (N := some 13) (v := ?_) (a' := ?_) #[true, true, true, true, true, true, true, true, true, true, true, true, true, true, true, true, true, true, true, true, true, true, true, true, true, true, true, true, true, true, true, false] rfl rfl (any_of HT_.out (by kernel_rfl)) (fun _ _ _ h => h) (Or.inl ⟨by rfl, ?_⟩) ?_ ?_
     rotate_left
     ·intro w'
      go_simp
      with_reducible rfl
     rotate_left
     ·simp only [Act.put, zs1, zs2, zs3, i64_w, i32_w]
      rfl
     refine pure_ (i := 31) (N := some 14) (v := ?_) (a' := ?_) #[true, true, true, true, true, true, true, true, true, true, true, true, true, true, true, true, true, true, true, true, true, true, true, true, true, true, true, true, true, true, true, true] rfl rfl (any_of HT_.out (by kernel_rfl)) (fun _ _ _ h => h) (Or.inl ⟨by rfl, ?_⟩) ?_ ?_
     rotate_left
     ·intro w'
      go_simp
      with_reducible rfl
     rotate_left
     ·simp only [Act.put, zs1, zs2, zs3, i64_w, i32_w]
      rfl
     refine done_ (done_of HT_.out (by kernel_rfl)) ?_
     clear HT_ HW_ hHeld
     replace HX := zA (HX.out.below hb)
     replace HS := zA (HS.out.step hb)
     replace HQ := zA (HQ.out.step hb)
     replace hc3 := (hb.cell (World.block_lt_of_cell? _ _ hc3)).trans hc3
     replace hx0 := (hb.cell (World.block_lt_of_cell? _ _ hx0)).trans hx0
     replace hx1 := (hb.cell (World.block_lt_of_cell? _ _ hx1)).trans hx1
     clear hb e7 e8 e9
     go_wp2_with fail
     refine start_ (n := 20) (S := fun w' => w'.cell? ⟨gs, 3, none⟩ = some (.slice (some ad) m c) ∧ w'.cell? (ad.add (i * 2)) = some (.int .u32 wk) ∧ w'.cell? ⟨(ad.add (i * 2)).block, (ad.add (i * 2)).off + 1, none⟩ = some (.string st)) (ds := []) #[false, false, false, false, false, false, false, false, false, false, false, false, false, false, false, false, false, false, false, false] (by kernel_rfl) rfl rfl ⟨hc3, hx0, hx1⟩ (fun hHeld => ?_); refine with_tabW remoralaw07_IndexNot.tab14 remoralaw07_IndexNot.bits14 (fun HT_ HW_ => ?_)
     refine pure_ (i := 0) (N := some 101) (v := ?_) (a' := ?_) #[true, false, false, false, false, false, false, false, false, false, false, false, false, false, false, false, false, false, false, false] rfl rfl (any_of HT_.out (by kernel_rfl)) (fun _ _ _ h => h) (Or.inl ⟨by rfl, ?_⟩) ?_ ?_
     rotate_left
     ·intro w'
      go_simp
      with_reducible rfl
     rotate_left
     ·simp only [Act.put, zs1, zs2, zs3, i64_w, i32_w]
      rfl
     refine pure_ (i := 1) (N := some 102) (v := ?_) (a' := ?_) #[true, true, false, false, false, false, false, false, false, false, false, false, false, false, false, false, false, false, false, false] rfl rfl (any_of HT_.out (by kernel_rfl)) (fun _ _ _ h => h) (Or.inl ⟨by rfl, ?_⟩) ?_ ?_
     rotate_left
     ·intro w'
      go_simp
      with_reducible rfl
     rotate_left
     ·simp only [Act.put, zs1, zs2, zs3, i64_w, i32_w]
      rfl
     refine pure_ (i := 3) (N := some 104) (v := ?_) (a' := ?_) #[true, true, false, true, false, false, false, false, false, false, false, false, false, false, false, false, false, false, false, false] rfl rfl (any_of HT_.out (by kernel_rfl)) (fun _ _ _ h => h) (Or.inl ⟨by rfl, ?_⟩) ?_ ?_
     rotate_left
     ·intro w'
      go_simp
      with_reducible rfl
     rotate_left
     ·simp only [Act.put, zs1, zs2, zs3, i64_w, i32_w]
      rfl
     refine pure_ (i := 7) (N := some 108) (v := ?_) (a' := ?_) #[true, true, false, true, false, false, false, true, false, false, false, false, false, false, false, false, false, false, false, false] rfl rfl (any_of HT_.out (by kernel_rfl)) (fun _ _ _ h => h) (Or.inl ⟨by rfl, ?_⟩) ?_ ?_
     rotate_left
     ·intro w'
      go_simp
      with_reducible rfl
     rotate_left
     ·simp only [Act.put, zs1, zs2, zs3, i64_w, i32_w]
      rfl
     refine pure_ (i := 9) (N := some 110) (v := ?_) (a' := ?_) #[true, true, false, true, false, false, false, true, false, true, false, false, false, false, false, false, false, false, false, false] rfl rfl (any_of HT_.out (by kernel_rfl)) (fun _ _ _ h => h) (Or.inl ⟨by rfl, ?_⟩) ?_ ?_
     rotate_left
     ·intro w'
      go_simp
      with_reducible rfl
     rotate_left
     ·simp only [Act.put, zs1, zs2, zs3, i64_w, i32_w]
      rfl
     refine pure_ (i := 13) (N := some 114) (v := ?_) (a' := ?_) #[true, true, false, true, false, false, false, true, false, true, false, false, false, true, false, false, false, false, false, false] rfl rfl (any_of HT_.out (by kernel_rfl)) (fun _ _ _ h => h) (Or.inl ⟨by rfl, ?_⟩) ?_ ?_
     rotate_left
     ·intro w'
      go_simp
      with_reducible rfl
     rotate_left
     ·simp only [Act.put, zs1, zs2, zs3, i64_w, i32_w]
      rfl
     refine take_ (i := 2) (N := some 103) (v := ?_) (a' := ?_) #[true, true, true, true, false, false, false, true, false, true, false, false, false, true, false, false, false, false, false, false] rfl rfl (take_ofW HT_.out HW_.out (by kernel_rfl)) (fun _ _ _ h => h) (Or.inl ⟨by rfl, ?_⟩) hHeld ?_ ?_
     rotate_left
     ·rintro w' ⟨s0, s1, s2⟩
      go_simp
      with_reducible rfl
     rotate_left
     ·simp only [Act.put, zs1, zs2, zs3, i64_w, i32_w]
      rfl
     refine pure_ (i := 4) (N := some 105) (v := ?_) (a' := ?_) #[true, true, true, true, true, false, false, true, false, true, false, false, false, true, false, false, false, false, false, false] rfl rfl (any_of HT_.out (by kernel_rfl)) (fun _ _ _ h => h) (Or.inl ⟨by rfl, ?_⟩) ?_ ?_
     rotate_left
     ·intro w'
      go_simp
      with_reducible rfl
     rotate_left
     ·simp only [Act.put, zs1, zs2, zs3, i64_w, i32_w]
      rfl
     refine pure_ (i := 5) (N := some 106) (v := ?_) (a' := ?_) #[true, true, true, true, true, true, false, true, false, true, false, false, false, true, false, false, false, false, false, false] rfl rfl (any_of HT_.out (by kernel_rfl)) (fun _ _ _ h => h) (Or.inl ⟨by rfl, ?_⟩) ?_ ?_
     rotate_left
     ·intro w'
      go_simp
      with_reducible rfl
     rotate_left
     ·simp only [Act.put, zs1, zs2, zs3, i64_w, i32_w]
      rfl
     refine take_ (i := 6) (N := some 107) (v := ?_) (a' := ?_) #[true, true, true, true, true, true, true, true, false, true, false, false, false, true, false, false, false, false, false, false] rfl rfl (take_ofW HT_.out HW_.out (by kernel_rfl)) (fun _ _ _ h => h) (Or.inl ⟨by rfl, ?_⟩) hHeld ?_ ?_
     rotate_left
     ·rintro w' ⟨s0, s1, s2⟩
      go_simp
      with_reducible rfl
     rotate_left
     ·simp only [Act.put, zs1, zs2, zs3, i64_w, i32_w]
      rfl
     refine take_ (i := 8) (N := some 109) (v := ?_) (a' := ?_) #[true, true, true, true, true, true, true, true, true, true, false, false, false, true, false, false, false, false, false, false] rfl rfl (take_ofW HT_.out HW_.out (by kernel_rfl)) (fun _ _ _ h => h) (Or.inl ⟨by rfl, ?_⟩) hHeld ?_ ?_
     rotate_left
     ·rintro w' ⟨s0, s1, s2⟩
      go_simp
      with_reducible rfl
     rotate_left
     ·simp only [Act.put, zs1, zs2, zs3, i64_w, i32_w]
      rfl
     refine pure_ (i := 10) (N := some 111) (v := ?_) (a' := ?_) #[true, true, true, true, true, true, true, true, true, true, true, false, false, true, false, false, false, false, false, false] rfl rfl (any_of HT_.out (by kernel_rfl)) (fun _ _ _ h => h) (Or.inl ⟨by rfl, ?_⟩) ?_ ?_
     rotate_left
     ·intro w'
      go_simp
      with_reducible rfl
     rotate_left
     ·simp only [Act.put, zs1, zs2, zs3, i64_w, i32_w]
      rfl
     refine pure_ (i := 11) (N := some 112) (v := ?_) (a' := ?_) #[true, true, true, true, true, true, true, true, true, true, true, true, false, true, false, false, false, false, false, false] rfl rfl (any_of HT_.out (by kernel_rfl)) (fun _ _ _ h => h) (Or.inl ⟨by rfl, ?_⟩) ?_ ?_
     rotate_left
     ·intro w'
      go_simp
      with_reducible rfl
     rotate_left
     ·simp only [Act.put, zs1, zs2, zs3, i64_w, i32_w]
      rfl
     refine take_ (i := 12) (N := some 113) (v := ?_) (a' := ?_) #[true, true, true, true, true, true, true, true, true, true, true, true, true, true, false, false, false, false, false, false] rfl rfl (take_ofW HT_.out HW_.out (by kernel_rfl)) (fun _ _ _ h => h) (Or.inl ⟨by rfl, ?_⟩) hHeld ?_ ?_
     rotate_left
     ·rintro w' ⟨s0, s1, s2⟩
      go_simp
      with_reducible rfl
     rotate_left
     ·simp only [Act.put, zs1, zs2, zs3, i64_w, i32_w]
      rfl
     refine one_ (i := 14) (N := some 115) #[true, true, true, true, true, true, true, true, true, true, true, true, true, true, true, false, false, false, false, false] rfl rfl (one_of HT_.out (by kernel_rfl)) (by decide) (fun K hK => ?_)
     refine goes_ Try.func13 (by kernel_rfl) rfl #[.pointer (some ⟨g, 0, none⟩), .int .u32 wk, .string st, .int .i64 17, .int .i64 (i : Int)] (by rfl) rfl rfl (by (try simp only [zm1, zm2, zm3]); first | done | rfl) ?_
     refine (ixis_pick (HX.out.below (zb2 (Below.refl _ _))) HP2.out).mono ?_
     rintro e w7 ⟨rfl, hb⟩
     replace hb : Below w6.heap.size w6 w7 := ⟨hb.os, hb.tape, hb.output, hb.size, hb.block⟩
     refine ⟨_, rfl, ?_⟩
     refine hK.out _ _ ⟨(hb.cell (World.block_lt_of_cell? _ _ hc3)).trans hc3, (hb.cell (World.block_lt_of_cell? _ _ hx0)).trans hx0, (hb.cell (World.block_lt_of_cell? _ _ hx1)).trans hx1⟩ (fun hHeld => ?_)
     clear hK K
     refine norm_ (a' := ?_) ?_ ?_
     rotate_left
     ·show Act.put _ (some 115) _ = _
      simp only [Act.put, zs1, zs2, zs3, i64_w, i32_w]
      rfl
     refine pure_ (i := 15) (N := some 100) (v := ?_) (a' := ?_) #[true, true, true, true, true, true, true, true, true, true, true, true, true, true, true, true, false, false, false, false] rfl rfl (any_of HT_.out (by kernel_rfl)) (fun _ _ _ h => h) (Or.inl ⟨by rfl, ?_⟩) ?_ ?_
     rotate_left
     ·intro w'
      go_simp
      with_reducible rfl
     rotate_left
     ·simp only [Act.put, zs1, zs2, zs3, i64_w, i32_w]
      rfl
     refine pure_ (i := 16) (N := some 116) (v := ?_) (a' := ?_) #[true, true, true, true, true, true, true, true, true, true, true, true, true, true, true, true, true, false, false, false] rfl rfl (any_of HT_.out (by kernel_rfl)) (fun _ _ _ h => h) (Or.inl ⟨by rfl, ?_⟩) ?_ ?_
     rotate_left
     ·intro w'
      go_simp
      with_reducible rfl
     rotate_left
     ·simp only [Act.put, zs1, zs2, zs3, i64_w, i32_w]
      rfl
     refine pure_ (i := 17) (N := some 117) (v := ?_) (a' := ?_) #[true, true, true, true, true, true, true, true, true, true, true, true, true, true, true, true, true, true, false, false] rfl rfl (any_of HT_.out (by kernel_rfl)) (fun _ _ _ h => h) (Or.inl ⟨by rfl, ?_⟩) ?_ ?_
     rotate_left
     ·intro w'
      go_simp
      with_reducible rfl
     rotate_left
     ·simp only [Act.put, zs1, zs2, zs3, i64_w, i32_w]
      rfl
     refine pure_ (i := 18) (N := some 15) (v := ?_) (a' := ?_) #[true, true, true, true, true, true, true, true, true, true, true, true, true, true, true, true, true, true, true, false] rfl rfl (any_of HT_.out (by kernel_rfl)) (fun _ _ _ h => h) (Or.inl ⟨by rfl, ?_⟩) ?_ ?_
     rotate_left
     ·intro w'
      go_simp
      with_reducible rfl
     rotate_left
     ·simp only [Act.put, zs1, zs2, zs3, i64_w, i32_w]
      rfl
     refine pure_ (i := 19) (N := some 16) (v := ?_) (a' := ?_) #[true, true, true, true, true, true, true, true, true, true, true, true, true, true, true, true, true, true, true, true] rfl rfl (any_of HT_.out (by kernel_rfl)) (fun _ _ _ h => h) (Or.inl ⟨by rfl, ?_⟩) ?_ ?_
     rotate_left
     ·intro w'
      go_simp
      with_reducible rfl
     rotate_left
     ·simp only [Act.put, zs1, zs2, zs3, i64_w, i32_w]
      rfl
     refine done_ (done_of HT_.out (by kernel_rfl)) ?_
     clear HT_ HW_ hHeld
     replace HX := zA (HX.out.below hb)
     replace HS := zA (HS.out.step hb)
     replace HQ := zA (HQ.out.step hb)
     clear hb hc3 hx0 hx1
     go_wp2_with fail
     rw [show wrap64 ((i : Int) + 1) = ((i + 1 : Nat) : Int) by have := HLL.out; have := HM.out; have := HL.out; unfold wrap64; omega]
     go_roundg k1
     case measure => have := HK.out.1; omega
     case rel => exact ⟨i + 1, rfl, ⟨by have := HK.out.1; omega, by have := HL.out; omega, HN.out⟩, HX, HS, HQ⟩
   ·have hme : m = i := by have := HK.out.2.1; omega
    subst hme
    rw [if_neg (by omega)] at h
    obtain ⟨⟨p1, p2⟩, hp1, h2⟩ := ob_ h
    clear h
    obtain ⟨L, hfd, h3⟩ := ob_ h2
    clear h2
    obtain ⟨⟨hp, hL⟩, h⟩ := oi_ h3
    clear h3
    obtain rfl : p2 = false := hp
    have HP1 : Aside0 (index_Index_Pick.f k l s b (ixChains l) a1_0 a1_1 a1_2 a1_3 = some (p1, false)) := ⟨hp1⟩
    have HFD : Aside0 (index_Index_Find.f k l s b (ixChains l) a1_0 = some L) := ⟨hfd⟩
    have HAW := zA h
    have d1 : decide ((m : Int) < (m : Int)) = false := zd2 (by omega)
    have d2 : decide (m < m) = false := zd2 (by omega)
    have dl : ((L.length : Int) == 0) = true := by rw [hL]; rfl
    clear hp1 hfd h hlt hL
    go_wp2_with fail
    refine (ixis_pick HX.out HP1.out).mono ?_
    rintro e w5 ⟨rfl, hb⟩
    replace HX := zA (HX.out.below hb)
    replace HS := zA (HS.out.step hb)
    replace HQ := zA (HQ.out.step hb)
    clear hb hc0 hc1 hc3 hd1 hd2 hd3 hd0
    have hd0 := HQ.out.c0
    go_wp2_with fail
    refine (ixis_find HX.out HFD.out).mono ?_
    rintro e w6 ⟨A1, c1, rfl, hr1, hl1, hb⟩
    replace HS := zA (HS.out.step hb)
    clear hb hd0 hr1 hl1
    go_wp2_with fail
    refine (remoralaw07_awake.calls k r _ HAW.out).mono ?_
    rintro e wz ⟨rfl, hb⟩
    replace HS := zA (HS.out.step hb)
    clear hb
    go_wp2_with fail
    go_ret
    exact ⟨rfl, HS.out.bl⟩




/-- THE ONE PURE STATEMENT of remoralaw07_IndexNot. -/
def remoralaw07_IndexNot.Pure : Prop := ∀ (l0 : List Int) (a1_0 : Int) (a1_1 : ByteArray) (a1_2 : Int) (a1_3 : Int), (l0.length ≤ maxLen ∧ ∀ q0_ ∈ l0, (Lit.int .u8 q0_).wf = true) → l0.length * 1 ≤ 140737488351232 → (Lit.int .u32 a1_0).wf = true → a1_1.size ≤ maxLen → (Lit.int .i64 a1_2).wf = true → (Lit.int .i64 a1_3).wf = true → ∃ k, remoralaw07_IndexNot.f k l0 a1_0 a1_1 a1_2 a1_3 = some true

end Go.Proofs.Ytlndkemblbbfaaa.PIndexNot
