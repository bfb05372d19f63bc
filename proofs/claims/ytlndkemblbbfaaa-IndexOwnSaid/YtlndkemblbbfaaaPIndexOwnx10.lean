-- Written by a program of this session (the kit's printer with hand-written contracts among its functions).
-- squeezed
import Derived.Test.YtlndkemblbbfaaaPIndexOwnx0
import Derived.Test.YtlndkemblbbfaaaPIndexOwnx1
import Derived.Test.YtlndkemblbbfaaaPIndexOwnx2
import Derived.Test.YtlndkemblbbfaaaPIndexOwnx3
import Derived.Test.YtlndkemblbbfaaaPIndexOwnx4
import Derived.Test.YtlndkemblbbfaaaPIndexOwnx7
import Derived.Test.YtlndkemblbbfaaaPIndexOwnx8
import Derived.Test.YtlndkemblbbfaaaPIndexOwnx9
namespace Go.Proofs.Ytlndkemblbbfaaa.PIndexOwn
open Go.RowKit Go.Proofs.YtlndkemblbbfaaaW.PrintWords Go.Proofs.YtlndkemblbbfaaaW.PrintLast Go.Proofs.YtlndkemblbbfaaaW.PrintMore
attribute [local go_sem] max2_int min2_int max_two min_two max_three min_three max_four min_four   -- for this text's walks alone
set_option linter.unusedVariables false
set_option linter.unusedSimpArgs false

/-! ### remoralaw07_IndexOwn: function 6 -/
theorem ixis_len {g : Nat} {l : List S44} {s b : Int} {w : World} (hx : IxIs w g l s b) :
    Calls Try.prog 20 #[.pointer (some ⟨g, 0, none⟩)] w fun e w' => e = .returned (.int .i64 (l.length : Int)) ∧ Below w.heap.size w w' := by
 obtain ⟨A0, c0, A3, c3, h1, h2, h3, h4, h5⟩ := hx
 exact index_Index_Len.calls g A0 c0 l s b A3 c3 (ixChains l) _ w h2 h3 h4 h5 h1 rfl
-- parts: ixis_len.txt
/-! ### IndexOwn, by hand -/
/-- What the list of the blocks found is to be: in order, each with the sum, K among them. -/
def ownL (l : List S44) (L : List Int) (K : Nat) : Bool :=
 decide (∀ j, j < L.length → 0 ≤ rd L (j : Int) ∧ rd L (j : Int) < (l.length : Int) ∧ (rd_T44 l (rd L (j : Int))).f0 = (rd_T44 l (K : Int)).f0 ∧ (0 < j → rd L ((j : Int) - 1) < rd L (j : Int))) && L.any fun x => x == (K : Int)
def remoralaw07_IndexOwn.f (k : Nat) (l0 : List Int) (a1 a2 : Int) : Option Bool :=
 if 0 ≤ a1 ∧ a1 < 65536 ∧ 0 ≤ a2 ∧ a2 < 65536 then
  if l0.length > 3000 then remoralaw07_awake.f k else
  (sig_Of.f k l0 (16 + a1 % 100) (1 + a1 % 8)).bind fun s =>
  if s.2.2.2.2 = 0 ∧ s.2.2.2.1.length ≤ 1000000 then
   (sig_Check.f s.1 s.2.1 s.2.2.1 s.2.2.2.1).bind fun c =>
   (blocks_Count.f (l0.length : Int) s.2.1).bind fun ct =>
   if c = 0 ∧ ct = (s.2.2.2.1.length : Int) then
    if s.2.2.2.1.length = 0 then
     (index_Index_Find.f k s.2.2.2.1 s.1 s.2.1 (ixChains s.2.2.2.1) 0).bind fun L =>
     if L.length = 0 then remoralaw07_awake.f k else none
    else
     (blocks_Range.f s.1 s.2.1 ((a2.toNat % s.2.2.2.1.length : Nat) : Int)).bind fun q =>
     (index_Index_Find.f k s.2.2.2.1 s.1 s.2.1 (ixChains s.2.2.2.1) (rd_T44 s.2.2.2.1 ((a2.toNat % s.2.2.2.1.length : Nat) : Int)).f0).bind fun L =>
     (index_Index_Pick.f k s.2.2.2.1 s.1 s.2.1 (ixChains s.2.2.2.1) (rd_T44 s.2.2.2.1 ((a2.toNat % s.2.2.2.1.length : Nat) : Int)).f0 (rd_T44 s.2.2.2.1 ((a2.toNat % s.2.2.2.1.length : Nat) : Int)).f1 (wrap64 (q.2.1 - q.1)) ((a2.toNat % s.2.2.2.1.length : Nat) : Int)).bind fun p =>
     (index_Index_Pick.f k s.2.2.2.1 s.1 s.2.1 (ixChains s.2.2.2.1) (rd_T44 s.2.2.2.1 ((a2.toNat % s.2.2.2.1.length : Nat) : Int)).f0 (rd_T44 s.2.2.2.1 ((a2.toNat % s.2.2.2.1.length : Nat) : Int)).f1 (wrap64 (q.2.1 - q.1)) (-1)).bind fun p' =>
     (blocks_Range.f s.1 s.2.1 p'.1).bind fun q' =>
     if L.length ≤ 1000000 ∧ ownL s.2.2.2.1 L (a2.toNat % s.2.2.2.1.length) = true ∧ p = (((a2.toNat % s.2.2.2.1.length : Nat) : Int), true) ∧ p'.2 = true ∧ 0 ≤ p'.1 ∧ p'.1 ≤ ((a2.toNat % s.2.2.2.1.length : Nat) : Int)
         ∧ (rd_T44 s.2.2.2.1 p'.1).f0 = (rd_T44 s.2.2.2.1 ((a2.toNat % s.2.2.2.1.length : Nat) : Int)).f0 ∧ (rd_T44 s.2.2.2.1 p'.1).f1 = (rd_T44 s.2.2.2.1 ((a2.toNat % s.2.2.2.1.length : Nat) : Int)).f1 ∧ wrap64 (q'.2.1 - q'.1) = wrap64 (q.2.1 - q.1) then
      remoralaw07_awake.f k else none
   else none
  else none
 else none
theorem own_any (L : List Int) (K : Int) {i : Nat} (h : i < L.length) : ((L.take (i + 1)).any fun x => x == K) = (((L.take i).any fun x => x == K) || (rd L (i : Int) == K)) := by
 rw [List.take_add_one, List.getElem?_eq_getElem h, List.any_append]
 congr 1
 unfold rd
 rw [Int.toNat_natCast, List.getD_eq_getElem?_getD, List.getElem?_eq_getElem h]
 simp
theorem ix_ne {a b n : Nat} (h1 : a < n) (h2 : n ≤ b) : (a = b) = False ∧ (b = a) = False := ⟨eq_false (by omega), eq_false (by omega)⟩
def remoralaw07_IndexOwn.T5 : Bool × List (List Nat × List Nat) := (true, [([], []), ([0], [0]), ([1], [1]), ([2], [2]), ([3, 2], [2, 3]), ([2, 4], [2, 4]), ([5, 2], [5]), ([6], [6]), ([7, 6], [6, 7]), ([6, 8], [6, 8]), ([9, 6], [9]), ([10], [10]), ([11, 10, 10], [10, 11]), ([10], [10]), ([13, 10], [10, 13]), ([14, 10], [10, 14]), ([12, 15, 10], [10, 12, 15]), ([10, 16], [10, 16]), ([17, 12], [17]), ([18], [18]), ([19, 18, 18], [18, 19]), ([18], [18]), ([21, 18], [18, 21]), ([18], [18]), ([23, 18], [18, 23]), ([22, 24, 20, 18], [18, 22, 24]), ([20, 25, 18], [18, 20, 25]), ([18, 26], [18, 26])])
def remoralaw07_IndexOwn.B5 : List Nat := [0, 1, 3, 7, 15, 31, 63, 127, 255, 511, 1023, 2047, 4095, 2047, 10239, 26623, 65535, 131071, 262143, 524287, 1048575, 524287, 2621439, 524287, 8912895, 33554431, 67108863, 134217727]
theorem remoralaw07_IndexOwn.tab5 : rtab .any (opsOf Try.f6 5) = remoralaw07_IndexOwn.T5 := by kernel_rfl
theorem remoralaw07_IndexOwn.bits5 : waitsOk remoralaw07_IndexOwn.T5.2 remoralaw07_IndexOwn.B5 = true := by kernel_rfl
def remoralaw07_IndexOwn.T17 : Bool × List (List Nat × List Nat) := (true, [([], []), ([], []), ([0, 1], [0, 1]), ([2], [2]), ([3], [3]), ([4], [4]), ([5], [5]), ([5], [5]), ([6, 7, 5], [5, 6, 7]), ([8, 5], [5, 8]), ([5], [5]), ([10, 5], [5, 10]), ([11, 5], [5, 11]), ([9, 12, 5], [5, 9, 12]), ([5, 13], [5, 13]), ([14, 5], [14]), ([15], [15]), ([16, 15], [15, 16]), ([15], [15]), ([15], [15]), ([18, 19, 15], [15, 18, 19]), ([20, 15], [15, 20]), ([17, 21, 15], [15, 17, 21]), ([22, 15], [15, 22]), ([23, 15], [15, 23]), ([15], [15]), ([25, 15], [15, 25]), ([24, 26, 15], [15, 24, 26]), ([15, 27], [15, 27]), ([28, 15], [28]), ([29], [29]), ([30, 29], [29, 30]), ([31, 29, 29], [29, 31]), ([32], [32]), ([32], [32]), ([33, 34, 32], [32, 33, 34]), ([35, 32], [32, 35]), ([32], [32]), ([32], [32]), ([38, 32], [32, 38]), ([37, 39, 32], [32, 37, 39]), ([40, 32], [32, 40]), ([36, 41, 32], [32, 36, 41]), ([32, 42, 29], [29, 32, 42]), ([29, 43], [29, 43])])
def remoralaw07_IndexOwn.B17 : List Nat := [0, 0, 3, 7, 15, 31, 63, 63, 255, 511, 63, 1087, 3135, 8191, 16383, 32767, 65535, 131071, 65535, 65535, 851967, 1900543, 4194303, 8388607, 16777215, 65535, 33619967, 134217727, 268435455, 536870911, 1073741823, 2147483647, 4294967295, 8589934591, 8589934591, 34359738367, 68719476735, 8589934591, 8589934591, 283467841535, 970662608895, 2070174236671, 4398046511103, 8796093022207, 17592186044415]
theorem remoralaw07_IndexOwn.tab17 : rtab .any (opsOf Try.f6 17) = remoralaw07_IndexOwn.T17 := by kernel_rfl
theorem remoralaw07_IndexOwn.bits17 : waitsOk remoralaw07_IndexOwn.T17.2 remoralaw07_IndexOwn.B17 = true := by kernel_rfl
def remoralaw07_IndexOwn.T25 : Bool × List (List Nat × List Nat) := (true, [([], []), ([0], [0]), ([], []), ([1, 2], [1, 2]), ([3], [3]), ([], []), ([4, 5], [4, 5]), ([6], [6]), ([7], [7]), ([7], [7]), ([8, 9, 7], [7, 8, 9]), ([7], [7]), ([7], [7]), ([11, 12, 7], [7, 11, 12]), ([10, 13, 7], [7, 10, 13]), ([7, 14], [7, 14]), ([15, 7], [15]), ([16, 16], [16]), ([16, 17], [16, 17]), ([18, 17, 0, 1, 2, 3, 4, 5, 6, 7, 8, 9, 10, 11, 12, 13, 14, 15, 16, 17, 18], [18])])
def remoralaw07_IndexOwn.B25 : List Nat := [0, 1, 0, 7, 15, 0, 63, 127, 255, 255, 1023, 255, 255, 6399, 16383, 32767, 65535, 131071, 262143, 524287]
theorem remoralaw07_IndexOwn.tab25 : rtab .any (opsOf Try.f6 25) = remoralaw07_IndexOwn.T25 := by kernel_rfl
theorem remoralaw07_IndexOwn.bits25 : waitsOk remoralaw07_IndexOwn.T25.2 remoralaw07_IndexOwn.B25 = true := by kernel_rfl
set_option maxHeartbeats 16000000 in
set_option maxRecDepth 100000 in
theorem remoralaw07_IndexOwn.calls (k : Nat) (A0 : Option Addr) (c0 : Nat) (l0 : List Int) (a1 a2 : Int) (r : Bool) (w : World) (hr0 : Kd.C (Kd.int .u8) w A0 l0.length l0) (hc0 : l0.length ≤ c0) (h : remoralaw07_IndexOwn.f k l0 a1 a2 = some r) :
    Calls Try.prog 6 #[.slice A0 l0.length c0, .int .u16 a1, .int .u16 a2] w fun e w' => e = .returned (.bool r) ∧ Below w.heap.size w w' := by
 have hu := Try.underlying24
 have hu3 := Try.underlying44
 have HR := zA hr0
 have HC := zA hc0
 unfold remoralaw07_IndexOwn.f at h
 clear hr0 hc0
 obtain ⟨ha, h2⟩ := oi_ h
 clear h
 have HA := zA ha
 clear ha
 by_cases hg : l0.length > 3000
 ·rw [if_pos hg] at h2
  have HAW := zA h2
  have d1 : decide (3000 < (l0.length : Int)) = true := zd1 (by omega)
  have d2 : decide (3000 < l0.length) = true := zd1 hg
  clear h2 hg
  go_enter Try.func6, Try.ntmps6
  go_wp2_with fail
  refine (remoralaw07_awake.calls k r _ HAW.out).mono ?_
  rintro e wz ⟨rfl, hb⟩
  have HB := zA hb
  clear hb
  go_wp2_with fail
  go_ret
  exact ⟨rfl, HB.out⟩
 ·rw [if_neg hg] at h2
  have d1 : decide (3000 < (l0.length : Int)) = false := zd2 (by omega)
  have d2 : decide (3000 < l0.length) = false := zd2 hg
  clear hg
  obtain ⟨⟨s, b, n, l, e0⟩, hof, h⟩ := ob_ h2
  clear h2
  obtain ⟨⟨h0, hl3⟩, h2⟩ := oi_ h
  clear h
  obtain rfl : e0 = 0 := h0
  obtain ⟨c1, hck, h3⟩ := ob_ h2
  clear h2
  obtain ⟨ct, hct, h2⟩ := ob_ h3
  clear h3
  obtain ⟨⟨h0, h1⟩, h⟩ := oi_ h2
  clear h2
  obtain rfl : c1 = 0 := h0
  obtain rfl : ct = (l.length : Int) := h1
  have HOF : Aside0 (sig_Of.f k l0 (16 + a1 % 100) (1 + a1 % 8) = some (s, b, n, l, 0)) := ⟨hof⟩
  have HLL : Aside0 (l.length ≤ 1000000) := ⟨hl3⟩
  have HCK : Aside0 (sig_Check.f s b n l = some 0) := ⟨hck⟩
  have HCT : Aside0 (blocks_Count.f (l0.length : Int) b = some (l.length : Int)) := ⟨hct⟩
  have H := zA h
  have e1 : IntKind.i64.wrap a1 = a1 := by rw [i64_w]; have := HA.out; unfold wrap64; omega
  have e2 : IntKind.i64.wrap a2 = a2 := by rw [i64_w]; have := HA.out; unfold wrap64; omega
  have e3 : wrap64 a1 = a1 := by have := HA.out; unfold wrap64; omega
  have e4 : wrap64 a2 = a2 := by have := HA.out; unfold wrap64; omega
  have e5 : Int.tmod a1 100 = a1 % 100 := Int.tmod_eq_emod_of_nonneg (by have := HA.out; omega)
  have e6 : Int.tmod a1 8 = a1 % 8 := Int.tmod_eq_emod_of_nonneg (by have := HA.out; omega)
  clear hof hl3 hck hct h
  go_enter Try.func6, Try.ntmps6
  go_wp2_with fail
  refine (ix_of k (l0 := l0) rfl HR.out HC.out HOF.out).mono ?_
  rintro e w2 ⟨A, c, rfl, hR, hc, hb⟩
  have HB := zA (Below.refl w.heap.size w)
  have HR2 := zA hR
  have HC2 := zA hc
  replace HB := zA (zb5 HB.out hb)
  clear hb hR hc
  go_wp2_with (first | ((with_reducible refine gate_dst (N := 7) rfl ?_); refine box_event ?hg (N := 7) ?hd (cs := #[.int .i64 0, .int .i64 0, .int .i64 0, .slice none 0 0]) (t := 24) ?hr ?_; (case hd => rfl); (case hg => rfl); (case hr => first | (go_simp; done) | (go_simp; rfl)); intro gs hgs w3 hA hq; have HQ3 := zA hq; have HS0 := zA hA; have HGS := zA (show w2.heap.size ≤ gs by rw [hgs]; exact Nat.le_refl _); have hq0 := zc1 hA 0; have hf0 := zc5 hA 0; have hq1 := zc1 hA 1; have hf1 := zc5 hA 1; have hq2 := zc1 hA 2; have hf2 := zc5 hA 2; have hq3 := zc1 hA 3; have hf3 := zc5 hA 3; clear hA hq hgs))
  have HB3 : Aside0 (Below w2.heap.size w2 ((((w3.setCell ⟨gs, 0, none⟩ (.int .i64 s)).setCell ⟨gs, 1, none⟩ (.int .i64 b)).setCell ⟨gs, 2, none⟩ (.int .i64 n)).setCell ⟨gs, 3, none⟩ (.slice A l.length c))) := ⟨zb4 (zb4 (zb4 (zb4 HQ3.out HGS.out) HGS.out) HGS.out) HGS.out⟩
  have HS : Aside0 (LwS w ((((w3.setCell ⟨gs, 0, none⟩ (.int .i64 s)).setCell ⟨gs, 1, none⟩ (.int .i64 b)).setCell ⟨gs, 2, none⟩ (.int .i64 n)).setCell ⟨gs, 3, none⟩ (.slice A l.length c)) gs s b n A c l) := ⟨⟨blk_put (blk_put (blk_put (blk_put HS0.out 0 _ rfl) 1 _ rfl) 2 _ rfl) 3 _ rfl, Kd.C_below HR2.out HB3.out, zb5 HB.out HB3.out⟩⟩
  refine (ixis_new s b n A c l _ rfl HS.out.rd HC2.out HCK.out HLL.out).mono ?_
  rintro e w4 ⟨g, rfl, hx, hb⟩
  have HX := zA hx
  replace HS := zA (HS.out.step hb)
  clear hx hb hq0 hq1 hq2 hq3 hf0 hf1 hf2 hf3 HQ3 HS0 HB3 HGS HB
  have hc0 := HS.out.c0
  have hc1 := HS.out.c1
  have hc2 := HS.out.c2
  have hc3 := HS.out.c3
  obtain ⟨m, hm⟩ : ∃ m : Nat, m = l.length := ⟨_, rfl⟩
  have HM := zA hm
  rw [← hm] at hc3
  have HCT' : Aside0 (blocks_Count.f (l0.length : Int) b = some (m : Int)) := ⟨by rw [hm]; exact HCT.out⟩
  clear hm HCT e1 e3 e5 e6
  go_wp2_with fail
  refine start_ (n := 28) (S := fun w' => w'.cell? ⟨gs, 3, none⟩ = some (.slice A m c) ∧ w'.cell? ⟨gs, 1, none⟩ = some (.int .i64 b)) (ds := []) #[false, false, false, false, false, false, false, false, false, false, false, false, false, false, false, false, false, false, false, false, false, false, false, false, false, false, false, false] (by kernel_rfl) rfl rfl ⟨hc3, hc1⟩ (fun hHeld => ?_); refine with_tabW remoralaw07_IndexOwn.tab5 remoralaw07_IndexOwn.bits5 (fun HT_ HW_ => ?_)
  refine pure_ (i := 0) (N := some 48) (v := ?_) (a' := ?_) #[true, false, false, false, false, false, false, false, false, false, false, false, false, false, false, false, false, false, false, false, false, false, false, false, false, false, false, false] rfl rfl (any_of HT_.out (by kernel_rfl)) (fun _ _ _ h => h) (Or.inl ⟨by rfl, ?_⟩) ?_ ?_
  rotate_left
  ·intro w'
   go_simp
   with_reducible rfl
  rotate_left
  ·simp only [Act.put, zs1, zs2, zs3, i64_w, i32_w]
   rfl
  refine pure_ (i := 1) (N := some 49) (v := ?_) (a' := ?_) #[true, true, false, false, false, false, false, false, false, false, false, false, false, false, false, false, false, false, false, false, false, false, false, false, false, false, false, false] rfl rfl (any_of HT_.out (by kernel_rfl)) (fun _ _ _ h => h) (Or.inl ⟨by rfl, ?_⟩) ?_ ?_
  rotate_left
  ·intro w'
   go_simp
   with_reducible rfl
  rotate_left
  ·simp only [Act.put, zs1, zs2, zs3, i64_w, i32_w]
   rfl
  refine pure_ (i := 2) (N := some 50) (v := ?_) (a' := ?_) #[true, true, true, false, false, false, false, false, false, false, false, false, false, false, false, false, false, false, false, false, false, false, false, false, false, false, false, false] rfl rfl (any_of HT_.out (by kernel_rfl)) (fun _ _ _ h => h) (Or.inl ⟨by rfl, ?_⟩) ?_ ?_
  rotate_left
  ·intro w'
   go_simp
   with_reducible rfl
  rotate_left
  ·simp only [Act.put, zs1, zs2, zs3, i64_w, i32_w]
   rfl
  refine pure_ (i := 3) (N := some 51) (v := ?_) (a' := ?_) #[true, true, true, true, false, false, false, false, false, false, false, false, false, false, false, false, false, false, false, false, false, false, false, false, false, false, false, false] rfl rfl (any_of HT_.out (by kernel_rfl)) (fun _ _ _ h => h) (Or.inl ⟨by rfl, ?_⟩) ?_ ?_
  rotate_left
  ·intro w'
   go_simp
   with_reducible rfl
  rotate_left
  ·simp only [Act.put, zs1, zs2, zs3, i64_w, i32_w]
   rfl
  refine pure_ (i := 4) (N := some 52) (v := ?_) (a' := ?_) #[true, true, true, true, true, false, false, false, false, false, false, false, false, false, false, false, false, false, false, false, false, false, false, false, false, false, false, false] rfl rfl (any_of HT_.out (by kernel_rfl)) (fun _ _ _ h => h) (Or.inl ⟨by rfl, ?_⟩) ?_ ?_
  rotate_left
  ·intro w'
   go_simp
   with_reducible rfl
  rotate_left
  ·simp only [Act.put, zs1, zs2, zs3, i64_w, i32_w]
   rfl
  refine pure_ (i := 5) (N := some 53) (v := ?_) (a' := ?_) #[true, true, true, true, true, true, false, false, false, false, false, false, false, false, false, false, false, false, false, false, false, false, false, false, false, false, false, false] rfl rfl (any_of HT_.out (by kernel_rfl)) (fun _ _ _ h => h) (Or.inl ⟨by rfl, ?_⟩) ?_ ?_
  rotate_left
  ·intro w'
   go_simp
   with_reducible rfl
  rotate_left
  ·simp only [Act.put, zs1, zs2, zs3, i64_w, i32_w]
   rfl
  refine pure_ (i := 6) (N := some 54) (v := ?_) (a' := ?_) #[true, true, true, true, true, true, true, false, false, false, false, false, false, false, false, false, false, false, false, false, false, false, false, false, false, false, false, false] rfl rfl (any_of HT_.out (by kernel_rfl)) (fun _ _ _ h => h) (Or.inl ⟨by rfl, ?_⟩) ?_ ?_
  rotate_left
  ·intro w'
   go_simp
   with_reducible rfl
  rotate_left
  ·simp only [Act.put, zs1, zs2, zs3, i64_w, i32_w]
   rfl
  refine pure_ (i := 7) (N := some 55) (v := ?_) (a' := ?_) #[true, true, true, true, true, true, true, true, false, false, false, false, false, false, false, false, false, false, false, false, false, false, false, false, false, false, false, false] rfl rfl (any_of HT_.out (by kernel_rfl)) (fun _ _ _ h => h) (Or.inl ⟨by rfl, ?_⟩) ?_ ?_
  rotate_left
  ·intro w'
   go_simp
   with_reducible rfl
  rotate_left
  ·simp only [Act.put, zs1, zs2, zs3, i64_w, i32_w]
   rfl
  refine pure_ (i := 8) (N := some 56) (v := ?_) (a' := ?_) #[true, true, true, true, true, true, true, true, true, false, false, false, false, false, false, false, false, false, false, false, false, false, false, false, false, false, false, false] rfl rfl (any_of HT_.out (by kernel_rfl)) (fun _ _ _ h => h) (Or.inl ⟨by rfl, ?_⟩) ?_ ?_
  rotate_left
  ·intro w'
   go_simp
   with_reducible rfl
  rotate_left
  ·simp only [Act.put, zs1, zs2, zs3, i64_w, i32_w]
   rfl
  refine pure_ (i := 9) (N := some 57) (v := ?_) (a' := ?_) #[true, true, true, true, true, true, true, true, true, true, false, false, false, false, false, false, false, false, false, false, false, false, false, false, false, false, false, false] rfl rfl (any_of HT_.out (by kernel_rfl)) (fun _ _ _ h => h) (Or.inl ⟨by rfl, ?_⟩) ?_ ?_
  rotate_left
  ·intro w'
   go_simp
   with_reducible rfl
  rotate_left
  ·simp only [Act.put, zs1, zs2, zs3, i64_w, i32_w]
   rfl
  refine pure_ (i := 10) (N := some 58) (v := ?_) (a' := ?_) #[true, true, true, true, true, true, true, true, true, true, true, false, false, false, false, false, false, false, false, false, false, false, false, false, false, false, false, false] rfl rfl (any_of HT_.out (by kernel_rfl)) (fun _ _ _ h => h) (Or.inl ⟨by rfl, ?_⟩) ?_ ?_
  rotate_left
  ·intro w'
   go_simp
   with_reducible rfl
  rotate_left
  ·simp only [Act.put, zs1, zs2, zs3, i64_w, i32_w]
   rfl
  refine pure_ (i := 11) (N := some 59) (v := ?_) (a' := ?_) #[true, true, true, true, true, true, true, true, true, true, true, true, false, false, false, false, false, false, false, false, false, false, false, false, false, false, false, false] rfl rfl (any_of HT_.out (by kernel_rfl)) (fun _ _ _ h => h) (Or.inl ⟨by rfl, ?_⟩) ?_ ?_
  rotate_left
  ·intro w'
   go_simp
   with_reducible rfl
  rotate_left
  ·simp only [Act.put, zs1, zs2, zs3, i64_w, i32_w]
   rfl
  refine pure_ (i := 13) (N := some 61) (v := ?_) (a' := ?_) #[true, true, true, true, true, true, true, true, true, true, true, true, false, true, false, false, false, false, false, false, false, false, false, false, false, false, false, false] rfl rfl (any_of HT_.out (by kernel_rfl)) (fun _ _ _ h => h) (Or.inl ⟨by rfl, ?_⟩) ?_ ?_
  rotate_left
  ·intro w'
   go_simp
   with_reducible rfl
  rotate_left
  ·simp only [Act.put, zs1, zs2, zs3, i64_w, i32_w]
   rfl
  refine take_ (i := 14) (N := some 62) (v := ?_) (a' := ?_) #[true, true, true, true, true, true, true, true, true, true, true, true, false, true, true, false, false, false, false, false, false, false, false, false, false, false, false, false] rfl rfl (take_ofW HT_.out HW_.out (by kernel_rfl)) (fun _ _ _ h => h) (Or.inl ⟨by rfl, ?_⟩) hHeld ?_ ?_
  rotate_left
  ·rintro w' ⟨s0, s1⟩
   go_simp
   with_reducible rfl
  rotate_left
  ·simp only [Act.put, zs1, zs2, zs3, i64_w, i32_w]
   rfl
  refine pure_ (i := 15) (N := some 63) (v := ?_) (a' := ?_) #[true, true, true, true, true, true, true, true, true, true, true, true, false, true, true, true, false, false, false, false, false, false, false, false, false, false, false, false] rfl rfl (any_of HT_.out (by kernel_rfl)) (fun _ _ _ h => h) (Or.inl ⟨by rfl, ?_⟩) ?_ ?_
  rotate_left
  ·intro w'
   go_simp
   with_reducible rfl
  rotate_left
  ·simp only [Act.put, zs1, zs2, zs3, i64_w, i32_w]
   rfl
  refine one_ (i := 12) (N := some 60) #[true, true, true, true, true, true, true, true, true, true, true, true, true, true, true, true, false, false, false, false, false, false, false, false, false, false, false, false] rfl rfl (one_of HT_.out (by kernel_rfl)) (by decide) (fun K hK => ?_)
  refine goes_ Try.func20 (by kernel_rfl) rfl #[.pointer (some ⟨g, 0, none⟩)] (by rfl) rfl rfl (by (try simp only [zm1, zm2, zm3]); first | done | rfl) ?_
  have hcl := ixis_len (HX.out.below (zb2 (Below.refl w4.heap.size w4)))
  rw [← HM.out] at hcl
  refine hcl.mono ?_
  rintro e w5 ⟨rfl, hb⟩
  have hb5 : Below w4.heap.size w4 w5 := ⟨hb.os, hb.tape, hb.output, hb.size, hb.block⟩
  have hc3 := (hb5.cell (World.block_lt_of_cell? _ _ hc3)).trans hc3
  have hc1 := (hb5.cell (World.block_lt_of_cell? _ _ hc1)).trans hc1
  refine ⟨_, rfl, ?_⟩
  refine hK.out _ _ ⟨hc3, hc1⟩ (fun hHeld => ?_)
  clear hK K
  refine norm_ (a' := ?_) ?_ ?_
  rotate_left
  ·show Act.put _ (some 60) _ = _
   simp only [Act.put, zs1, zs2, zs3, i64_w, i32_w]
   rfl
  refine pure_ (i := 16) (N := some 64) (v := ?_) (a' := ?_) #[true, true, true, true, true, true, true, true, true, true, true, true, true, true, true, true, true, false, false, false, false, false, false, false, false, false, false, false] rfl rfl (any_of HT_.out (by kernel_rfl)) (fun _ _ _ h => h) (Or.inl ⟨by rfl, ?_⟩) ?_ ?_
  rotate_left
  ·intro w'
   go_simp
   with_reducible rfl
  rotate_left
  ·simp only [Act.put, zs1, zs2, zs3, i64_w, i32_w]
   rfl
  refine pure_ (i := 17) (N := some 65) (v := ?_) (a' := ?_) #[true, true, true, true, true, true, true, true, true, true, true, true, true, true, true, true, true, true, false, false, false, false, false, false, false, false, false, false] rfl rfl (any_of HT_.out (by kernel_rfl)) (fun _ _ _ h => h) (Or.inl ⟨by rfl, ?_⟩) ?_ ?_
  rotate_left
  ·intro w'
   go_simp
   with_reducible rfl
  rotate_left
  ·simp only [Act.put, zs1, zs2, zs3, i64_w, i32_w]
   rfl
  refine pure_ (i := 18) (N := some 66) (v := ?_) (a' := ?_) #[true, true, true, true, true, true, true, true, true, true, true, true, true, true, true, true, true, true, true, false, false, false, false, false, false, false, false, false] rfl rfl (any_of HT_.out (by kernel_rfl)) (fun _ _ _ h => h) (Or.inl ⟨by rfl, ?_⟩) ?_ ?_
  rotate_left
  ·intro w'
   go_simp
   with_reducible rfl
  rotate_left
  ·simp only [Act.put, zs1, zs2, zs3, i64_w, i32_w]
   rfl
  refine pure_ (i := 19) (N := some 67) (v := ?_) (a' := ?_) #[true, true, true, true, true, true, true, true, true, true, true, true, true, true, true, true, true, true, true, true, false, false, false, false, false, false, false, false] rfl rfl (any_of HT_.out (by kernel_rfl)) (fun _ _ _ h => h) (Or.inl ⟨by rfl, ?_⟩) ?_ ?_
  rotate_left
  ·intro w'
   go_simp
   with_reducible rfl
  rotate_left
  ·simp only [Act.put, zs1, zs2, zs3, i64_w, i32_w]
   rfl
  refine pure_ (i := 21) (N := some 69) (v := ?_) (a' := ?_) #[true, true, true, true, true, true, true, true, true, true, true, true, true, true, true, true, true, true, true, true, false, true, false, false, false, false, false, false] rfl rfl (any_of HT_.out (by kernel_rfl)) (fun _ _ _ h => h) (Or.inl ⟨by rfl, ?_⟩) ?_ ?_
  rotate_left
  ·intro w'
   go_simp
   with_reducible rfl
  rotate_left
  ·simp only [Act.put, zs1, zs2, zs3, i64_w, i32_w]
   rfl
  refine pure_ (i := 22) (N := some 70) (v := ?_) (a' := ?_) #[true, true, true, true, true, true, true, true, true, true, true, true, true, true, true, true, true, true, true, true, false, true, true, false, false, false, false, false] rfl rfl (any_of HT_.out (by kernel_rfl)) (fun _ _ _ h => h) (Or.inl ⟨by rfl, ?_⟩) ?_ ?_
  rotate_left
  ·intro w'
   go_simp
   with_reducible rfl
  rotate_left
  ·simp only [Act.put, zs1, zs2, zs3, i64_w, i32_w]
   rfl
  refine pure_ (i := 23) (N := some 71) (v := ?_) (a' := ?_) #[true, true, true, true, true, true, true, true, true, true, true, true, true, true, true, true, true, true, true, true, false, true, true, true, false, false, false, false] rfl rfl (any_of HT_.out (by kernel_rfl)) (fun _ _ _ h => h) (Or.inl ⟨by rfl, ?_⟩) ?_ ?_
  rotate_left
  ·intro w'
   go_simp
   with_reducible rfl
  rotate_left
  ·simp only [Act.put, zs1, zs2, zs3, i64_w, i32_w]
   rfl
  refine take_ (i := 24) (N := some 72) (v := ?_) (a' := ?_) #[true, true, true, true, true, true, true, true, true, true, true, true, true, true, true, true, true, true, true, true, false, true, true, true, true, false, false, false] rfl rfl (take_ofW HT_.out HW_.out (by kernel_rfl)) (fun _ _ _ h => h) (Or.inl ⟨by rfl, ?_⟩) hHeld ?_ ?_
  rotate_left
  ·rintro w' ⟨s0, s1⟩
   go_simp
   with_reducible rfl
  rotate_left
  ·simp only [Act.put, zs1, zs2, zs3, i64_w, i32_w]
   rfl
  refine one_ (i := 20) (N := some 68) #[true, true, true, true, true, true, true, true, true, true, true, true, true, true, true, true, true, true, true, true, true, true, true, true, true, false, false, false] rfl rfl (one_of HT_.out (by kernel_rfl)) (by decide) (fun K hK => ?_)
  refine goes_ Try.func20 (by kernel_rfl) rfl #[.pointer (some ⟨g, 0, none⟩)] (by rfl) rfl rfl (by (try simp only [zm1, zm2, zm3]); first | done | rfl) ?_
  have hcl := ixis_len (HX.out.below hb5)
  rw [← HM.out] at hcl
  refine hcl.mono ?_
  rintro e w6 ⟨rfl, hb⟩
  have hb6 : Below w5.heap.size w5 w6 := ⟨hb.os, hb.tape, hb.output, hb.size, hb.block⟩
  have hc3 := (hb6.cell (World.block_lt_of_cell? _ _ hc3)).trans hc3
  have hc1 := (hb6.cell (World.block_lt_of_cell? _ _ hc1)).trans hc1
  refine ⟨_, rfl, ?_⟩
  refine hK.out _ _ ⟨hc3, hc1⟩ (fun hHeld => ?_)
  clear hK K
  refine norm_ (a' := ?_) ?_ ?_
  rotate_left
  ·show Act.put _ (some 68) _ = _
   simp only [Act.put, zs1, zs2, zs3, i64_w, i32_w]
   rfl
  refine one_ (i := 25) (N := some 73) #[true, true, true, true, true, true, true, true, true, true, true, true, true, true, true, true, true, true, true, true, true, true, true, true, true, true, false, false] rfl rfl (one_of HT_.out (by kernel_rfl)) (by decide) (fun K hK => ?_)
  refine goes_ Try.func24 (by kernel_rfl) rfl #[.int .i64 (l0.length : Int), .int .i64 b] (by rfl) rfl rfl (by (try simp only [zm1, zm2, zm3]); first | done | rfl) ?_
  refine (blocks_Count.calls (l0.length : Int) b (m : Int) _ HCT'.out).mono ?_
  rintro e w7 ⟨rfl, hb⟩
  have hb7 : Below w6.heap.size w6 w7 := hb.below
  have hc3 := (hb7.cell (World.block_lt_of_cell? _ _ hc3)).trans hc3
  have hc1 := (hb7.cell (World.block_lt_of_cell? _ _ hc1)).trans hc1
  refine ⟨_, rfl, ?_⟩
  refine hK.out _ _ ⟨hc3, hc1⟩ (fun hHeld => ?_)
  clear hK K
  refine norm_ (a' := ?_) ?_ ?_
  rotate_left
  ·show Act.put _ (some 73) _ = _
   simp only [Act.put, zs1, zs2, zs3, i64_w, i32_w]
   rfl
  refine pure_ (i := 26) (N := some 74) (v := ?_) (a' := ?_) #[true, true, true, true, true, true, true, true, true, true, true, true, true, true, true, true, true, true, true, true, true, true, true, true, true, true, true, false] rfl rfl (any_of HT_.out (by kernel_rfl)) (fun _ _ _ h => h) (Or.inl ⟨by rfl, ?_⟩) ?_ ?_
  rotate_left
  ·intro w'
   go_simp
   with_reducible rfl
  rotate_left
  ·simp only [Act.put, zs1, zs2, zs3, i64_w, i32_w]
   rfl
  refine pure_ (i := 27) (N := some 75) (v := ?_) (a' := ?_) #[true, true, true, true, true, true, true, true, true, true, true, true, true, true, true, true, true, true, true, true, true, true, true, true, true, true, true, true] rfl rfl (any_of HT_.out (by kernel_rfl)) (fun _ _ _ h => h) (Or.inl ⟨by rfl, ?_⟩) ?_ ?_
  rotate_left
  ·intro w'
   go_simp
   with_reducible rfl
  rotate_left
  ·simp only [Act.put, zs1, zs2, zs3, i64_w, i32_w]
   rfl
  refine done_ (done_of HT_.out (by kernel_rfl)) ?_
  have HX7 := zA (((HX.out.below hb5).below hb6).below hb7)
  have HS7 := zA (((HS.out.step hb5).step hb6).step hb7)
  clear hb5 hb6 hb7 HT_ HW_ hHeld hc0 hc1 hc2 hc3 HX HS HCT'
  have hc3 := HS7.out.c3
  rw [← HM.out] at hc3
  by_cases h0 : m = 0
  ·have h := H.out
   rw [if_pos (show l.length = 0 by rw [← HM.out]; exact h0)] at h
   obtain ⟨L, hfd, h2⟩ := ob_ h
   clear h
   obtain ⟨hL, h⟩ := oi_ h2
   clear h2
   have HFD : Aside0 (index_Index_Find.f k l s b (ixChains l) 0 = some L) := ⟨hfd⟩
   have HAW := zA h
   have b1 : ((m : Int) == 0) = true := by rw [h0]; rfl
   have b2 : ((L.length : Int) == 0) = true := by rw [hL]; rfl
   clear hfd hL h h0 H
   go_wp2_with fail
   refine (ixis_find HX7.out HFD.out).mono ?_
   rintro e w8 ⟨A1, c1, rfl, hr1, hl1, hb⟩
   have HS := zA (HS7.out.step hb)
   clear hb hr1 hl1 hc3
   go_wp2_with fail
   refine (remoralaw07_awake.calls k r _ HAW.out).mono ?_
   rintro e wz ⟨rfl, hb⟩
   replace HS := zA (HS.out.step hb)
   clear hb
   go_wp2_with fail
   go_ret
   exact ⟨rfl, HS.out.bl⟩
  ·have h := H.out
   rw [if_neg (show ¬ l.length = 0 by rw [← HM.out]; exact h0), ← HM.out] at h
   have hm0 : 0 < m := by omega
   obtain ⟨K, hK⟩ : ∃ K : Nat, K = a2.toNat % m := ⟨_, rfl⟩
   have hKm : K < m := by rw [hK]; exact Nat.mod_lt _ hm0
   rw [← hK] at h
   obtain ⟨⟨q1, q2, q3⟩, hrg, h2⟩ := ob_ h
   clear h
   obtain ⟨L, hfd, h3⟩ := ob_ h2
   clear h2
   obtain ⟨⟨p1, p2⟩, hp1, h2⟩ := ob_ h3
   clear h3
   obtain ⟨⟨t1, t2⟩, hp2, h3⟩ := ob_ h2
   clear h2
   obtain ⟨⟨u1, u2, u3⟩, hrg2, h2⟩ := ob_ h3
   clear h3
   obtain ⟨⟨hL6, hown, hpK, ht2, ht0, htK, hf0, hf1, hlen⟩, h⟩ := oi_ h2
   clear h2
   obtain ⟨rfl, rfl⟩ : p1 = (K : Int) ∧ p2 = true := by simpa using hpK
   obtain rfl : t2 = true := ht2
   obtain ⟨any, rfl⟩ : ∃ any : Nat, t1 = (any : Int) := ⟨t1.toNat, by omega⟩
   have e9 : Int.tmod a2 (m : Int) = (K : Int) := by rw [Int.tmod_eq_emod_of_nonneg HA.out.2.2.1, hK]; first | rw [Int.natCast_emod, Int.toNat_of_nonneg HA.out.2.2.1] | (simp [Int.toNat_of_nonneg HA.out.2.2.1])
   obtain ⟨wk, hwk⟩ : ∃ wk, wk = (rd_T44 l (K : Int)).f0 := ⟨_, rfl⟩
   obtain ⟨st, hst⟩ : ∃ st, st = (rd_T44 l (K : Int)).f1 := ⟨_, rfl⟩
   rw [← hwk] at hfd hp1 hp2 hf0
   rw [← hst] at hp1 hp2 hf1
   have HRG : Aside0 (blocks_Range.f s b (K : Int) = some (q1, q2, q3)) := ⟨hrg⟩
   have HFD : Aside0 (index_Index_Find.f k l s b (ixChains l) wk = some L) := ⟨hfd⟩
   have HP1 : Aside0 (index_Index_Pick.f k l s b (ixChains l) wk st (wrap64 (q2 - q1)) (K : Int) = some ((K : Int), true)) := ⟨hp1⟩
   have HP2 : Aside0 (index_Index_Pick.f k l s b (ixChains l) wk st (wrap64 (q2 - q1)) (-1) = some ((any : Int), true)) := ⟨hp2⟩
   have HRG2 : Aside0 (blocks_Range.f s b (any : Int) = some (u1, u2, u3)) := ⟨hrg2⟩
   have HOWN := zA hown
   have HL6 := zA hL6
   have HANY := zA (show any ≤ K by omega)
   have HF := zA (And.intro hf0 (And.intro hf1 hlen))
   have HKM := zA (And.intro hKm (And.intro hwk hst))
   have HAW := zA h
   have b1 : ((m : Int) == 0) = false := beq_eq_false_iff_ne.2 (by omega)
   have b0 := eq_false (show ¬ (m : Int) = 0 by omega)
   have b3 := eq_false (show ¬ m = 0 by omega)
   obtain ⟨ad, ead, hx0, hx1⟩ := at_T44 HS7.out.rd (K : Int) (by omega) (by rw [← HM.out]; omega)
   cases ead
   rw [Int.toNat_natCast, ← hwk] at hx0
   rw [Int.toNat_natCast, ← hst] at hx1
   have p0 := eq_true (show (K : Int) < (m : Int) by omega)
   have p1' := eq_true hKm
   have o0 := eq_true (show (0 : Int) ≤ (K : Int) by omega)
   clear hrg hfd hp1 hp2 hrg2 hown hL6 hpK ht0 htK hf0 hf1 hlen h hwk hst hK hm0 h0 H hKm
   go_wp2_with (first | ((with_reducible refine gate_dst (N := 12) rfl ?_); refine box_event ?hg (N := 12) ?hd (cs := #[.int .u32 0, .string ⟨#[]⟩]) (t := 44) ?hr ?_; (case hd => rfl); (case hg => rfl); (case hr => first | (go_simp; done) | (go_simp; rfl)); intro gm hgm w9 hA hq; have HQ := zA (show Below w7.heap.size w7 w9 from ⟨hq.os, hq.tape, hq.output, hq.size, hq.block⟩); have HA9 := zA hA; have HG9 := zA (show w7.heap.size ≤ gm by rw [hgm]; exact Nat.le_refl _); have hq0 := zc1 hA 0; have hq1 := zc1 hA 1; have hf0 := zc5 hA 0; have hf1 := zc5 hA 1; have HS9 := zA (HS7.out.step HQ.out); have hk0 := HS9.out.c0; have hk1 := HS9.out.c1; have nn1 := (ix_ne (blk_lt HS7.out.bs) HG9.out).1; have nn2 := (ix_ne (blk_lt HS7.out.bs) HG9.out).2; clear hA hq hgm))
   have HBM : Aside0 (Below w7.heap.size w7 ((w9.setCell ⟨gm, 0, none⟩ (.int .u32 wk)).setCell ⟨gm, 1, none⟩ (.string st))) := ⟨zb4 (zb4 HQ.out HG9.out) HG9.out⟩
   have HM9 : Aside0 (((w9.setCell ⟨gm, 0, none⟩ (.int .u32 wk)).setCell ⟨gm, 1, none⟩ (.string st)).heap[gm]? = some (.cells #[.int .u32 wk, .string st] 44 (0, 0))) := ⟨blk_put (blk_put HA9.out 0 _ rfl) 1 _ rfl⟩
   replace HX := zA (HX7.out.below HBM.out)
   replace HS := zA (HS7.out.step HBM.out)
   refine (blocks_Range.calls s b (K : Int) q1 q2 q3 _ HRG.out).mono ?_
   rintro e w10 ⟨rfl, hb⟩
   replace HX := zA (HX.out.below hb)
   replace HS := zA (HS.out.step hb)
   replace HM9 := zA (zc6 HM9.out hb)
   clear hb
   try clear hc0 hc1 hc3 hm0 hm1
   have hc0 := HS.out.c0
   have hc1 := HS.out.c1
   have hc3 := HS.out.c3
   rw [← HM.out] at hc3
   have hm0 := (zc1 HM9.out 0).trans rfl
   have hm1 := (zc1 HM9.out 1).trans rfl
   clear HQ HA9 HG9 HS9 hk0 hk1 nn1 nn2 HBM HX7 HS7 hq0 hq1 hf0 hf1 hx0 hx1
   go_wp2_with fail
   refine (ixis_find HX.out HFD.out).mono ?_
   rintro e w11 ⟨A1, c1, rfl, hr1, hl1, hb⟩
   replace HX := zA (HX.out.below hb)
   replace HS := zA (HS.out.step hb)
   replace HM9 := zA (zc6 HM9.out hb)
   clear hb
   try clear hc0 hc1 hc3 hm0 hm1
   have hc0 := HS.out.c0
   have hc1 := HS.out.c1
   have hc3 := HS.out.c3
   rw [← HM.out] at hc3
   have hm0 := (zc1 HM9.out 0).trans rfl
   have hm1 := (zc1 HM9.out 1).trans rfl
   obtain ⟨ln, hln⟩ : ∃ ln : Nat, ln = L.length := ⟨_, rfl⟩
   have HLN := zA hln
   rw [← hln] at hr1 hl1 ⊢
   have HR1 := zA hr1
   clear hr1 hl1 hln
   go_wp2_with fail
   go_loopg [17, 18] (ln + 1) (fun kq v17 v18 w' => ∃ i : Nat, v17 = .bool ((L.take i).any fun x => x == (K : Int)) ∧ v18 = .int .i64 (i : Int) ∧ Aside0 (i + kq = ln + 1 ∧ i ≤ ln) ∧ Aside0 (IxIs w' g l s b) ∧ Aside0 (LwS w w' gs s b n (some ad) c l) ∧ Aside0 (w'.heap[gm]? = some (.cells #[.int .u32 wk, .string st] 44 (0, 0))) ∧ Aside0 (Kd.C (Kd.int .i64) w' A1 ln L))
   case atStart => exact ⟨0, rfl, rfl, ⟨by omega, by omega⟩, HX, HS, HM9, HR1⟩
   case round =>
    clear HX HS HM9 HR1 hc0 hc1 hc3 hm0 hm1
    obtain ⟨i, rfl, rfl, HK, HX, HS, HM9, HR1⟩ := hrel
    have hc0 := HS.out.c0
    have hc1 := HS.out.c1
    have hc3 := HS.out.c3
    rw [← HM.out] at hc3
    have hm0 := (zc1 HM9.out 0).trans rfl
    have hm1 := (zc1 HM9.out 1).trans rfl
    obtain ⟨inn, hinn⟩ : ∃ inn, inn = (L.take i).any fun x => x == (K : Int) := ⟨_, rfl⟩
    rw [← hinn]
    have HINN := zA hinn
    clear hinn
    by_cases hlt : i < ln
    ·obtain ⟨k1, rfl⟩ : ∃ k1, gk = k1 + 1 := ⟨gk - 1, by have := HK.out.1; omega⟩
     have HL := zA hlt
     have d1 : decide ((i : Int) < (ln : Int)) = true := zd1 (by omega)
     have d2 : decide (i < ln) = true := zd1 hlt
     have p2 := eq_true (show (i : Int) < (ln : Int) by omega)
     have p3 := eq_true hlt
     have o1 := eq_true (show (0 : Int) ≤ (i : Int) by omega)
     have hO := HOWN.out
     unfold ownL at hO
     rw [Bool.and_eq_true, decide_eq_true_eq] at hO
     obtain ⟨y0, y1, y2, y3⟩ := hO.1 i (by rw [← HLN.out]; exact hlt)
     obtain ⟨adL, eadL, hz0⟩ := Kd.at_int HR1.out (i : Int) (by omega) (by omega)
     cases eadL
     obtain ⟨xi, hxi⟩ : ∃ xi : Nat, rd L (i : Int) = (xi : Int) := ⟨(rd L (i : Int)).toNat, by omega⟩
     rw [hxi] at hz0 y1 y2 y3
     try rw [Int.toNat_natCast] at hz0
     have hxm : xi < m := by rw [HM.out]; omega
     obtain ⟨ad', ead', hv0, _⟩ := at_T44 HS.out.rd (xi : Int) (by omega) (by omega)
     cases ead'
     rw [y2, ← HKM.out.2.1, Int.toNat_natCast] at hv0
     have HXI := zA hxi
     have s0 := eq_true (show (0 : Int) ≤ (xi : Int) by omega)
     have s1 := eq_true (show (xi : Int) < (m : Int) by omega)
     have s2 := eq_true hxm
     have s3 : decide ((xi : Int) < 0) = false := zd2 (by omega)
     have s4 : decide ((m : Int) ≤ (xi : Int)) = false := zd2 (by omega)
     have s5 : decide (m ≤ xi) = false := zd2 (by omega)
     have s6 : (wk != wk) = false := by simp
     by_cases hi0 : i = 0
     ·subst hi0
      clear y0 y1 y2 y3 hO hxi hlt hxm
      have hz1 : wr.cell? adL = some (.int .i64 (xi : Int)) := hz0
      go_wp2_with fail
      go_quiet (fail)
      cases inn with
      | true =>
       go_wp2_with fail
       try rw [show wrap64 (((0 : Nat) : Int) + 1) = ((0 + 1 : Nat) : Int) by have := HL6.out; have := HL.out; have := HLN.out; unfold wrap64; omega]
       go_roundg k1
       case measure => have := HK.out.1; omega
       case rel => exact ⟨0 + 1, by rw [own_any L _ (by rw [← HLN.out]; exact HL.out), ← HINN.out, Bool.true_or], rfl, ⟨by have := HK.out.1; omega, by have := HL.out; omega⟩, ⟨HX.out.below (zb1 (Below.refl _ _) _)⟩, ⟨HS.out.step (zb1 (Below.refl _ _) _)⟩, ⟨zc3 HM9.out _⟩, ⟨Kd.C_below HR1.out (zb1 (Below.refl _ _) _)⟩⟩
      | false =>
       go_wp2_with fail
       try rw [show wrap64 (((0 : Nat) : Int) + 1) = ((0 + 1 : Nat) : Int) by have := HL6.out; have := HL.out; have := HLN.out; unfold wrap64; omega]
       go_roundg k1
       case measure => have := HK.out.1; omega
       case rel => exact ⟨0 + 1, by rw [own_any L _ (by rw [← HLN.out]; exact HL.out), ← HINN.out, Bool.false_or, HXI.out], rfl, ⟨by have := HK.out.1; omega, by have := HL.out; omega⟩, ⟨HX.out.below (zb1 (Below.refl _ _) _)⟩, ⟨HS.out.step (zb1 (Below.refl _ _) _)⟩, ⟨zc3 HM9.out _⟩, ⟨Kd.C_below HR1.out (zb1 (Below.refl _ _) _)⟩⟩
     ·obtain ⟨i1, hi1⟩ : ∃ i1 : Nat, i = i1 + 1 := ⟨i - 1, by omega⟩
      have y4 := y3 (by omega)
      obtain ⟨z0, z1, z2, _⟩ := hO.1 i1 (by rw [← HLN.out]; omega)
      rw [show ((i : Int) - 1) = (i1 : Int) by omega] at y4
      obtain ⟨yi, hyi⟩ : ∃ yi : Nat, rd L (i1 : Int) = (yi : Int) := ⟨(rd L (i1 : Int)).toNat, by omega⟩
      obtain ⟨adM, eadM, hz1⟩ := Kd.at_int HR1.out (i1 : Int) (by omega) (by omega)
      cases eadM
      rw [hyi] at hz1 y4
      try rw [Int.toNat_natCast] at hz1
      have e1 : wrap64 ((i : Int) - 1) = (i1 : Int) := by have := HL6.out; have := HLN.out; unfold wrap64; omega
      have t0 := eq_true (show (0 : Int) ≤ (i1 : Int) by omega)
      have t1 := eq_true (show (i1 : Int) < (ln : Int) by omega)
      have t2 := eq_true (show i1 < ln by omega)
      have t3 : decide ((0 : Int) < (i : Int)) = true := zd1 (by omega)
      have t4 : decide (0 < i) = true := zd1 (by omega)
      have t5 : decide ((xi : Int) ≤ (yi : Int)) = false := zd2 (by omega)
      have t6 : decide (xi ≤ yi) = false := zd2 (by omega)
      clear y0 y1 y2 y3 y4 z0 z1 z2 hO hxi hyi hlt hxm hi1 hi0
      go_wp2_with fail
      go_quiet (fail)
      cases inn with
      | true =>
       go_wp2_with fail
       rw [show wrap64 ((i : Int) + 1) = ((i + 1 : Nat) : Int) by have := HL6.out; have := HL.out; have := HLN.out; unfold wrap64; omega]
       go_roundg k1
       case measure => have := HK.out.1; omega
       case rel => exact ⟨i + 1, by rw [own_any L _ (by rw [← HLN.out]; exact HL.out), ← HINN.out, Bool.true_or], rfl, ⟨by have := HK.out.1; omega, by have := HL.out; omega⟩, ⟨HX.out.below (zb1 (Below.refl _ _) _)⟩, ⟨HS.out.step (zb1 (Below.refl _ _) _)⟩, ⟨zc3 HM9.out _⟩, ⟨Kd.C_below HR1.out (zb1 (Below.refl _ _) _)⟩⟩
      | false =>
       go_wp2_with fail
       rw [show wrap64 ((i : Int) + 1) = ((i + 1 : Nat) : Int) by have := HL6.out; have := HL.out; have := HLN.out; unfold wrap64; omega]
       go_roundg k1
       case measure => have := HK.out.1; omega
       case rel => exact ⟨i + 1, by rw [own_any L _ (by rw [← HLN.out]; exact HL.out), ← HINN.out, Bool.false_or, HXI.out], rfl, ⟨by have := HK.out.1; omega, by have := HL.out; omega⟩, ⟨HX.out.below (zb1 (Below.refl _ _) _)⟩, ⟨HS.out.step (zb1 (Below.refl _ _) _)⟩, ⟨zc3 HM9.out _⟩, ⟨Kd.C_below HR1.out (zb1 (Below.refl _ _) _)⟩⟩
    ·have hme : ln = i := by have := HK.out.2; omega
     subst hme
     have d1 : decide ((ln : Int) < (ln : Int)) = false := zd2 (by omega)
     have d2 : decide (ln < ln) = false := zd2 (by omega)
     have hin : inn = true := by
      have hO := HOWN.out
      unfold ownL at hO
      rw [Bool.and_eq_true] at hO
      rw [HINN.out, HLN.out, List.take_length]
      exact hO.2
     subst hin
     have hKK : ((K : Int) != (K : Int)) = false := by simp
     have g0 : decide ((any : Int) < 0) = false := zd2 (by omega)
     have g1 : decide ((K : Int) < (any : Int)) = false := zd2 (by have := HANY.out; omega)
     have g2 : decide (K < any) = false := zd2 (by have := HANY.out; omega)
     clear HK hlt HR1 HINN
     go_wp2_with fail
     refine (ixis_pick HX.out HP1.out).mono ?_
     rintro e w12 ⟨rfl, hb⟩
     replace HX := zA (HX.out.below hb)
     replace HS := zA (HS.out.step hb)
     replace HM9 := zA (zc6 HM9.out hb)
     clear hb
     try clear hc0 hc1 hc3 hm0 hm1
     have hc0 := HS.out.c0
     have hc1 := HS.out.c1
     have hc3 := HS.out.c3
     rw [← HM.out] at hc3
     have hm0 := (zc1 HM9.out 0).trans rfl
     have hm1 := (zc1 HM9.out 1).trans rfl
     go_wp2_with fail
     refine (ixis_pick HX.out HP2.out).mono ?_
     rintro e w13 ⟨rfl, hb⟩
     replace HX := zA (HX.out.below hb)
     replace HS := zA (HS.out.step hb)
     replace HM9 := zA (zc6 HM9.out hb)
     clear hb
     try clear hc0 hc1 hc3 hm0 hm1
     have hc0 := HS.out.c0
     have hc1 := HS.out.c1
     have hc3 := HS.out.c3
     rw [← HM.out] at hc3
     have hm0 := (zc1 HM9.out 0).trans rfl
     have hm1 := (zc1 HM9.out 1).trans rfl
     go_wp2_with fail
     refine (blocks_Range.calls s b (any : Int) u1 u2 u3 _ HRG2.out).mono ?_
     rintro e w14 ⟨rfl, hb⟩
     replace HX := zA (HX.out.below hb)
     replace HS := zA (HS.out.step hb)
     replace HM9 := zA (zc6 HM9.out hb)
     clear hb
     try clear hc0 hc1 hc3 hm0 hm1
     have hc0 := HS.out.c0
     have hc1 := HS.out.c1
     have hc3 := HS.out.c3
     rw [← HM.out] at hc3
     have hm0 := (zc1 HM9.out 0).trans rfl
     have hm1 := (zc1 HM9.out 1).trans rfl
     go_wp2_with fail
     obtain ⟨ad', ead', hv0, hv1⟩ := at_T44 HS.out.rd (any : Int) (by omega) (by have := HANY.out; have := HKM.out.1; rw [← HM.out]; omega)
     cases ead'
     rw [Int.toNat_natCast, HF.out.1] at hv0
     rw [Int.toNat_natCast, HF.out.2.1] at hv1
     have v0 := eq_true (show (0 : Int) ≤ (any : Int) by omega)
     have v1 := eq_true (show (any : Int) < (m : Int) by have := HANY.out; have := HKM.out.1; omega)
     have v2 := eq_true (show any < m by have := HANY.out; have := HKM.out.1; omega)
     have v3 : (wrap64 (u2 - u1) == wrap64 (q2 - q1)) = true := by rw [HF.out.2.2]; exact beq_self_eq_true _
     clear hc0 hc1
     refine start_ (n := 20) (S := fun w' => w'.cell? ⟨gs, 3, none⟩ = some (.slice (some ad) m c) ∧ w'.cell? (ad.add (any * 2)) = some (.int .u32 wk) ∧ w'.cell? ⟨(ad.add (any * 2)).block, (ad.add (any * 2)).off + 1, none⟩ = some (.string st) ∧ w'.cell? ⟨gm, 0, none⟩ = some (.int .u32 wk) ∧ w'.cell? ⟨gm, 1, none⟩ = some (.string st)) (ds := []) #[false, false, false, false, false, false, false, false, false, false, false, false, false, false, false, false, false, false, false, false] (by kernel_rfl) rfl rfl ⟨hc3, hv0, hv1, hm0, hm1⟩ (fun hHeld => ?_); refine with_tabW remoralaw07_IndexOwn.tab25 remoralaw07_IndexOwn.bits25 (fun HT_ HW_ => ?_)
     refine pure_ (i := 0) (N := some 231) (v := ?_) (a' := ?_) #[true, false, false, false, false, false, false, false, false, false, false, false, false, false, false, false, false, false, false, false] rfl rfl (any_of HT_.out (by kernel_rfl)) (fun _ _ _ h => h) (Or.inl ⟨by rfl, ?_⟩) ?_ ?_
     rotate_left
     ·intro w'
      go_simp
      with_reducible rfl
     rotate_left
     ·simp only [Act.put, zs1, zs2, zs3, i64_w, i32_w]
      rfl
     refine pure_ (i := 2) (N := some 233) (v := ?_) (a' := ?_) #[true, false, true, false, false, false, false, false, false, false, false, false, false, false, false, false, false, false, false, false] rfl rfl (any_of HT_.out (by kernel_rfl)) (fun _ _ _ h => h) (Or.inl ⟨by rfl, ?_⟩) ?_ ?_
     rotate_left
     ·intro w'
      go_simp
      with_reducible rfl
     rotate_left
     ·simp only [Act.put, zs1, zs2, zs3, i64_w, i32_w]
      rfl
     refine take_ (i := 1) (N := some 232) (v := ?_) (a' := ?_) #[true, true, true, false, false, false, false, false, false, false, false, false, false, false, false, false, false, false, false, false] rfl rfl (take_ofW HT_.out HW_.out (by kernel_rfl)) (fun _ _ _ h => h) (Or.inl ⟨by rfl, ?_⟩) hHeld ?_ ?_
     rotate_left
     ·rintro w' ⟨s0, s1, s2, s3, s4⟩
      go_simp
      with_reducible rfl
     rotate_left
     ·simp only [Act.put, zs1, zs2, zs3, i64_w, i32_w]
      rfl
     refine pure_ (i := 3) (N := some 234) (v := ?_) (a' := ?_) #[true, true, true, true, false, false, false, false, false, false, false, false, false, false, false, false, false, false, false, false] rfl rfl (any_of HT_.out (by kernel_rfl)) (fun _ _ _ h => h) (Or.inl ⟨by rfl, ?_⟩) ?_ ?_
     rotate_left
     ·intro w'
      go_simp
      with_reducible rfl
     rotate_left
     ·simp only [Act.put, zs1, zs2, zs3, i64_w, i32_w]
      rfl
     refine take_ (i := 4) (N := some 235) (v := ?_) (a' := ?_) #[true, true, true, true, true, false, false, false, false, false, false, false, false, false, false, false, false, false, false, false] rfl rfl (take_ofW HT_.out HW_.out (by kernel_rfl)) (fun _ _ _ h => h) (Or.inl ⟨by rfl, ?_⟩) hHeld ?_ ?_
     rotate_left
     ·rintro w' ⟨s0, s1, s2, s3, s4⟩
      go_simp
      with_reducible rfl
     rotate_left
     ·simp only [Act.put, zs1, zs2, zs3, i64_w, i32_w]
      rfl
     refine take_ (i := 5) (N := some 236) (v := ?_) (a' := ?_) #[true, true, true, true, true, true, false, false, false, false, false, false, false, false, false, false, false, false, false, false] rfl rfl (take_ofW HT_.out HW_.out (by kernel_rfl)) (fun _ _ _ h => h) (Or.inl ⟨by rfl, ?_⟩) hHeld ?_ ?_
     rotate_left
     ·rintro w' ⟨s0, s1, s2, s3, s4⟩
      go_simp
      with_reducible rfl
     rotate_left
     ·simp only [Act.put, zs1, zs2, zs3, i64_w, i32_w]
      rfl
     refine pure_ (i := 6) (N := some 237) (v := ?_) (a' := ?_) #[true, true, true, true, true, true, true, false, false, false, false, false, false, false, false, false, false, false, false, false] rfl rfl (any_of HT_.out (by kernel_rfl)) (fun _ _ _ h => h) (Or.inl ⟨by rfl, ?_⟩) ?_ ?_
     rotate_left
     ·intro w'
      go_simp
      with_reducible rfl
     rotate_left
     ·simp only [Act.put, zs1, zs2, zs3, i64_w, i32_w]
      rfl
     refine pure_ (i := 7) (N := some 238) (v := ?_) (a' := ?_) #[true, true, true, true, true, true, true, true, false, false, false, false, false, false, false, false, false, false, false, false] rfl rfl (any_of HT_.out (by kernel_rfl)) (fun _ _ _ h => h) (Or.inl ⟨by rfl, ?_⟩) ?_ ?_
     rotate_left
     ·intro w'
      go_simp
      with_reducible rfl
     rotate_left
     ·simp only [Act.put, zs1, zs2, zs3, i64_w, i32_w]
      rfl
     refine pure_ (i := 8) (N := some 239) (v := ?_) (a' := ?_) #[true, true, true, true, true, true, true, true, true, false, false, false, false, false, false, false, false, false, false, false] rfl rfl (any_of HT_.out (by kernel_rfl)) (fun _ _ _ h => h) (Or.inl ⟨by rfl, ?_⟩) ?_ ?_
     rotate_left
     ·intro w'
      go_simp
      with_reducible rfl
     rotate_left
     ·simp only [Act.put, zs1, zs2, zs3, i64_w, i32_w]
      rfl
     refine pure_ (i := 9) (N := some 240) (v := ?_) (a' := ?_) #[true, true, true, true, true, true, true, true, true, true, false, false, false, false, false, false, false, false, false, false] rfl rfl (any_of HT_.out (by kernel_rfl)) (fun _ _ _ h => h) (Or.inl ⟨by rfl, ?_⟩) ?_ ?_
     rotate_left
     ·intro w'
      go_simp
      with_reducible rfl
     rotate_left
     ·simp only [Act.put, zs1, zs2, zs3, i64_w, i32_w]
      rfl
     refine pure_ (i := 10) (N := some 241) (v := ?_) (a' := ?_) #[true, true, true, true, true, true, true, true, true, true, true, false, false, false, false, false, false, false, false, false] rfl rfl (any_of HT_.out (by kernel_rfl)) (fun _ _ _ h => h) (Or.inl ⟨by rfl, ?_⟩) ?_ ?_
     rotate_left
     ·intro w'
      go_simp
      with_reducible rfl
     rotate_left
     ·simp only [Act.put, zs1, zs2, zs3, i64_w, i32_w]
      rfl
     refine pure_ (i := 11) (N := some 242) (v := ?_) (a' := ?_) #[true, true, true, true, true, true, true, true, true, true, true, true, false, false, false, false, false, false, false, false] rfl rfl (any_of HT_.out (by kernel_rfl)) (fun _ _ _ h => h) (Or.inl ⟨by rfl, ?_⟩) ?_ ?_
     rotate_left
     ·intro w'
      go_simp
      with_reducible rfl
     rotate_left
     ·simp only [Act.put, zs1, zs2, zs3, i64_w, i32_w]
      rfl
     refine pure_ (i := 12) (N := some 243) (v := ?_) (a' := ?_) #[true, true, true, true, true, true, true, true, true, true, true, true, true, false, false, false, false, false, false, false] rfl rfl (any_of HT_.out (by kernel_rfl)) (fun _ _ _ h => h) (Or.inl ⟨by rfl, ?_⟩) ?_ ?_
     rotate_left
     ·intro w'
      go_simp
      with_reducible rfl
     rotate_left
     ·simp only [Act.put, zs1, zs2, zs3, i64_w, i32_w]
      rfl
     refine pure_ (i := 13) (N := some 244) (v := ?_) (a' := ?_) #[true, true, true, true, true, true, true, true, true, true, true, true, true, true, false, false, false, false, false, false] rfl rfl (any_of HT_.out (by kernel_rfl)) (fun _ _ _ h => h) (Or.inl ⟨by rfl, ?_⟩) ?_ ?_
     rotate_left
     ·intro w'
      go_simp
      with_reducible rfl
     rotate_left
     ·simp only [Act.put, zs1, zs2, zs3, i64_w, i32_w]
      rfl
     refine pure_ (i := 14) (N := some 245) (v := ?_) (a' := ?_) #[true, true, true, true, true, true, true, true, true, true, true, true, true, true, true, false, false, false, false, false] rfl rfl (any_of HT_.out (by kernel_rfl)) (fun _ _ _ h => h) (Or.inl ⟨by rfl, ?_⟩) ?_ ?_
     rotate_left
     ·intro w'
      go_simp
      with_reducible rfl
     rotate_left
     ·simp only [Act.put, zs1, zs2, zs3, i64_w, i32_w]
      rfl
     refine pure_ (i := 15) (N := some 246) (v := ?_) (a' := ?_) #[true, true, true, true, true, true, true, true, true, true, true, true, true, true, true, true, false, false, false, false] rfl rfl (any_of HT_.out (by kernel_rfl)) (fun _ _ _ h => h) (Or.inl ⟨by rfl, ?_⟩) ?_ ?_
     rotate_left
     ·intro w'
      go_simp
      with_reducible rfl
     rotate_left
     ·simp only [Act.put, zs1, zs2, zs3, i64_w, i32_w]
      rfl
     refine pure_ (i := 16) (N := some 247) (v := ?_) (a' := ?_) #[true, true, true, true, true, true, true, true, true, true, true, true, true, true, true, true, true, false, false, false] rfl rfl (any_of HT_.out (by kernel_rfl)) (fun _ _ _ h => h) (Or.inl ⟨by rfl, ?_⟩) ?_ ?_
     rotate_left
     ·intro w'
      go_simp
      with_reducible rfl
     rotate_left
     ·simp only [Act.put, zs1, zs2, zs3, i64_w, i32_w]
      rfl
     refine one_ (i := 17) (N := some 248) #[true, true, true, true, true, true, true, true, true, true, true, true, true, true, true, true, true, true, false, false] rfl rfl (one_of HT_.out (by kernel_rfl)) (by decide) (fun K hK => ?_)
     refine goes_ Try.func10 (by kernel_rfl) rfl #[] (by rfl) rfl rfl (by (try simp only [zm1, zm2, zm3]); first | done | rfl) ?_
     refine (remoralaw07_awake.calls k r _ HAW.out).mono ?_
     rintro e w15 ⟨rfl, hb⟩
     replace hb : Below w14.heap.size w14 w15 := ⟨hb.os, hb.tape, hb.output, hb.size, hb.block⟩
     refine ⟨_, rfl, ?_⟩
     refine hK.out _ _ ⟨(hb.cell (World.block_lt_of_cell? _ _ hc3)).trans hc3, (hb.cell (World.block_lt_of_cell? _ _ hv0)).trans hv0, (hb.cell (World.block_lt_of_cell? _ _ hv1)).trans hv1, (hb.cell (World.block_lt_of_cell? _ _ hm0)).trans hm0, (hb.cell (World.block_lt_of_cell? _ _ hm1)).trans hm1⟩ (fun hHeld => ?_)
     clear hK K
     refine norm_ (a' := ?_) ?_ ?_
     rotate_left
     ·show Act.put _ (some 248) _ = _
      simp only [Act.put, zs1, zs2, zs3, i64_w, i32_w]
      rfl
     refine pure_ (i := 18) (N := some 249) (v := ?_) (a' := ?_) #[true, true, true, true, true, true, true, true, true, true, true, true, true, true, true, true, true, true, true, false] rfl rfl (any_of HT_.out (by kernel_rfl)) (fun _ _ _ h => h) (Or.inl ⟨by rfl, ?_⟩) ?_ ?_
     rotate_left
     ·intro w'
      go_simp
      with_reducible rfl
     rotate_left
     ·simp only [Act.put, zs1, zs2, zs3, i64_w, i32_w]
      rfl
     refine pure_ (i := 19) (N := some 6) (v := ?_) (a' := ?_) #[true, true, true, true, true, true, true, true, true, true, true, true, true, true, true, true, true, true, true, true] rfl rfl (any_of HT_.out (by kernel_rfl)) (fun _ _ _ h => h) (Or.inl ⟨by rfl, ?_⟩) ?_ ?_
     rotate_left
     ·intro w'
      go_simp
      with_reducible rfl
     rotate_left
     ·simp only [Act.put, zs1, zs2, zs3, i64_w, i32_w]
      rfl
     refine done_ (done_of HT_.out (by kernel_rfl)) ?_
     clear HT_ HW_ hHeld
     go_wp2_with fail
     go_ret
     exact ⟨rfl, zb5 HS.out.bl hb⟩




/-- THE ONE PURE STATEMENT of remoralaw07_IndexOwn. -/
def remoralaw07_IndexOwn.Pure : Prop := ∀ (l0 : List Int) (a1 : Int) (a2 : Int), (l0.length ≤ maxLen ∧ ∀ q0_ ∈ l0, (Lit.int .u8 q0_).wf = true) → l0.length * 1 ≤ 140737488351232 → (Lit.int .u16 a1).wf = true → (Lit.int .u16 a2).wf = true → ∃ k, remoralaw07_IndexOwn.f k l0 a1 a2 = some true

end Go.Proofs.Ytlndkemblbbfaaa.PIndexOwn
