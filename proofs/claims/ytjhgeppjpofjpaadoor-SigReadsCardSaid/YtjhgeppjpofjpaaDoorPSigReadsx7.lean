-- Written by a program of this session (the kit's printer with hand-written contracts among its functions).
-- squeezed
import Derived.Test.YtjhgeppjpofjpaaDoorPSigReadsx0
import Derived.Test.YtjhgeppjpofjpaaDoorPSigReadsx1
import Derived.Test.YtjhgeppjpofjpaaDoorPSigReadsx5
namespace Go.Proofs.YtjhgeppjpofjpaaDoor.PSigReads
open Go.RowKit Go.Proofs.YtjhgeppjpofjpaaDoorW.PrintWords Go.Proofs.YtjhgeppjpofjpaaDoorW.PrintLast Go.Proofs.YtjhgeppjpofjpaaDoorW.PrintMore
attribute [local go_sem] max2_int min2_int max_two min_two max_three min_three max_four min_four   -- for this text's walks alone
set_option linter.unusedVariables false
set_option linter.unusedSimpArgs false

attribute [local go_sem high] eqA44
mutual
def remoraref06_Same.j0 : Nat → Bool → Int → Int → Int → List (S44) → Int → Int → Int → List (S44) → Option (Bool)
 | 0, _, _, _, _, _, _, _, _, _ => none
 | k + 1, x34, x188000, x188001, x188002, x188003, x189000, x189001, x189002, x189003 => if x34 = true then (some false) else (remoraref06_Same.l0 k x188003 (x188003.length : Int) 0 x189000 x189001 x189002 x189003)
def remoraref06_Same.l0 : Nat → List (S44) → Int → Int → Int → Int → Int → List (S44) → Option (Bool)
 | 0, _, _, _, _, _, _, _ => none
 | k + 1, x36, x37, x38, x189000, x189001, x189002, x189003 => if x38 < x37 then (if 0 ≤ x38 then (if x38 < (x36.length : Int) then (if x38 < (x189003.length : Int) then (if (!(((rd_T44 x36 x38).f0) == ((rd_T44 x189003 x38).f0)) || (!((((rd_T44 x36 x38).f1).toList) == (((rd_T44 x189003 x38).f1).toList)))) = true then (some false) else (remoraref06_Same.l0 k x36 x37 (wrap64 (x38 + 1)) x189000 x189001 x189002 x189003)) else (none)) else (none)) else (none)) else (some true)
end
def remoraref06_Same.f (k : Nat) (a0_0 : Int) (a0_1 : Int) (a0_2 : Int) (l0_3 : List (S44)) (a1_0 : Int) (a1_1 : Int) (a1_2 : Int) (l1_3 : List (S44)) : Option (Bool) := if a0_0 = a1_0 then (if a0_1 = a1_1 then (if a0_2 = a1_2 then (remoraref06_Same.j0 k ((l0_3.length : Int) != (l1_3.length : Int)) a0_0 a0_1 a0_2 l0_3 a1_0 a1_1 a1_2 l1_3) else (remoraref06_Same.j0 k true a0_0 a0_1 a0_2 l0_3 a1_0 a1_1 a1_2 l1_3)) else (remoraref06_Same.j0 k true a0_0 a0_1 a0_2 l0_3 a1_0 a1_1 a1_2 l1_3)) else (remoraref06_Same.j0 k true a0_0 a0_1 a0_2 l0_3 a1_0 a1_1 a1_2 l1_3)
theorem remoraref06_Same.mono_l : ∀ k, (∀ y0 y1 y2 y3 y4 y5 y6 y7 y8, LeO (remoraref06_Same.j0 k y0 y1 y2 y3 y4 y5 y6 y7 y8) (remoraref06_Same.j0 (k + 1) y0 y1 y2 y3 y4 y5 y6 y7 y8)) ∧ (∀ y0 y1 y2 y3 y4 y5 y6, LeO (remoraref06_Same.l0 k y0 y1 y2 y3 y4 y5 y6) (remoraref06_Same.l0 (k + 1) y0 y1 y2 y3 y4 y5 y6))
 | 0 => ⟨fun _ _ _ _ _ _ _ _ _ r h => by simp [remoraref06_Same.j0] at h, fun _ _ _ _ _ _ _ r h => by simp [remoraref06_Same.l0] at h⟩
 | k + 1 => by
  obtain ⟨ih0, ih1⟩ := remoraref06_Same.mono_l k
  refine ⟨?_, ?_⟩
  ·intro y0 y1 y2 y3 y4 y5 y6 y7 y8
   unfold remoraref06_Same.j0
   repeat' first
   | (with_reducible exact ih0 _ _ _ _ _ _ _ _ _)
   | (with_reducible exact ih1 _ _ _ _ _ _ _)
   | (with_reducible exact LeO.refl _)
   | (with_reducible exact LeO.none _)
   | (with_reducible refine LeO.ite ?_ ?_)
   | (with_reducible refine LeO.bind ?_ (fun _ => ?_))
   | exact ih0 _ _ _ _ _ _ _ _ _
   | exact ih1 _ _ _ _ _ _ _
   | exact LeO.none _
   | refine LeO.ite ?_ ?_
   | refine LeO.bind ?_ (fun _ => ?_)
  ·intro y0 y1 y2 y3 y4 y5 y6
   unfold remoraref06_Same.l0
   repeat' first
   | (with_reducible exact ih0 _ _ _ _ _ _ _ _ _)
   | (with_reducible exact ih1 _ _ _ _ _ _ _)
   | (with_reducible exact LeO.refl _)
   | (with_reducible exact LeO.none _)
   | (with_reducible refine LeO.ite ?_ ?_)
   | (with_reducible refine LeO.bind ?_ (fun _ => ?_))
   | exact ih0 _ _ _ _ _ _ _ _ _
   | exact ih1 _ _ _ _ _ _ _
   | exact LeO.none _
   | refine LeO.ite ?_ ?_
   | refine LeO.bind ?_ (fun _ => ?_)
theorem remoraref06_Same.mono : ∀ a0 a1 a2 a3 a4 a5 a6 a7 k, LeO (remoraref06_Same.f k a0 a1 a2 a3 a4 a5 a6 a7) (remoraref06_Same.f (k + 1) a0 a1 a2 a3 a4 a5 a6 a7) := by
 intro a0 a1 a2 a3 a4 a5 a6 a7 k
 obtain ⟨ih0, ih1⟩ := remoraref06_Same.mono_l k
 unfold remoraref06_Same.f
 repeat' first
     | (with_reducible exact ih0 _ _ _ _ _ _ _ _ _)
     | (with_reducible exact ih1 _ _ _ _ _ _ _)
     | (with_reducible exact LeO.refl _)
     | (with_reducible exact LeO.none _)
     | (with_reducible refine LeO.ite ?_ ?_)
     | (with_reducible refine LeO.bind ?_ (fun _ => ?_))
     | exact ih0 _ _ _ _ _ _ _ _ _
     | exact ih1 _ _ _ _ _ _ _
     | exact LeO.none _
     | refine LeO.ite ?_ ?_
     | refine LeO.bind ?_ (fun _ => ?_)
set_option maxHeartbeats 8000000 in
set_option maxRecDepth 100000 in
theorem remoraref06_Same.calls (k : Nat) (a0_0 : Int) (a0_1 : Int) (a0_2 : Int) (A0_3 : Option Addr) (c0_3 : Nat) (l0_3 : List (S44)) (a1_0 : Int) (a1_1 : Int) (a1_2 : Int) (A1_3 : Option Addr) (c1_3 : Nat) (l1_3 : List (S44)) (r : Bool) (w : World) (hr0_3 : Kd.C k44 w A0_3 l0_3.length l0_3) (hc0_3 : l0_3.length ≤ c0_3) (hr1_3 : Kd.C k44 w A1_3 l1_3.length l1_3) (hc1_3 : l1_3.length ≤ c1_3) (h : remoraref06_Same.f k a0_0 a0_1 a0_2 l0_3 a1_0 a1_1 a1_2 l1_3 = some r) :
    Calls Tryd.prog 13 #[.agg #[.int .i64 a0_0, .int .i64 a0_1, .int .i64 a0_2, .slice A0_3 l0_3.length c0_3], .agg #[.int .i64 a1_0, .int .i64 a1_1, .int .i64 a1_2, .slice A1_3 l1_3.length c1_3]] w fun e w' => e = .returned (.bool r) ∧ Below w.heap.size w w' := by
 have hu26 := Tryd.underlying26
 have hu44 := Tryd.underlying44
 have HR0_3 := zA hr0_3
 have HC0_3 := zA hc0_3
 clear hr0_3 hc0_3
 have HR1_3 := zA hr1_3
 have HC1_3 := zA hc1_3
 clear hr1_3 hc1_3
 have HB := zA (Below.refl w.heap.size w)
 have H : (if a0_0 = a1_0 then (if a0_1 = a1_1 then (if a0_2 = a1_2 then (remoraref06_Same.j0 k ((l0_3.length : Int) != (l1_3.length : Int)) a0_0 a0_1 a0_2 l0_3 a1_0 a1_1 a1_2 l1_3) else (remoraref06_Same.j0 k true a0_0 a0_1 a0_2 l0_3 a1_0 a1_1 a1_2 l1_3)) else (remoraref06_Same.j0 k true a0_0 a0_1 a0_2 l0_3 a1_0 a1_1 a1_2 l1_3)) else (remoraref06_Same.j0 k true a0_0 a0_1 a0_2 l0_3 a1_0 a1_1 a1_2 l1_3)) = some r := h
 clear h
 have HC3 := zA H
 clear H
 go_enter Tryd.func13, Tryd.ntmps13
 go_upto_region 1 with (first | ((with_reducible refine gate_dst (N := 2) rfl ?_); (try (refine gate_guard (by rfl) ?_; dsimp only)); refine box_event ?hg (N := 2) ?hd (cs := #[.int .i64 a0_0, .int .i64 a0_1, .int .i64 a0_2, .slice A0_3 l0_3.length c0_3]) (t := 26) ?hr ?_; (case hd => rfl); (case hg => rfl); (case hr => first | (go_simp; done) | (go_simp; rfl)); intro gb187 hg w4 hbox hb; have n0_ := zA (zb5 (by repeat (first | (with_reducible first | exact HB.out | apply zb3 | apply zb1 | apply zb2) | exact HB.out)) hb); have n1_ := zA (hbox); have n2_ := zA ((by rw [hg]; exact (zb6 (by repeat (first | (with_reducible first | exact HB.out | apply zb3 | apply zb1 | apply zb2) | exact HB.out))) : w.heap.size ≤ gb187)); have n3_ := zA ((by rw [hg]; exact (zb6 (by repeat (first | (with_reducible first | exact HB.out | apply zb3 | apply zb1 | apply zb2) | exact HB.out))) : w.heap.size ≤ gb187)); clear HB; have HB := n0_; have BK187 := n1_; have GW187 := n2_; have GE187 := n3_; clear n0_ n1_ n2_ n3_; clear hb hbox hg) | ((with_reducible refine gate_dst (N := 3) rfl ?_); (try (refine gate_guard (by rfl) ?_; dsimp only)); refine box_event ?hg (N := 3) ?hd (cs := #[.int .i64 a1_0, .int .i64 a1_1, .int .i64 a1_2, .slice A1_3 l1_3.length c1_3]) (t := 26) ?hr ?_; (case hd => rfl); (case hg => rfl); (case hr => first | (go_simp; done) | (go_simp; rfl)); intro gb188 hg w5 hbox hb; have n0_ := zA (zc6 (g := gb187) (o := .cells #[.int .i64 a0_0, .int .i64 a0_1, .int .i64 a0_2, .slice A0_3 l0_3.length c0_3] 26 (0, 0)) (by (with_reducible repeat (first | refine zc3 ?_ _ | refine zc4 ?_ | refine zc2 ?_ _)); exact BK187.out) hb); have n1_ := zA (zb5 (by repeat (first | (with_reducible first | exact HB.out | apply zb3 | apply zb1 | apply zb2 | refine zb4 ?_ GE187.out) | exact HB.out)) hb); have n2_ := zA (hbox); have n3_ := zA ((by rw [hg]; exact (zb6 (by repeat (first | (with_reducible first | exact HB.out | apply zb3 | apply zb1 | apply zb2 | refine zb4 ?_ GE187.out) | exact HB.out))) : w.heap.size ≤ gb188)); have n4_ := zA ((by rw [hg]; exact (zb6 (by repeat (first | (with_reducible first | exact HB.out | apply zb3 | apply zb1 | apply zb2 | refine zb4 ?_ GE187.out) | exact HB.out))) : w.heap.size ≤ gb188)); have n5_ := zA ((by rw [hg]; exact Nat.ne_of_lt (blk_lt (g := gb187) (o := .cells #[.int .i64 a0_0, .int .i64 a0_1, .int .i64 a0_2, .slice A0_3 l0_3.length c0_3] 26 (0, 0)) (by (with_reducible repeat (first | refine zc3 ?_ _ | refine zc4 ?_ | refine zc2 ?_ _)); exact BK187.out)) : gb187 ≠ gb188)); have n6_ := zA ((by rw [hg]; exact Nat.ne_of_gt (blk_lt (g := gb187) (o := .cells #[.int .i64 a0_0, .int .i64 a0_1, .int .i64 a0_2, .slice A0_3 l0_3.length c0_3] 26 (0, 0)) (by (with_reducible repeat (first | refine zc3 ?_ _ | refine zc4 ?_ | refine zc2 ?_ _)); exact BK187.out)) : gb188 ≠ gb187)); clear BK187; clear HB; have BK187 := n0_; have HB := n1_; have BK188 := n2_; have GW188 := n3_; have GE188 := n4_; have NB187_188 := n5_; have NB188_187 := n6_; clear n0_ n1_ n2_ n3_ n4_ n5_ n6_; clear hb hbox hg))
 repeat (go_quiet (first | ((with_reducible refine gate_dst (N := 2) rfl ?_); (try (refine gate_guard (by rfl) ?_; dsimp only)); refine box_event ?hg (N := 2) ?hd (cs := #[.int .i64 a0_0, .int .i64 a0_1, .int .i64 a0_2, .slice A0_3 l0_3.length c0_3]) (t := 26) ?hr ?_; (case hd => rfl); (case hg => rfl); (case hr => first | (go_simp; done) | (go_simp; rfl)); intro gb187 hg w4 hbox hb; have n0_ := zA (zb5 (by repeat (first | (with_reducible first | exact HB.out | apply zb3 | apply zb1 | apply zb2) | exact HB.out)) hb); have n1_ := zA (hbox); have n2_ := zA ((by rw [hg]; exact (zb6 (by repeat (first | (with_reducible first | exact HB.out | apply zb3 | apply zb1 | apply zb2) | exact HB.out))) : w.heap.size ≤ gb187)); have n3_ := zA ((by rw [hg]; exact (zb6 (by repeat (first | (with_reducible first | exact HB.out | apply zb3 | apply zb1 | apply zb2) | exact HB.out))) : w.heap.size ≤ gb187)); clear HB; have HB := n0_; have BK187 := n1_; have GW187 := n2_; have GE187 := n3_; clear n0_ n1_ n2_ n3_; clear hb hbox hg) | ((with_reducible refine gate_dst (N := 3) rfl ?_); (try (refine gate_guard (by rfl) ?_; dsimp only)); refine box_event ?hg (N := 3) ?hd (cs := #[.int .i64 a1_0, .int .i64 a1_1, .int .i64 a1_2, .slice A1_3 l1_3.length c1_3]) (t := 26) ?hr ?_; (case hd => rfl); (case hg => rfl); (case hr => first | (go_simp; done) | (go_simp; rfl)); intro gb188 hg w5 hbox hb; have n0_ := zA (zc6 (g := gb187) (o := .cells #[.int .i64 a0_0, .int .i64 a0_1, .int .i64 a0_2, .slice A0_3 l0_3.length c0_3] 26 (0, 0)) (by (with_reducible repeat (first | refine zc3 ?_ _ | refine zc4 ?_ | refine zc2 ?_ _)); exact BK187.out) hb); have n1_ := zA (zb5 (by repeat (first | (with_reducible first | exact HB.out | apply zb3 | apply zb1 | apply zb2 | refine zb4 ?_ GE187.out) | exact HB.out)) hb); have n2_ := zA (hbox); have n3_ := zA ((by rw [hg]; exact (zb6 (by repeat (first | (with_reducible first | exact HB.out | apply zb3 | apply zb1 | apply zb2 | refine zb4 ?_ GE187.out) | exact HB.out))) : w.heap.size ≤ gb188)); have n4_ := zA ((by rw [hg]; exact (zb6 (by repeat (first | (with_reducible first | exact HB.out | apply zb3 | apply zb1 | apply zb2 | refine zb4 ?_ GE187.out) | exact HB.out))) : w.heap.size ≤ gb188)); have n5_ := zA ((by rw [hg]; exact Nat.ne_of_lt (blk_lt (g := gb187) (o := .cells #[.int .i64 a0_0, .int .i64 a0_1, .int .i64 a0_2, .slice A0_3 l0_3.length c0_3] 26 (0, 0)) (by (with_reducible repeat (first | refine zc3 ?_ _ | refine zc4 ?_ | refine zc2 ?_ _)); exact BK187.out)) : gb187 ≠ gb188)); have n6_ := zA ((by rw [hg]; exact Nat.ne_of_gt (blk_lt (g := gb187) (o := .cells #[.int .i64 a0_0, .int .i64 a0_1, .int .i64 a0_2, .slice A0_3 l0_3.length c0_3] 26 (0, 0)) (by (with_reducible repeat (first | refine zc3 ?_ _ | refine zc4 ?_ | refine zc2 ?_ _)); exact BK187.out)) : gb188 ≠ gb187)); clear BK187; clear HB; have BK187 := n0_; have HB := n1_; have BK188 := n2_; have GW188 := n3_; have GE188 := n4_; have NB187_188 := n5_; have NB188_187 := n6_; clear n0_ n1_ n2_ n3_ n4_ n5_ n6_; clear hb hbox hg)); go_upto_region 1 with (first | ((with_reducible refine gate_dst (N := 2) rfl ?_); (try (refine gate_guard (by rfl) ?_; dsimp only)); refine box_event ?hg (N := 2) ?hd (cs := #[.int .i64 a0_0, .int .i64 a0_1, .int .i64 a0_2, .slice A0_3 l0_3.length c0_3]) (t := 26) ?hr ?_; (case hd => rfl); (case hg => rfl); (case hr => first | (go_simp; done) | (go_simp; rfl)); intro gb187 hg w4 hbox hb; have n0_ := zA (zb5 (by repeat (first | (with_reducible first | exact HB.out | apply zb3 | apply zb1 | apply zb2) | exact HB.out)) hb); have n1_ := zA (hbox); have n2_ := zA ((by rw [hg]; exact (zb6 (by repeat (first | (with_reducible first | exact HB.out | apply zb3 | apply zb1 | apply zb2) | exact HB.out))) : w.heap.size ≤ gb187)); have n3_ := zA ((by rw [hg]; exact (zb6 (by repeat (first | (with_reducible first | exact HB.out | apply zb3 | apply zb1 | apply zb2) | exact HB.out))) : w.heap.size ≤ gb187)); clear HB; have HB := n0_; have BK187 := n1_; have GW187 := n2_; have GE187 := n3_; clear n0_ n1_ n2_ n3_; clear hb hbox hg) | ((with_reducible refine gate_dst (N := 3) rfl ?_); (try (refine gate_guard (by rfl) ?_; dsimp only)); refine box_event ?hg (N := 3) ?hd (cs := #[.int .i64 a1_0, .int .i64 a1_1, .int .i64 a1_2, .slice A1_3 l1_3.length c1_3]) (t := 26) ?hr ?_; (case hd => rfl); (case hg => rfl); (case hr => first | (go_simp; done) | (go_simp; rfl)); intro gb188 hg w5 hbox hb; have n0_ := zA (zc6 (g := gb187) (o := .cells #[.int .i64 a0_0, .int .i64 a0_1, .int .i64 a0_2, .slice A0_3 l0_3.length c0_3] 26 (0, 0)) (by (with_reducible repeat (first | refine zc3 ?_ _ | refine zc4 ?_ | refine zc2 ?_ _)); exact BK187.out) hb); have n1_ := zA (zb5 (by repeat (first | (with_reducible first | exact HB.out | apply zb3 | apply zb1 | apply zb2 | refine zb4 ?_ GE187.out) | exact HB.out)) hb); have n2_ := zA (hbox); have n3_ := zA ((by rw [hg]; exact (zb6 (by repeat (first | (with_reducible first | exact HB.out | apply zb3 | apply zb1 | apply zb2 | refine zb4 ?_ GE187.out) | exact HB.out))) : w.heap.size ≤ gb188)); have n4_ := zA ((by rw [hg]; exact (zb6 (by repeat (first | (with_reducible first | exact HB.out | apply zb3 | apply zb1 | apply zb2 | refine zb4 ?_ GE187.out) | exact HB.out))) : w.heap.size ≤ gb188)); have n5_ := zA ((by rw [hg]; exact Nat.ne_of_lt (blk_lt (g := gb187) (o := .cells #[.int .i64 a0_0, .int .i64 a0_1, .int .i64 a0_2, .slice A0_3 l0_3.length c0_3] 26 (0, 0)) (by (with_reducible repeat (first | refine zc3 ?_ _ | refine zc4 ?_ | refine zc2 ?_ _)); exact BK187.out)) : gb187 ≠ gb188)); have n6_ := zA ((by rw [hg]; exact Nat.ne_of_gt (blk_lt (g := gb187) (o := .cells #[.int .i64 a0_0, .int .i64 a0_1, .int .i64 a0_2, .slice A0_3 l0_3.length c0_3] 26 (0, 0)) (by (with_reducible repeat (first | refine zc3 ?_ _ | refine zc4 ?_ | refine zc2 ?_ _)); exact BK187.out)) : gb188 ≠ gb187)); clear BK187; clear HB; have BK187 := n0_; have HB := n1_; have BK188 := n2_; have GW188 := n3_; have GE188 := n4_; have NB187_188 := n5_; have NB188_187 := n6_; clear n0_ n1_ n2_ n3_ n4_ n5_ n6_; clear hb hbox hg)))
 (try simp only [Act.put, zs1, zs2, zs3])
 go_cut [34] (fun v34 wc => ∃ (kq : Nat) (x34_2 : Bool), v34 = .bool x34_2 ∧ Aside0 (remoraref06_Same.j0 kq x34_2 a0_0 a0_1 a0_2 l0_3 a1_0 a1_1 a1_2 l1_3 = some r) ∧ Aside0 (kq ≤ k) ∧ Aside0 (wc.heap[gb187]? = some (.cells #[.int .i64 a0_0, .int .i64 a0_1, .int .i64 a0_2, (.slice A0_3 l0_3.length c0_3)] 26 (0, 0))) ∧ Aside0 (wc.heap[gb188]? = some (.cells #[.int .i64 a1_0, .int .i64 a1_1, .int .i64 a1_2, (.slice A1_3 l1_3.length c1_3)] 26 (0, 0))) ∧ Aside0 (Below w.heap.size w wc))
 case first =>
  have H := HC3.out
  clear HC3
  by_cases c6 : a0_0 = a1_0
  ·rw [if_pos c6] at H
   have c6b0 : (a0_0 == a1_0) = true := beq_iff_eq.mpr c6
   have c6b1 : (a0_0 != a1_0) = false := bne_eq_false_iff_eq.mpr c6
   clear c6
   (first | rw [c6b0] | (simp only [i64_w, i32_w]; rw [c6b0]) | skip)
   by_cases c7 : a0_1 = a1_1
   ·rw [if_pos c7] at H
    have c7b0 : (a0_1 == a1_1) = true := beq_iff_eq.mpr c7
    have c7b1 : (a0_1 != a1_1) = false := bne_eq_false_iff_eq.mpr c7
    clear c7
    by_cases c8 : a0_2 = a1_2
    ·rw [if_pos c8] at H
     have c8b0 : (a0_2 == a1_2) = true := beq_iff_eq.mpr c8
     have c8b1 : (a0_2 != a1_2) = false := bne_eq_false_iff_eq.mpr c8
     clear c8
     have H' := zA H
     clear H
     have hnb9 := NB187_188.out
     have hnc9 := NB188_187.out
     have hcz10_0 : w5.cell? ⟨gb187, 0, none⟩ = some (.int .i64 a0_0) := (zc1 BK187.out 0).trans rfl
     have hcz10_1 : w5.cell? ⟨gb187, 1, none⟩ = some (.int .i64 a0_1) := (zc1 BK187.out 1).trans rfl
     have hcz10_2 : w5.cell? ⟨gb187, 2, none⟩ = some (.int .i64 a0_2) := (zc1 BK187.out 2).trans rfl
     have hcz10_3 : w5.cell? ⟨gb187, 3, none⟩ = some (.slice A0_3 l0_3.length c0_3) := (zc1 BK187.out 3).trans rfl
     have hfz10_0 := zc5 BK187.out 0
     have hfz10_1 := zc5 BK187.out 1
     have hfz10_2 := zc5 BK187.out 2
     have hfz10_3 := zc5 BK187.out 3
     have hcz11_0 : w5.cell? ⟨gb188, 0, none⟩ = some (.int .i64 a1_0) := (zc1 BK188.out 0).trans rfl
     have hcz11_1 : w5.cell? ⟨gb188, 1, none⟩ = some (.int .i64 a1_1) := (zc1 BK188.out 1).trans rfl
     have hcz11_2 : w5.cell? ⟨gb188, 2, none⟩ = some (.int .i64 a1_2) := (zc1 BK188.out 2).trans rfl
     have hcz11_3 : w5.cell? ⟨gb188, 3, none⟩ = some (.slice A1_3 l1_3.length c1_3) := (zc1 BK188.out 3).trans rfl
     have hfz11_0 := zc5 BK188.out 0
     have hfz11_1 := zc5 BK188.out 1
     have hfz11_2 := zc5 BK188.out 2
     have hfz11_3 := zc5 BK188.out 3
     go_wp2
     have hwi_ : ∀ n : Int, IntKind.i64.wrap n = wrap64 n := i64_w
     repeat (go_quiet (fail); try go_wp2)
     clear hwi_
     go_meet
     case rel => exact ⟨_, (((l0_3.length : Int) != (l1_3.length : Int))), (by first | rfl | (simp; done) | (simp [*]; done)), H', ⟨by first | omega | exact Nat.le_refl _⟩, ⟨by (with_reducible repeat (first | refine zc3 ?_ _ | refine zc4 ?_ | refine zc2 ?_ _)); exact BK187.out⟩, ⟨by (with_reducible repeat (first | refine zc3 ?_ _ | refine zc4 ?_ | refine zc2 ?_ _)); exact BK188.out⟩, ⟨by repeat (first | (with_reducible first | exact HB.out | apply zb3 | apply zb1 | apply zb2 | refine zb4 ?_ GE187.out | refine zb4 ?_ GE188.out) | exact HB.out)⟩⟩
    ·rw [if_neg c8] at H
     have c8b0 : (a0_2 == a1_2) = false := beq_eq_false_iff_ne.mpr c8
     have c8b1 : (a0_2 != a1_2) = true := bne_iff_ne.mpr c8
     have H' := zA H
     clear H
     have hnb12 := NB187_188.out
     have hnc12 := NB188_187.out
     have hcz13_0 : w5.cell? ⟨gb187, 0, none⟩ = some (.int .i64 a0_0) := (zc1 BK187.out 0).trans rfl
     have hcz13_1 : w5.cell? ⟨gb187, 1, none⟩ = some (.int .i64 a0_1) := (zc1 BK187.out 1).trans rfl
     have hcz13_2 : w5.cell? ⟨gb187, 2, none⟩ = some (.int .i64 a0_2) := (zc1 BK187.out 2).trans rfl
     have hcz13_3 : w5.cell? ⟨gb187, 3, none⟩ = some (.slice A0_3 l0_3.length c0_3) := (zc1 BK187.out 3).trans rfl
     have hfz13_0 := zc5 BK187.out 0
     have hfz13_1 := zc5 BK187.out 1
     have hfz13_2 := zc5 BK187.out 2
     have hfz13_3 := zc5 BK187.out 3
     have hcz14_0 : w5.cell? ⟨gb188, 0, none⟩ = some (.int .i64 a1_0) := (zc1 BK188.out 0).trans rfl
     have hcz14_1 : w5.cell? ⟨gb188, 1, none⟩ = some (.int .i64 a1_1) := (zc1 BK188.out 1).trans rfl
     have hcz14_2 : w5.cell? ⟨gb188, 2, none⟩ = some (.int .i64 a1_2) := (zc1 BK188.out 2).trans rfl
     have hcz14_3 : w5.cell? ⟨gb188, 3, none⟩ = some (.slice A1_3 l1_3.length c1_3) := (zc1 BK188.out 3).trans rfl
     have hfz14_0 := zc5 BK188.out 0
     have hfz14_1 := zc5 BK188.out 1
     have hfz14_2 := zc5 BK188.out 2
     have hfz14_3 := zc5 BK188.out 3
     go_wp2
     have hwi_ : ∀ n : Int, IntKind.i64.wrap n = wrap64 n := i64_w
     repeat (go_quiet (fail); try go_wp2)
     clear hwi_
     go_meet
     case rel => exact ⟨_, (true), (by first | rfl | (simp; done) | (simp [*]; done)), H', ⟨by first | omega | exact Nat.le_refl _⟩, ⟨by (with_reducible repeat (first | refine zc3 ?_ _ | refine zc4 ?_ | refine zc2 ?_ _)); exact BK187.out⟩, ⟨by (with_reducible repeat (first | refine zc3 ?_ _ | refine zc4 ?_ | refine zc2 ?_ _)); exact BK188.out⟩, ⟨by repeat (first | (with_reducible first | exact HB.out | apply zb3 | apply zb1 | apply zb2 | refine zb4 ?_ GE187.out | refine zb4 ?_ GE188.out) | exact HB.out)⟩⟩
   ·rw [if_neg c7] at H
    have c7b0 : (a0_1 == a1_1) = false := beq_eq_false_iff_ne.mpr c7
    have c7b1 : (a0_1 != a1_1) = true := bne_iff_ne.mpr c7
    have H' := zA H
    clear H
    have hnb15 := NB187_188.out
    have hnc15 := NB188_187.out
    have hcz16_0 : w5.cell? ⟨gb187, 0, none⟩ = some (.int .i64 a0_0) := (zc1 BK187.out 0).trans rfl
    have hcz16_1 : w5.cell? ⟨gb187, 1, none⟩ = some (.int .i64 a0_1) := (zc1 BK187.out 1).trans rfl
    have hcz16_2 : w5.cell? ⟨gb187, 2, none⟩ = some (.int .i64 a0_2) := (zc1 BK187.out 2).trans rfl
    have hcz16_3 : w5.cell? ⟨gb187, 3, none⟩ = some (.slice A0_3 l0_3.length c0_3) := (zc1 BK187.out 3).trans rfl
    have hfz16_0 := zc5 BK187.out 0
    have hfz16_1 := zc5 BK187.out 1
    have hfz16_2 := zc5 BK187.out 2
    have hfz16_3 := zc5 BK187.out 3
    have hcz17_0 : w5.cell? ⟨gb188, 0, none⟩ = some (.int .i64 a1_0) := (zc1 BK188.out 0).trans rfl
    have hcz17_1 : w5.cell? ⟨gb188, 1, none⟩ = some (.int .i64 a1_1) := (zc1 BK188.out 1).trans rfl
    have hcz17_2 : w5.cell? ⟨gb188, 2, none⟩ = some (.int .i64 a1_2) := (zc1 BK188.out 2).trans rfl
    have hcz17_3 : w5.cell? ⟨gb188, 3, none⟩ = some (.slice A1_3 l1_3.length c1_3) := (zc1 BK188.out 3).trans rfl
    have hfz17_0 := zc5 BK188.out 0
    have hfz17_1 := zc5 BK188.out 1
    have hfz17_2 := zc5 BK188.out 2
    have hfz17_3 := zc5 BK188.out 3
    go_wp2
    have hwi_ : ∀ n : Int, IntKind.i64.wrap n = wrap64 n := i64_w
    repeat (go_quiet (fail); try go_wp2)
    clear hwi_
    go_meet
    case rel => exact ⟨_, (true), (by first | rfl | (simp; done) | (simp [*]; done)), H', ⟨by first | omega | exact Nat.le_refl _⟩, ⟨by (with_reducible repeat (first | refine zc3 ?_ _ | refine zc4 ?_ | refine zc2 ?_ _)); exact BK187.out⟩, ⟨by (with_reducible repeat (first | refine zc3 ?_ _ | refine zc4 ?_ | refine zc2 ?_ _)); exact BK188.out⟩, ⟨by repeat (first | (with_reducible first | exact HB.out | apply zb3 | apply zb1 | apply zb2 | refine zb4 ?_ GE187.out | refine zb4 ?_ GE188.out) | exact HB.out)⟩⟩
  ·rw [if_neg c6] at H
   have c6b0 : (a0_0 == a1_0) = false := beq_eq_false_iff_ne.mpr c6
   have c6b1 : (a0_0 != a1_0) = true := bne_iff_ne.mpr c6
   (first | rw [c6b0] | (simp only [i64_w, i32_w]; rw [c6b0]) | skip)
   have H' := zA H
   clear H
   have hnb18 := NB187_188.out
   have hnc18 := NB188_187.out
   have hcz19_0 : w5.cell? ⟨gb187, 0, none⟩ = some (.int .i64 a0_0) := (zc1 BK187.out 0).trans rfl
   have hcz19_1 : w5.cell? ⟨gb187, 1, none⟩ = some (.int .i64 a0_1) := (zc1 BK187.out 1).trans rfl
   have hcz19_2 : w5.cell? ⟨gb187, 2, none⟩ = some (.int .i64 a0_2) := (zc1 BK187.out 2).trans rfl
   have hcz19_3 : w5.cell? ⟨gb187, 3, none⟩ = some (.slice A0_3 l0_3.length c0_3) := (zc1 BK187.out 3).trans rfl
   have hfz19_0 := zc5 BK187.out 0
   have hfz19_1 := zc5 BK187.out 1
   have hfz19_2 := zc5 BK187.out 2
   have hfz19_3 := zc5 BK187.out 3
   have hcz20_0 : w5.cell? ⟨gb188, 0, none⟩ = some (.int .i64 a1_0) := (zc1 BK188.out 0).trans rfl
   have hcz20_1 : w5.cell? ⟨gb188, 1, none⟩ = some (.int .i64 a1_1) := (zc1 BK188.out 1).trans rfl
   have hcz20_2 : w5.cell? ⟨gb188, 2, none⟩ = some (.int .i64 a1_2) := (zc1 BK188.out 2).trans rfl
   have hcz20_3 : w5.cell? ⟨gb188, 3, none⟩ = some (.slice A1_3 l1_3.length c1_3) := (zc1 BK188.out 3).trans rfl
   have hfz20_0 := zc5 BK188.out 0
   have hfz20_1 := zc5 BK188.out 1
   have hfz20_2 := zc5 BK188.out 2
   have hfz20_3 := zc5 BK188.out 3
   go_wp2
   have hwi_ : ∀ n : Int, IntKind.i64.wrap n = wrap64 n := i64_w
   repeat (go_quiet (fail); try go_wp2)
   clear hwi_
   go_meet
   case rel => exact ⟨_, (true), (by first | rfl | (simp; done) | (simp [*]; done)), H', ⟨by first | omega | exact Nat.le_refl _⟩, ⟨by (with_reducible repeat (first | refine zc3 ?_ _ | refine zc4 ?_ | refine zc2 ?_ _)); exact BK187.out⟩, ⟨by (with_reducible repeat (first | refine zc3 ?_ _ | refine zc4 ?_ | refine zc2 ?_ _)); exact BK188.out⟩, ⟨by repeat (first | (with_reducible first | exact HB.out | apply zb3 | apply zb1 | apply zb2 | refine zb4 ?_ GE187.out | refine zb4 ?_ GE188.out) | exact HB.out)⟩⟩
 case rest =>
  clear HC3
  try clear c1
  try clear p2
  try clear c6
  try clear c6b0
  try clear c6b1
  try clear c7
  try clear c7b0
  try clear c7b1
  try clear c8
  try clear c8b0
  try clear c8b1
  try clear c9
  try clear c12
  try clear c13
  try clear c15
  try clear c18
  try clear hcz10_0
  try clear hcz10_1
  try clear hcz10_2
  try clear hcz10_3
  try clear hcz11_0
  try clear hcz11_1
  try clear hcz11_2
  try clear hcz11_3
  try clear hcz13_0
  try clear hcz13_1
  try clear hcz13_2
  try clear hcz13_3
  try clear hcz14_0
  try clear hcz14_1
  try clear hcz14_2
  try clear hcz14_3
  try clear hcz16_0
  try clear hcz16_1
  try clear hcz16_2
  try clear hcz16_3
  try clear hcz17_0
  try clear hcz17_1
  try clear hcz17_2
  try clear hcz17_3
  try clear hcz19_0
  try clear hcz19_1
  try clear hcz19_2
  try clear hcz19_3
  try clear hcz20_0
  try clear hcz20_1
  try clear hcz20_2
  try clear hcz20_3
  try clear hfz10_0
  try clear hfz10_1
  try clear hfz10_2
  try clear hfz10_3
  try clear hfz11_0
  try clear hfz11_1
  try clear hfz11_2
  try clear hfz11_3
  try clear hfz13_0
  try clear hfz13_1
  try clear hfz13_2
  try clear hfz13_3
  try clear hfz14_0
  try clear hfz14_1
  try clear hfz14_2
  try clear hfz14_3
  try clear hfz16_0
  try clear hfz16_1
  try clear hfz16_2
  try clear hfz16_3
  try clear hfz17_0
  try clear hfz17_1
  try clear hfz17_2
  try clear hfz17_3
  try clear hfz19_0
  try clear hfz19_1
  try clear hfz19_2
  try clear hfz19_3
  try clear hfz20_0
  try clear hfz20_1
  try clear hfz20_2
  try clear hfz20_3
  obtain ⟨kq, x34_2, rfl, HA, HJ2, BK187, BK188, HB⟩ := hcut
  cases kq with
  | zero => exact absurd HA.out (by simp [remoraref06_Same.j0])
  | succ kj2 =>
   have H := HA.out
   clear HA
   simp only [remoraref06_Same.j0] at H
   by_cases c21 : x34_2 = true
   ·subst c21
    have H1 : (some false) = some r := by rw [if_pos rfl] at H; exact H
    clear H
    have H := H1
    clear H1
    obtain rfl := Option.some.inj H
    go_wp2
    have hwi_ : ∀ n : Int, IntKind.i64.wrap n = wrap64 n := i64_w
    repeat (go_quiet (fail); try go_wp2)
    clear hwi_
    go_ret
    exact ⟨by first | rfl | (simp [*] <;> rfl), by repeat (first | (with_reducible first | exact HB.out | apply zb3 | apply zb1 | apply zb2 | refine zb4 ?_ GE187.out | refine zb4 ?_ GE188.out) | exact HB.out)⟩
   ·replace c21 := Bool.eq_false_iff.mpr c21
    subst c21
    have H1 : (remoraref06_Same.l0 kj2 l0_3 (l0_3.length : Int) 0 a1_0 a1_1 a1_2 l1_3) = some r := by rw [if_neg (show ¬ (false = true) by decide)] at H; exact H
    clear H
    have H := H1
    clear H1
    have H' := zA H
    clear H
    have hnb22 := NB187_188.out
    have hnc22 := NB188_187.out
    have hcz23_0 : wc.cell? ⟨gb187, 0, none⟩ = some (.int .i64 a0_0) := (zc1 BK187.out 0).trans rfl
    have hcz23_1 : wc.cell? ⟨gb187, 1, none⟩ = some (.int .i64 a0_1) := (zc1 BK187.out 1).trans rfl
    have hcz23_2 : wc.cell? ⟨gb187, 2, none⟩ = some (.int .i64 a0_2) := (zc1 BK187.out 2).trans rfl
    have hcz23_3 : wc.cell? ⟨gb187, 3, none⟩ = some (.slice A0_3 l0_3.length c0_3) := (zc1 BK187.out 3).trans rfl
    have hfz23_0 := zc5 BK187.out 0
    have hfz23_1 := zc5 BK187.out 1
    have hfz23_2 := zc5 BK187.out 2
    have hfz23_3 := zc5 BK187.out 3
    go_wp2
    have hwi_ : ∀ n : Int, IntKind.i64.wrap n = wrap64 n := i64_w
    repeat (go_quiet (fail); try go_wp2)
    clear hwi_
    go_loopg [38] kj2 (fun kq v38 w' => ∃ (x38_2 : Int), v38 = .int .i64 x38_2 ∧ Aside0 (remoraref06_Same.l0 kq l0_3 (l0_3.length : Int) x38_2 a1_0 a1_1 a1_2 l1_3 = some r) ∧ Aside0 (kq ≤ kj2) ∧ Aside0 (w'.heap[gb187]? = some (.cells #[.int .i64 a0_0, .int .i64 a0_1, .int .i64 a0_2, (.slice A0_3 l0_3.length c0_3)] 26 (0, 0))) ∧ Aside0 (w'.heap[gb188]? = some (.cells #[.int .i64 a1_0, .int .i64 a1_1, .int .i64 a1_2, (.slice A1_3 l1_3.length c1_3)] 26 (0, 0))) ∧ Aside0 (Below w.heap.size w w'))
    case atStart => exact ⟨(0), (by first | rfl | (simp; done) | (simp [*]; done)), H', ⟨Nat.le_refl _⟩, ⟨by (with_reducible repeat (first | refine zc3 ?_ _ | refine zc4 ?_ | refine zc2 ?_ _)); exact BK187.out⟩, ⟨by (with_reducible repeat (first | refine zc3 ?_ _ | refine zc4 ?_ | refine zc2 ?_ _)); exact BK188.out⟩, ⟨by repeat (first | (with_reducible first | exact HB.out | apply zb3 | apply zb1 | apply zb2 | refine zb4 ?_ GE187.out | refine zb4 ?_ GE188.out) | exact HB.out)⟩⟩
    case round =>
     clear H'
     try clear c1
     try clear c2
     try clear p2
     try clear c6
     try clear c6b0
     try clear c6b1
     try clear c7
     try clear c7b0
     try clear c7b1
     try clear c8
     try clear c8b0
     try clear c8b1
     try clear c9
     try clear c12
     try clear c13
     try clear c15
     try clear c18
     try clear c21
     try clear c22
     try clear hcz10_0
     try clear hcz10_1
     try clear hcz10_2
     try clear hcz10_3
     try clear hcz11_0
     try clear hcz11_1
     try clear hcz11_2
     try clear hcz11_3
     try clear hcz13_0
     try clear hcz13_1
     try clear hcz13_2
     try clear hcz13_3
     try clear hcz14_0
     try clear hcz14_1
     try clear hcz14_2
     try clear hcz14_3
     try clear hcz16_0
     try clear hcz16_1
     try clear hcz16_2
     try clear hcz16_3
     try clear hcz17_0
     try clear hcz17_1
     try clear hcz17_2
     try clear hcz17_3
     try clear hcz19_0
     try clear hcz19_1
     try clear hcz19_2
     try clear hcz19_3
     try clear hcz20_0
     try clear hcz20_1
     try clear hcz20_2
     try clear hcz20_3
     try clear hcz23_0
     try clear hcz23_1
     try clear hcz23_2
     try clear hcz23_3
     try clear hfz10_0
     try clear hfz10_1
     try clear hfz10_2
     try clear hfz10_3
     try clear hfz11_0
     try clear hfz11_1
     try clear hfz11_2
     try clear hfz11_3
     try clear hfz13_0
     try clear hfz13_1
     try clear hfz13_2
     try clear hfz13_3
     try clear hfz14_0
     try clear hfz14_1
     try clear hfz14_2
     try clear hfz14_3
     try clear hfz16_0
     try clear hfz16_1
     try clear hfz16_2
     try clear hfz16_3
     try clear hfz17_0
     try clear hfz17_1
     try clear hfz17_2
     try clear hfz17_3
     try clear hfz19_0
     try clear hfz19_1
     try clear hfz19_2
     try clear hfz19_3
     try clear hfz20_0
     try clear hfz20_1
     try clear hfz20_2
     try clear hfz20_3
     try clear hfz23_0
     try clear hfz23_1
     try clear hfz23_2
     try clear hfz23_3
     try clear p2
     obtain ⟨x38_2, rfl, HA, HK2, BK187, BK188, HB⟩ := hrel
     cases gk with
     | zero => exact absurd HA.out (by simp [remoraref06_Same.l0])
     | succ k2 =>
      have H := HA.out
      clear HA
      simp only [remoraref06_Same.l0] at H
      by_cases c24 : x38_2 < (l0_3.length : Int)
      ·rw [if_pos c24] at H
       have c24b0 : decide (x38_2 < (l0_3.length : Int)) = true := zd1 c24
       clear c24
       by_cases c25 : 0 ≤ x38_2
       ·rw [if_pos c25] at H
        have c25b0 : decide (0 ≤ x38_2) = true := zd1 c25
        clear c25
        by_cases c26 : x38_2 < (l0_3.length : Int)
        ·rw [if_pos c26] at H
         have c26b0 : decide (x38_2 < (l0_3.length : Int)) = true := zd1 c26
         clear c26
         by_cases c27 : x38_2 < (l1_3.length : Int)
         ·rw [if_pos c27] at H
          have c27b0 : decide (x38_2 < (l1_3.length : Int)) = true := zd1 c27
          clear c27
          by_cases c28 : (!(((rd_T44 l0_3 x38_2).f0) == ((rd_T44 l1_3 x38_2).f0)) || (!((((rd_T44 l0_3 x38_2).f1).toList) == (((rd_T44 l1_3 x38_2).f1).toList)))) = true
          ·rw [if_pos c28] at H
           have c28b0 : (!(((rd_T44 l0_3 x38_2).f0) == ((rd_T44 l1_3 x38_2).f0)) || (!((((rd_T44 l0_3 x38_2).f1).toList) == (((rd_T44 l1_3 x38_2).f1).toList)))) = true := c28
           clear c28
           obtain rfl := Option.some.inj H
           have p189 : 0 ≤ (x38_2 : Int) := zd3 (by first | (with_reducible assumption) | assumption)
           have q189 : x38_2 < (l0_3.length : Int) := zd3 (by first | (with_reducible assumption) | assumption)
           obtain ⟨ad189, e189, hx189_0, hx189_1⟩ := at_T44 HR0_3.out x38_2 p189 q189
           cases e189
           replace hx189_0 := (HB.out.cell (World.block_lt_of_cell? w _ hx189_0)).trans hx189_0
           replace hx189_1 := (HB.out.cell (World.block_lt_of_cell? w _ hx189_1)).trans hx189_1
           replace p189 := eq_true p189
           replace q189 := eq_true q189
           go_wp2_with (first | ((with_reducible refine gate_dst (N := 6) rfl ?_); (try (refine gate_guard (by rfl) ?_; dsimp only)); refine box_event ?hg (N := 6) ?hd (cs := #[.int .u32 0, .string (⟨#[]⟩ : ByteArray)]) (t := 44) ?hr ?_; (case hd => rfl); (case hg => rfl); (case hr => first | (go_simp; done) | (go_simp; rfl)); intro gb190 hg w29 hbox hb; have n0_ := zA (zc6 (g := gb187) (o := .cells #[.int .i64 a0_0, .int .i64 a0_1, .int .i64 a0_2, .slice (some ad189) l0_3.length c0_3] 26 (0, 0)) (by (with_reducible repeat (first | refine zc3 ?_ _ | refine zc4 ?_ | refine zc2 ?_ _)); exact BK187.out) hb); have n1_ := zA (zc6 (g := gb188) (o := .cells #[.int .i64 a1_0, .int .i64 a1_1, .int .i64 a1_2, .slice A1_3 l1_3.length c1_3] 26 (0, 0)) (by (with_reducible repeat (first | refine zc3 ?_ _ | refine zc4 ?_ | refine zc2 ?_ _)); exact BK188.out) hb); have n2_ := zA (zb5 (by repeat (first | (with_reducible first | exact HB.out | apply zb3 | apply zb1 | apply zb2 | refine zb4 ?_ GE187.out | refine zb4 ?_ GE188.out) | exact HB.out)) hb); have n3_ := zA (hbox); have n4_ := zA ((by rw [hg]; exact (zb6 (by repeat (first | (with_reducible first | exact HB.out | apply zb3 | apply zb1 | apply zb2 | refine zb4 ?_ GE187.out | refine zb4 ?_ GE188.out) | exact HB.out))) : w.heap.size ≤ gb190)); have n5_ := zA ((by rw [hg]; exact (zb6 (by repeat (first | (with_reducible first | exact HB.out | apply zb3 | apply zb1 | apply zb2 | refine zb4 ?_ GE187.out | refine zb4 ?_ GE188.out) | exact HB.out))) : w.heap.size ≤ gb190)); have n6_ := zA ((by rw [hg]; exact Nat.ne_of_lt (blk_lt (g := gb187) (o := .cells #[.int .i64 a0_0, .int .i64 a0_1, .int .i64 a0_2, .slice (some ad189) l0_3.length c0_3] 26 (0, 0)) (by (with_reducible repeat (first | refine zc3 ?_ _ | refine zc4 ?_ | refine zc2 ?_ _)); exact BK187.out)) : gb187 ≠ gb190)); have n7_ := zA ((by rw [hg]; exact Nat.ne_of_gt (blk_lt (g := gb187) (o := .cells #[.int .i64 a0_0, .int .i64 a0_1, .int .i64 a0_2, .slice (some ad189) l0_3.length c0_3] 26 (0, 0)) (by (with_reducible repeat (first | refine zc3 ?_ _ | refine zc4 ?_ | refine zc2 ?_ _)); exact BK187.out)) : gb190 ≠ gb187)); have n8_ := zA ((by rw [hg]; exact Nat.ne_of_lt (blk_lt (g := gb188) (o := .cells #[.int .i64 a1_0, .int .i64 a1_1, .int .i64 a1_2, .slice A1_3 l1_3.length c1_3] 26 (0, 0)) (by (with_reducible repeat (first | refine zc3 ?_ _ | refine zc4 ?_ | refine zc2 ?_ _)); exact BK188.out)) : gb188 ≠ gb190)); have n9_ := zA ((by rw [hg]; exact Nat.ne_of_gt (blk_lt (g := gb188) (o := .cells #[.int .i64 a1_0, .int .i64 a1_1, .int .i64 a1_2, .slice A1_3 l1_3.length c1_3] 26 (0, 0)) (by (with_reducible repeat (first | refine zc3 ?_ _ | refine zc4 ?_ | refine zc2 ?_ _)); exact BK188.out)) : gb190 ≠ gb188)); clear BK187; clear BK188; clear HB; have BK187 := n0_; have BK188 := n1_; have HB := n2_; have BK190 := n3_; have GW190 := n4_; have GE190 := n5_; have NB187_190 := n6_; have NB190_187 := n7_; have NB188_190 := n8_; have NB190_188 := n9_; clear n0_ n1_ n2_ n3_ n4_ n5_ n6_ n7_ n8_ n9_; clear hb hbox hg; have hnb30 := NB190_187.out; have hnc30 := NB187_190.out; have hnb31 := NB190_188.out; have hnc31 := NB188_190.out; have hcz32_0 : w29.cell? ⟨gb190, 0, none⟩ = some (.int .u32 0) := (zc1 BK190.out 0).trans rfl; have hcz32_1 : w29.cell? ⟨gb190, 1, none⟩ = some (.string (⟨#[]⟩ : ByteArray)) := (zc1 BK190.out 1).trans rfl; have hfz32_0 := zc5 BK190.out 0; have hfz32_1 := zc5 BK190.out 1; have hnb33 := NB188_187.out; have hnc33 := NB187_188.out; have hcz34_0 : w29.cell? ⟨gb188, 0, none⟩ = some (.int .i64 a1_0) := (zc1 BK188.out 0).trans rfl; have hcz34_1 : w29.cell? ⟨gb188, 1, none⟩ = some (.int .i64 a1_1) := (zc1 BK188.out 1).trans rfl; have hcz34_2 : w29.cell? ⟨gb188, 2, none⟩ = some (.int .i64 a1_2) := (zc1 BK188.out 2).trans rfl; have hcz34_3 : w29.cell? ⟨gb188, 3, none⟩ = some (.slice A1_3 l1_3.length c1_3) := (zc1 BK188.out 3).trans rfl; have hfz34_0 := zc5 BK188.out 0; have hfz34_1 := zc5 BK188.out 1; have hfz34_2 := zc5 BK188.out 2; have hfz34_3 := zc5 BK188.out 3; have p191 : 0 ≤ (x38_2 : Int) := zd3 (by first | (with_reducible assumption) | assumption); have q191 : x38_2 < (l1_3.length : Int) := zd3 (by first | (with_reducible assumption) | assumption); obtain ⟨ad191, e191, hx191_0, hx191_1⟩ := at_T44 HR1_3.out x38_2 p191 q191; cases e191; have hn191_0 : ad191.block ≠ gb190 := Nat.ne_of_lt (Nat.lt_of_lt_of_le (by have := World.block_lt_of_cell? _ _ hx191_0; first | rwa [add_block] at this | exact this) GW190.out); have hn191_1 : ad191.block ≠ gb190 := Nat.ne_of_lt (Nat.lt_of_lt_of_le (by have := World.block_lt_of_cell? _ _ hx191_0; first | rwa [add_block] at this | exact this) GW190.out); replace hx191_0 := (HB.out.cell (World.block_lt_of_cell? w _ hx191_0)).trans hx191_0; replace hx191_1 := (HB.out.cell (World.block_lt_of_cell? w _ hx191_1)).trans hx191_1; replace hx191_0 := (cell_far (p := ⟨gb190, 0, none⟩) (by first | (rw [add_block]; exact hn191_0) | (show (Addr.add _ _).block ≠ _; rw [add_block]; exact hn191_0) | exact hn191_0) (.int .u32 ((rd_T44 l0_3 x38_2).f0))).trans hx191_0; replace hx191_1 := (cell_far (p := ⟨gb190, 0, none⟩) (by first | (rw [add_block]; exact hn191_0) | (show (Addr.add _ _).block ≠ _; rw [add_block]; exact hn191_0) | exact hn191_0) (.int .u32 ((rd_T44 l0_3 x38_2).f0))).trans hx191_1; replace hx191_0 := (cell_far (p := ⟨gb190, 1, none⟩) (by first | (rw [add_block]; exact hn191_1) | (show (Addr.add _ _).block ≠ _; rw [add_block]; exact hn191_1) | exact hn191_1) (.string ((rd_T44 l0_3 x38_2).f1))).trans hx191_0; replace hx191_1 := (cell_far (p := ⟨gb190, 1, none⟩) (by first | (rw [add_block]; exact hn191_1) | (show (Addr.add _ _).block ≠ _; rw [add_block]; exact hn191_1) | exact hn191_1) (.string ((rd_T44 l0_3 x38_2).f1))).trans hx191_1; (try have hy191_0 := fun (n_ : Nat) => (show ((((w29.drewN n_).setCell ⟨gb190, 0, none⟩ (.int .u32 ((rd_T44 l0_3 x38_2).f0))).setCell ⟨gb190, 1, none⟩ (.string ((rd_T44 l0_3 x38_2).f1)))).cell? _ = some _ from hx191_0)); (try have hy191_1 := fun (n_ : Nat) => (show ((((w29.drewN n_).setCell ⟨gb190, 0, none⟩ (.int .u32 ((rd_T44 l0_3 x38_2).f0))).setCell ⟨gb190, 1, none⟩ (.string ((rd_T44 l0_3 x38_2).f1)))).cell? _ = some _ from hx191_1)); clear hn191_0; clear hn191_1; replace p191 := eq_true p191; replace q191 := eq_true q191))
           repeat (go_quiet (first | ((with_reducible refine gate_dst (N := 6) rfl ?_); (try (refine gate_guard (by rfl) ?_; dsimp only)); refine box_event ?hg (N := 6) ?hd (cs := #[.int .u32 0, .string (⟨#[]⟩ : ByteArray)]) (t := 44) ?hr ?_; (case hd => rfl); (case hg => rfl); (case hr => first | (go_simp; done) | (go_simp; rfl)); intro gb190 hg w29 hbox hb; have n0_ := zA (zc6 (g := gb187) (o := .cells #[.int .i64 a0_0, .int .i64 a0_1, .int .i64 a0_2, .slice (some ad189) l0_3.length c0_3] 26 (0, 0)) (by (with_reducible repeat (first | refine zc3 ?_ _ | refine zc4 ?_ | refine zc2 ?_ _)); exact BK187.out) hb); have n1_ := zA (zc6 (g := gb188) (o := .cells #[.int .i64 a1_0, .int .i64 a1_1, .int .i64 a1_2, .slice A1_3 l1_3.length c1_3] 26 (0, 0)) (by (with_reducible repeat (first | refine zc3 ?_ _ | refine zc4 ?_ | refine zc2 ?_ _)); exact BK188.out) hb); have n2_ := zA (zb5 (by repeat (first | (with_reducible first | exact HB.out | apply zb3 | apply zb1 | apply zb2 | refine zb4 ?_ GE187.out | refine zb4 ?_ GE188.out) | exact HB.out)) hb); have n3_ := zA (hbox); have n4_ := zA ((by rw [hg]; exact (zb6 (by repeat (first | (with_reducible first | exact HB.out | apply zb3 | apply zb1 | apply zb2 | refine zb4 ?_ GE187.out | refine zb4 ?_ GE188.out) | exact HB.out))) : w.heap.size ≤ gb190)); have n5_ := zA ((by rw [hg]; exact (zb6 (by repeat (first | (with_reducible first | exact HB.out | apply zb3 | apply zb1 | apply zb2 | refine zb4 ?_ GE187.out | refine zb4 ?_ GE188.out) | exact HB.out))) : w.heap.size ≤ gb190)); have n6_ := zA ((by rw [hg]; exact Nat.ne_of_lt (blk_lt (g := gb187) (o := .cells #[.int .i64 a0_0, .int .i64 a0_1, .int .i64 a0_2, .slice (some ad189) l0_3.length c0_3] 26 (0, 0)) (by (with_reducible repeat (first | refine zc3 ?_ _ | refine zc4 ?_ | refine zc2 ?_ _)); exact BK187.out)) : gb187 ≠ gb190)); have n7_ := zA ((by rw [hg]; exact Nat.ne_of_gt (blk_lt (g := gb187) (o := .cells #[.int .i64 a0_0, .int .i64 a0_1, .int .i64 a0_2, .slice (some ad189) l0_3.length c0_3] 26 (0, 0)) (by (with_reducible repeat (first | refine zc3 ?_ _ | refine zc4 ?_ | refine zc2 ?_ _)); exact BK187.out)) : gb190 ≠ gb187)); have n8_ := zA ((by rw [hg]; exact Nat.ne_of_lt (blk_lt (g := gb188) (o := .cells #[.int .i64 a1_0, .int .i64 a1_1, .int .i64 a1_2, .slice A1_3 l1_3.length c1_3] 26 (0, 0)) (by (with_reducible repeat (first | refine zc3 ?_ _ | refine zc4 ?_ | refine zc2 ?_ _)); exact BK188.out)) : gb188 ≠ gb190)); have n9_ := zA ((by rw [hg]; exact Nat.ne_of_gt (blk_lt (g := gb188) (o := .cells #[.int .i64 a1_0, .int .i64 a1_1, .int .i64 a1_2, .slice A1_3 l1_3.length c1_3] 26 (0, 0)) (by (with_reducible repeat (first | refine zc3 ?_ _ | refine zc4 ?_ | refine zc2 ?_ _)); exact BK188.out)) : gb190 ≠ gb188)); clear BK187; clear BK188; clear HB; have BK187 := n0_; have BK188 := n1_; have HB := n2_; have BK190 := n3_; have GW190 := n4_; have GE190 := n5_; have NB187_190 := n6_; have NB190_187 := n7_; have NB188_190 := n8_; have NB190_188 := n9_; clear n0_ n1_ n2_ n3_ n4_ n5_ n6_ n7_ n8_ n9_; clear hb hbox hg; have hnb30 := NB190_187.out; have hnc30 := NB187_190.out; have hnb31 := NB190_188.out; have hnc31 := NB188_190.out; have hcz32_0 : w29.cell? ⟨gb190, 0, none⟩ = some (.int .u32 0) := (zc1 BK190.out 0).trans rfl; have hcz32_1 : w29.cell? ⟨gb190, 1, none⟩ = some (.string (⟨#[]⟩ : ByteArray)) := (zc1 BK190.out 1).trans rfl; have hfz32_0 := zc5 BK190.out 0; have hfz32_1 := zc5 BK190.out 1; have hnb33 := NB188_187.out; have hnc33 := NB187_188.out; have hcz34_0 : w29.cell? ⟨gb188, 0, none⟩ = some (.int .i64 a1_0) := (zc1 BK188.out 0).trans rfl; have hcz34_1 : w29.cell? ⟨gb188, 1, none⟩ = some (.int .i64 a1_1) := (zc1 BK188.out 1).trans rfl; have hcz34_2 : w29.cell? ⟨gb188, 2, none⟩ = some (.int .i64 a1_2) := (zc1 BK188.out 2).trans rfl; have hcz34_3 : w29.cell? ⟨gb188, 3, none⟩ = some (.slice A1_3 l1_3.length c1_3) := (zc1 BK188.out 3).trans rfl; have hfz34_0 := zc5 BK188.out 0; have hfz34_1 := zc5 BK188.out 1; have hfz34_2 := zc5 BK188.out 2; have hfz34_3 := zc5 BK188.out 3; have p191 : 0 ≤ (x38_2 : Int) := zd3 (by first | (with_reducible assumption) | assumption); have q191 : x38_2 < (l1_3.length : Int) := zd3 (by first | (with_reducible assumption) | assumption); obtain ⟨ad191, e191, hx191_0, hx191_1⟩ := at_T44 HR1_3.out x38_2 p191 q191; cases e191; have hn191_0 : ad191.block ≠ gb190 := Nat.ne_of_lt (Nat.lt_of_lt_of_le (by have := World.block_lt_of_cell? _ _ hx191_0; first | rwa [add_block] at this | exact this) GW190.out); have hn191_1 : ad191.block ≠ gb190 := Nat.ne_of_lt (Nat.lt_of_lt_of_le (by have := World.block_lt_of_cell? _ _ hx191_0; first | rwa [add_block] at this | exact this) GW190.out); replace hx191_0 := (HB.out.cell (World.block_lt_of_cell? w _ hx191_0)).trans hx191_0; replace hx191_1 := (HB.out.cell (World.block_lt_of_cell? w _ hx191_1)).trans hx191_1; replace hx191_0 := (cell_far (p := ⟨gb190, 0, none⟩) (by first | (rw [add_block]; exact hn191_0) | (show (Addr.add _ _).block ≠ _; rw [add_block]; exact hn191_0) | exact hn191_0) (.int .u32 ((rd_T44 l0_3 x38_2).f0))).trans hx191_0; replace hx191_1 := (cell_far (p := ⟨gb190, 0, none⟩) (by first | (rw [add_block]; exact hn191_0) | (show (Addr.add _ _).block ≠ _; rw [add_block]; exact hn191_0) | exact hn191_0) (.int .u32 ((rd_T44 l0_3 x38_2).f0))).trans hx191_1; replace hx191_0 := (cell_far (p := ⟨gb190, 1, none⟩) (by first | (rw [add_block]; exact hn191_1) | (show (Addr.add _ _).block ≠ _; rw [add_block]; exact hn191_1) | exact hn191_1) (.string ((rd_T44 l0_3 x38_2).f1))).trans hx191_0; replace hx191_1 := (cell_far (p := ⟨gb190, 1, none⟩) (by first | (rw [add_block]; exact hn191_1) | (show (Addr.add _ _).block ≠ _; rw [add_block]; exact hn191_1) | exact hn191_1) (.string ((rd_T44 l0_3 x38_2).f1))).trans hx191_1; (try have hy191_0 := fun (n_ : Nat) => (show ((((w29.drewN n_).setCell ⟨gb190, 0, none⟩ (.int .u32 ((rd_T44 l0_3 x38_2).f0))).setCell ⟨gb190, 1, none⟩ (.string ((rd_T44 l0_3 x38_2).f1)))).cell? _ = some _ from hx191_0)); (try have hy191_1 := fun (n_ : Nat) => (show ((((w29.drewN n_).setCell ⟨gb190, 0, none⟩ (.int .u32 ((rd_T44 l0_3 x38_2).f0))).setCell ⟨gb190, 1, none⟩ (.string ((rd_T44 l0_3 x38_2).f1)))).cell? _ = some _ from hx191_1)); clear hn191_0; clear hn191_1; replace p191 := eq_true p191; replace q191 := eq_true q191)); try go_wp2_with (first | ((with_reducible refine gate_dst (N := 6) rfl ?_); (try (refine gate_guard (by rfl) ?_; dsimp only)); refine box_event ?hg (N := 6) ?hd (cs := #[.int .u32 0, .string (⟨#[]⟩ : ByteArray)]) (t := 44) ?hr ?_; (case hd => rfl); (case hg => rfl); (case hr => first | (go_simp; done) | (go_simp; rfl)); intro gb190 hg w29 hbox hb; have n0_ := zA (zc6 (g := gb187) (o := .cells #[.int .i64 a0_0, .int .i64 a0_1, .int .i64 a0_2, .slice (some ad189) l0_3.length c0_3] 26 (0, 0)) (by (with_reducible repeat (first | refine zc3 ?_ _ | refine zc4 ?_ | refine zc2 ?_ _)); exact BK187.out) hb); have n1_ := zA (zc6 (g := gb188) (o := .cells #[.int .i64 a1_0, .int .i64 a1_1, .int .i64 a1_2, .slice A1_3 l1_3.length c1_3] 26 (0, 0)) (by (with_reducible repeat (first | refine zc3 ?_ _ | refine zc4 ?_ | refine zc2 ?_ _)); exact BK188.out) hb); have n2_ := zA (zb5 (by repeat (first | (with_reducible first | exact HB.out | apply zb3 | apply zb1 | apply zb2 | refine zb4 ?_ GE187.out | refine zb4 ?_ GE188.out) | exact HB.out)) hb); have n3_ := zA (hbox); have n4_ := zA ((by rw [hg]; exact (zb6 (by repeat (first | (with_reducible first | exact HB.out | apply zb3 | apply zb1 | apply zb2 | refine zb4 ?_ GE187.out | refine zb4 ?_ GE188.out) | exact HB.out))) : w.heap.size ≤ gb190)); have n5_ := zA ((by rw [hg]; exact (zb6 (by repeat (first | (with_reducible first | exact HB.out | apply zb3 | apply zb1 | apply zb2 | refine zb4 ?_ GE187.out | refine zb4 ?_ GE188.out) | exact HB.out))) : w.heap.size ≤ gb190)); have n6_ := zA ((by rw [hg]; exact Nat.ne_of_lt (blk_lt (g := gb187) (o := .cells #[.int .i64 a0_0, .int .i64 a0_1, .int .i64 a0_2, .slice (some ad189) l0_3.length c0_3] 26 (0, 0)) (by (with_reducible repeat (first | refine zc3 ?_ _ | refine zc4 ?_ | refine zc2 ?_ _)); exact BK187.out)) : gb187 ≠ gb190)); have n7_ := zA ((by rw [hg]; exact Nat.ne_of_gt (blk_lt (g := gb187) (o := .cells #[.int .i64 a0_0, .int .i64 a0_1, .int .i64 a0_2, .slice (some ad189) l0_3.length c0_3] 26 (0, 0)) (by (with_reducible repeat (first | refine zc3 ?_ _ | refine zc4 ?_ | refine zc2 ?_ _)); exact BK187.out)) : gb190 ≠ gb187)); have n8_ := zA ((by rw [hg]; exact Nat.ne_of_lt (blk_lt (g := gb188) (o := .cells #[.int .i64 a1_0, .int .i64 a1_1, .int .i64 a1_2, .slice A1_3 l1_3.length c1_3] 26 (0, 0)) (by (with_reducible repeat (first | refine zc3 ?_ _ | refine zc4 ?_ | refine zc2 ?_ _)); exact BK188.out)) : gb188 ≠ gb190)); have n9_ := zA ((by rw [hg]; exact Nat.ne_of_gt (blk_lt (g := gb188) (o := .cells #[.int .i64 a1_0, .int .i64 a1_1, .int .i64 a1_2, .slice A1_3 l1_3.length c1_3] 26 (0, 0)) (by (with_reducible repeat (first | refine zc3 ?_ _ | refine zc4 ?_ | refine zc2 ?_ _)); exact BK188.out)) : gb190 ≠ gb188)); clear BK187; clear BK188; clear HB; have BK187 := n0_; have BK188 := n1_; have HB := n2_; have BK190 := n3_; have GW190 := n4_; have GE190 := n5_; have NB187_190 := n6_; have NB190_187 := n7_; have NB188_190 := n8_; have NB190_188 := n9_; clear n0_ n1_ n2_ n3_ n4_ n5_ n6_ n7_ n8_ n9_; clear hb hbox hg; have hnb30 := NB190_187.out; have hnc30 := NB187_190.out; have hnb31 := NB190_188.out; have hnc31 := NB188_190.out; have hcz32_0 : w29.cell? ⟨gb190, 0, none⟩ = some (.int .u32 0) := (zc1 BK190.out 0).trans rfl; have hcz32_1 : w29.cell? ⟨gb190, 1, none⟩ = some (.string (⟨#[]⟩ : ByteArray)) := (zc1 BK190.out 1).trans rfl; have hfz32_0 := zc5 BK190.out 0; have hfz32_1 := zc5 BK190.out 1; have hnb33 := NB188_187.out; have hnc33 := NB187_188.out; have hcz34_0 : w29.cell? ⟨gb188, 0, none⟩ = some (.int .i64 a1_0) := (zc1 BK188.out 0).trans rfl; have hcz34_1 : w29.cell? ⟨gb188, 1, none⟩ = some (.int .i64 a1_1) := (zc1 BK188.out 1).trans rfl; have hcz34_2 : w29.cell? ⟨gb188, 2, none⟩ = some (.int .i64 a1_2) := (zc1 BK188.out 2).trans rfl; have hcz34_3 : w29.cell? ⟨gb188, 3, none⟩ = some (.slice A1_3 l1_3.length c1_3) := (zc1 BK188.out 3).trans rfl; have hfz34_0 := zc5 BK188.out 0; have hfz34_1 := zc5 BK188.out 1; have hfz34_2 := zc5 BK188.out 2; have hfz34_3 := zc5 BK188.out 3; have p191 : 0 ≤ (x38_2 : Int) := zd3 (by first | (with_reducible assumption) | assumption); have q191 : x38_2 < (l1_3.length : Int) := zd3 (by first | (with_reducible assumption) | assumption); obtain ⟨ad191, e191, hx191_0, hx191_1⟩ := at_T44 HR1_3.out x38_2 p191 q191; cases e191; have hn191_0 : ad191.block ≠ gb190 := Nat.ne_of_lt (Nat.lt_of_lt_of_le (by have := World.block_lt_of_cell? _ _ hx191_0; first | rwa [add_block] at this | exact this) GW190.out); have hn191_1 : ad191.block ≠ gb190 := Nat.ne_of_lt (Nat.lt_of_lt_of_le (by have := World.block_lt_of_cell? _ _ hx191_0; first | rwa [add_block] at this | exact this) GW190.out); replace hx191_0 := (HB.out.cell (World.block_lt_of_cell? w _ hx191_0)).trans hx191_0; replace hx191_1 := (HB.out.cell (World.block_lt_of_cell? w _ hx191_1)).trans hx191_1; replace hx191_0 := (cell_far (p := ⟨gb190, 0, none⟩) (by first | (rw [add_block]; exact hn191_0) | (show (Addr.add _ _).block ≠ _; rw [add_block]; exact hn191_0) | exact hn191_0) (.int .u32 ((rd_T44 l0_3 x38_2).f0))).trans hx191_0; replace hx191_1 := (cell_far (p := ⟨gb190, 0, none⟩) (by first | (rw [add_block]; exact hn191_0) | (show (Addr.add _ _).block ≠ _; rw [add_block]; exact hn191_0) | exact hn191_0) (.int .u32 ((rd_T44 l0_3 x38_2).f0))).trans hx191_1; replace hx191_0 := (cell_far (p := ⟨gb190, 1, none⟩) (by first | (rw [add_block]; exact hn191_1) | (show (Addr.add _ _).block ≠ _; rw [add_block]; exact hn191_1) | exact hn191_1) (.string ((rd_T44 l0_3 x38_2).f1))).trans hx191_0; replace hx191_1 := (cell_far (p := ⟨gb190, 1, none⟩) (by first | (rw [add_block]; exact hn191_1) | (show (Addr.add _ _).block ≠ _; rw [add_block]; exact hn191_1) | exact hn191_1) (.string ((rd_T44 l0_3 x38_2).f1))).trans hx191_1; (try have hy191_0 := fun (n_ : Nat) => (show ((((w29.drewN n_).setCell ⟨gb190, 0, none⟩ (.int .u32 ((rd_T44 l0_3 x38_2).f0))).setCell ⟨gb190, 1, none⟩ (.string ((rd_T44 l0_3 x38_2).f1)))).cell? _ = some _ from hx191_0)); (try have hy191_1 := fun (n_ : Nat) => (show ((((w29.drewN n_).setCell ⟨gb190, 0, none⟩ (.int .u32 ((rd_T44 l0_3 x38_2).f0))).setCell ⟨gb190, 1, none⟩ (.string ((rd_T44 l0_3 x38_2).f1)))).cell? _ = some _ from hx191_1)); clear hn191_0; clear hn191_1; replace p191 := eq_true p191; replace q191 := eq_true q191)))
           go_ret
           exact ⟨by first | rfl | (simp [*] <;> rfl), by repeat (first | (with_reducible first | exact HB.out | apply zb3 | apply zb1 | apply zb2 | refine zb4 ?_ GE187.out | refine zb4 ?_ GE188.out | refine zb4 ?_ GE190.out) | exact HB.out)⟩
          ·rw [if_neg c28] at H
           have c28b0 : (!(((rd_T44 l0_3 x38_2).f0) == ((rd_T44 l1_3 x38_2).f0)) || (!((((rd_T44 l0_3 x38_2).f1).toList) == (((rd_T44 l1_3 x38_2).f1).toList)))) = false := by simpa using c28
           clear c28
           have H' := zA H
           clear H
           have p189 : 0 ≤ (x38_2 : Int) := zd3 (by first | (with_reducible assumption) | assumption)
           have q189 : x38_2 < (l0_3.length : Int) := zd3 (by first | (with_reducible assumption) | assumption)
           obtain ⟨ad189, e189, hx189_0, hx189_1⟩ := at_T44 HR0_3.out x38_2 p189 q189
           cases e189
           replace hx189_0 := (HB.out.cell (World.block_lt_of_cell? w _ hx189_0)).trans hx189_0
           replace hx189_1 := (HB.out.cell (World.block_lt_of_cell? w _ hx189_1)).trans hx189_1
           replace p189 := eq_true p189
           replace q189 := eq_true q189
           go_wp2_with (first | ((with_reducible refine gate_dst (N := 6) rfl ?_); (try (refine gate_guard (by rfl) ?_; dsimp only)); refine box_event ?hg (N := 6) ?hd (cs := #[.int .u32 0, .string (⟨#[]⟩ : ByteArray)]) (t := 44) ?hr ?_; (case hd => rfl); (case hg => rfl); (case hr => first | (go_simp; done) | (go_simp; rfl)); intro gb190 hg w35 hbox hb; have n0_ := zA (zc6 (g := gb187) (o := .cells #[.int .i64 a0_0, .int .i64 a0_1, .int .i64 a0_2, .slice (some ad189) l0_3.length c0_3] 26 (0, 0)) (by (with_reducible repeat (first | refine zc3 ?_ _ | refine zc4 ?_ | refine zc2 ?_ _)); exact BK187.out) hb); have n1_ := zA (zc6 (g := gb188) (o := .cells #[.int .i64 a1_0, .int .i64 a1_1, .int .i64 a1_2, .slice A1_3 l1_3.length c1_3] 26 (0, 0)) (by (with_reducible repeat (first | refine zc3 ?_ _ | refine zc4 ?_ | refine zc2 ?_ _)); exact BK188.out) hb); have n2_ := zA (zb5 (by repeat (first | (with_reducible first | exact HB.out | apply zb3 | apply zb1 | apply zb2 | refine zb4 ?_ GE187.out | refine zb4 ?_ GE188.out) | exact HB.out)) hb); have n3_ := zA (hbox); have n4_ := zA ((by rw [hg]; exact (zb6 (by repeat (first | (with_reducible first | exact HB.out | apply zb3 | apply zb1 | apply zb2 | refine zb4 ?_ GE187.out | refine zb4 ?_ GE188.out) | exact HB.out))) : w.heap.size ≤ gb190)); have n5_ := zA ((by rw [hg]; exact (zb6 (by repeat (first | (with_reducible first | exact HB.out | apply zb3 | apply zb1 | apply zb2 | refine zb4 ?_ GE187.out | refine zb4 ?_ GE188.out) | exact HB.out))) : w.heap.size ≤ gb190)); have n6_ := zA ((by rw [hg]; exact Nat.ne_of_lt (blk_lt (g := gb187) (o := .cells #[.int .i64 a0_0, .int .i64 a0_1, .int .i64 a0_2, .slice (some ad189) l0_3.length c0_3] 26 (0, 0)) (by (with_reducible repeat (first | refine zc3 ?_ _ | refine zc4 ?_ | refine zc2 ?_ _)); exact BK187.out)) : gb187 ≠ gb190)); have n7_ := zA ((by rw [hg]; exact Nat.ne_of_gt (blk_lt (g := gb187) (o := .cells #[.int .i64 a0_0, .int .i64 a0_1, .int .i64 a0_2, .slice (some ad189) l0_3.length c0_3] 26 (0, 0)) (by (with_reducible repeat (first | refine zc3 ?_ _ | refine zc4 ?_ | refine zc2 ?_ _)); exact BK187.out)) : gb190 ≠ gb187)); have n8_ := zA ((by rw [hg]; exact Nat.ne_of_lt (blk_lt (g := gb188) (o := .cells #[.int .i64 a1_0, .int .i64 a1_1, .int .i64 a1_2, .slice A1_3 l1_3.length c1_3] 26 (0, 0)) (by (with_reducible repeat (first | refine zc3 ?_ _ | refine zc4 ?_ | refine zc2 ?_ _)); exact BK188.out)) : gb188 ≠ gb190)); have n9_ := zA ((by rw [hg]; exact Nat.ne_of_gt (blk_lt (g := gb188) (o := .cells #[.int .i64 a1_0, .int .i64 a1_1, .int .i64 a1_2, .slice A1_3 l1_3.length c1_3] 26 (0, 0)) (by (with_reducible repeat (first | refine zc3 ?_ _ | refine zc4 ?_ | refine zc2 ?_ _)); exact BK188.out)) : gb190 ≠ gb188)); clear BK187; clear BK188; clear HB; have BK187 := n0_; have BK188 := n1_; have HB := n2_; have BK190 := n3_; have GW190 := n4_; have GE190 := n5_; have NB187_190 := n6_; have NB190_187 := n7_; have NB188_190 := n8_; have NB190_188 := n9_; clear n0_ n1_ n2_ n3_ n4_ n5_ n6_ n7_ n8_ n9_; clear hb hbox hg; have hnb36 := NB190_187.out; have hnc36 := NB187_190.out; have hnb37 := NB190_188.out; have hnc37 := NB188_190.out; have hcz38_0 : w35.cell? ⟨gb190, 0, none⟩ = some (.int .u32 0) := (zc1 BK190.out 0).trans rfl; have hcz38_1 : w35.cell? ⟨gb190, 1, none⟩ = some (.string (⟨#[]⟩ : ByteArray)) := (zc1 BK190.out 1).trans rfl; have hfz38_0 := zc5 BK190.out 0; have hfz38_1 := zc5 BK190.out 1; have hnb39 := NB188_187.out; have hnc39 := NB187_188.out; have hcz40_0 : w35.cell? ⟨gb188, 0, none⟩ = some (.int .i64 a1_0) := (zc1 BK188.out 0).trans rfl; have hcz40_1 : w35.cell? ⟨gb188, 1, none⟩ = some (.int .i64 a1_1) := (zc1 BK188.out 1).trans rfl; have hcz40_2 : w35.cell? ⟨gb188, 2, none⟩ = some (.int .i64 a1_2) := (zc1 BK188.out 2).trans rfl; have hcz40_3 : w35.cell? ⟨gb188, 3, none⟩ = some (.slice A1_3 l1_3.length c1_3) := (zc1 BK188.out 3).trans rfl; have hfz40_0 := zc5 BK188.out 0; have hfz40_1 := zc5 BK188.out 1; have hfz40_2 := zc5 BK188.out 2; have hfz40_3 := zc5 BK188.out 3; have p191 : 0 ≤ (x38_2 : Int) := zd3 (by first | (with_reducible assumption) | assumption); have q191 : x38_2 < (l1_3.length : Int) := zd3 (by first | (with_reducible assumption) | assumption); obtain ⟨ad191, e191, hx191_0, hx191_1⟩ := at_T44 HR1_3.out x38_2 p191 q191; cases e191; have hn191_0 : ad191.block ≠ gb190 := Nat.ne_of_lt (Nat.lt_of_lt_of_le (by have := World.block_lt_of_cell? _ _ hx191_0; first | rwa [add_block] at this | exact this) GW190.out); have hn191_1 : ad191.block ≠ gb190 := Nat.ne_of_lt (Nat.lt_of_lt_of_le (by have := World.block_lt_of_cell? _ _ hx191_0; first | rwa [add_block] at this | exact this) GW190.out); replace hx191_0 := (HB.out.cell (World.block_lt_of_cell? w _ hx191_0)).trans hx191_0; replace hx191_1 := (HB.out.cell (World.block_lt_of_cell? w _ hx191_1)).trans hx191_1; replace hx191_0 := (cell_far (p := ⟨gb190, 0, none⟩) (by first | (rw [add_block]; exact hn191_0) | (show (Addr.add _ _).block ≠ _; rw [add_block]; exact hn191_0) | exact hn191_0) (.int .u32 ((rd_T44 l0_3 x38_2).f0))).trans hx191_0; replace hx191_1 := (cell_far (p := ⟨gb190, 0, none⟩) (by first | (rw [add_block]; exact hn191_0) | (show (Addr.add _ _).block ≠ _; rw [add_block]; exact hn191_0) | exact hn191_0) (.int .u32 ((rd_T44 l0_3 x38_2).f0))).trans hx191_1; replace hx191_0 := (cell_far (p := ⟨gb190, 1, none⟩) (by first | (rw [add_block]; exact hn191_1) | (show (Addr.add _ _).block ≠ _; rw [add_block]; exact hn191_1) | exact hn191_1) (.string ((rd_T44 l0_3 x38_2).f1))).trans hx191_0; replace hx191_1 := (cell_far (p := ⟨gb190, 1, none⟩) (by first | (rw [add_block]; exact hn191_1) | (show (Addr.add _ _).block ≠ _; rw [add_block]; exact hn191_1) | exact hn191_1) (.string ((rd_T44 l0_3 x38_2).f1))).trans hx191_1; (try have hy191_0 := fun (n_ : Nat) => (show ((((w35.drewN n_).setCell ⟨gb190, 0, none⟩ (.int .u32 ((rd_T44 l0_3 x38_2).f0))).setCell ⟨gb190, 1, none⟩ (.string ((rd_T44 l0_3 x38_2).f1)))).cell? _ = some _ from hx191_0)); (try have hy191_1 := fun (n_ : Nat) => (show ((((w35.drewN n_).setCell ⟨gb190, 0, none⟩ (.int .u32 ((rd_T44 l0_3 x38_2).f0))).setCell ⟨gb190, 1, none⟩ (.string ((rd_T44 l0_3 x38_2).f1)))).cell? _ = some _ from hx191_1)); clear hn191_0; clear hn191_1; replace p191 := eq_true p191; replace q191 := eq_true q191))
           repeat (go_quiet (first | ((with_reducible refine gate_dst (N := 6) rfl ?_); (try (refine gate_guard (by rfl) ?_; dsimp only)); refine box_event ?hg (N := 6) ?hd (cs := #[.int .u32 0, .string (⟨#[]⟩ : ByteArray)]) (t := 44) ?hr ?_; (case hd => rfl); (case hg => rfl); (case hr => first | (go_simp; done) | (go_simp; rfl)); intro gb190 hg w35 hbox hb; have n0_ := zA (zc6 (g := gb187) (o := .cells #[.int .i64 a0_0, .int .i64 a0_1, .int .i64 a0_2, .slice (some ad189) l0_3.length c0_3] 26 (0, 0)) (by (with_reducible repeat (first | refine zc3 ?_ _ | refine zc4 ?_ | refine zc2 ?_ _)); exact BK187.out) hb); have n1_ := zA (zc6 (g := gb188) (o := .cells #[.int .i64 a1_0, .int .i64 a1_1, .int .i64 a1_2, .slice A1_3 l1_3.length c1_3] 26 (0, 0)) (by (with_reducible repeat (first | refine zc3 ?_ _ | refine zc4 ?_ | refine zc2 ?_ _)); exact BK188.out) hb); have n2_ := zA (zb5 (by repeat (first | (with_reducible first | exact HB.out | apply zb3 | apply zb1 | apply zb2 | refine zb4 ?_ GE187.out | refine zb4 ?_ GE188.out) | exact HB.out)) hb); have n3_ := zA (hbox); have n4_ := zA ((by rw [hg]; exact (zb6 (by repeat (first | (with_reducible first | exact HB.out | apply zb3 | apply zb1 | apply zb2 | refine zb4 ?_ GE187.out | refine zb4 ?_ GE188.out) | exact HB.out))) : w.heap.size ≤ gb190)); have n5_ := zA ((by rw [hg]; exact (zb6 (by repeat (first | (with_reducible first | exact HB.out | apply zb3 | apply zb1 | apply zb2 | refine zb4 ?_ GE187.out | refine zb4 ?_ GE188.out) | exact HB.out))) : w.heap.size ≤ gb190)); have n6_ := zA ((by rw [hg]; exact Nat.ne_of_lt (blk_lt (g := gb187) (o := .cells #[.int .i64 a0_0, .int .i64 a0_1, .int .i64 a0_2, .slice (some ad189) l0_3.length c0_3] 26 (0, 0)) (by (with_reducible repeat (first | refine zc3 ?_ _ | refine zc4 ?_ | refine zc2 ?_ _)); exact BK187.out)) : gb187 ≠ gb190)); have n7_ := zA ((by rw [hg]; exact Nat.ne_of_gt (blk_lt (g := gb187) (o := .cells #[.int .i64 a0_0, .int .i64 a0_1, .int .i64 a0_2, .slice (some ad189) l0_3.length c0_3] 26 (0, 0)) (by (with_reducible repeat (first | refine zc3 ?_ _ | refine zc4 ?_ | refine zc2 ?_ _)); exact BK187.out)) : gb190 ≠ gb187)); have n8_ := zA ((by rw [hg]; exact Nat.ne_of_lt (blk_lt (g := gb188) (o := .cells #[.int .i64 a1_0, .int .i64 a1_1, .int .i64 a1_2, .slice A1_3 l1_3.length c1_3] 26 (0, 0)) (by (with_reducible repeat (first | refine zc3 ?_ _ | refine zc4 ?_ | refine zc2 ?_ _)); exact BK188.out)) : gb188 ≠ gb190)); have n9_ := zA ((by rw [hg]; exact Nat.ne_of_gt (blk_lt (g := gb188) (o := .cells #[.int .i64 a1_0, .int .i64 a1_1, .int .i64 a1_2, .slice A1_3 l1_3.length c1_3] 26 (0, 0)) (by (with_reducible repeat (first | refine zc3 ?_ _ | refine zc4 ?_ | refine zc2 ?_ _)); exact BK188.out)) : gb190 ≠ gb188)); clear BK187; clear BK188; clear HB; have BK187 := n0_; have BK188 := n1_; have HB := n2_; have BK190 := n3_; have GW190 := n4_; have GE190 := n5_; have NB187_190 := n6_; have NB190_187 := n7_; have NB188_190 := n8_; have NB190_188 := n9_; clear n0_ n1_ n2_ n3_ n4_ n5_ n6_ n7_ n8_ n9_; clear hb hbox hg; have hnb36 := NB190_187.out; have hnc36 := NB187_190.out; have hnb37 := NB190_188.out; have hnc37 := NB188_190.out; have hcz38_0 : w35.cell? ⟨gb190, 0, none⟩ = some (.int .u32 0) := (zc1 BK190.out 0).trans rfl; have hcz38_1 : w35.cell? ⟨gb190, 1, none⟩ = some (.string (⟨#[]⟩ : ByteArray)) := (zc1 BK190.out 1).trans rfl; have hfz38_0 := zc5 BK190.out 0; have hfz38_1 := zc5 BK190.out 1; have hnb39 := NB188_187.out; have hnc39 := NB187_188.out; have hcz40_0 : w35.cell? ⟨gb188, 0, none⟩ = some (.int .i64 a1_0) := (zc1 BK188.out 0).trans rfl; have hcz40_1 : w35.cell? ⟨gb188, 1, none⟩ = some (.int .i64 a1_1) := (zc1 BK188.out 1).trans rfl; have hcz40_2 : w35.cell? ⟨gb188, 2, none⟩ = some (.int .i64 a1_2) := (zc1 BK188.out 2).trans rfl; have hcz40_3 : w35.cell? ⟨gb188, 3, none⟩ = some (.slice A1_3 l1_3.length c1_3) := (zc1 BK188.out 3).trans rfl; have hfz40_0 := zc5 BK188.out 0; have hfz40_1 := zc5 BK188.out 1; have hfz40_2 := zc5 BK188.out 2; have hfz40_3 := zc5 BK188.out 3; have p191 : 0 ≤ (x38_2 : Int) := zd3 (by first | (with_reducible assumption) | assumption); have q191 : x38_2 < (l1_3.length : Int) := zd3 (by first | (with_reducible assumption) | assumption); obtain ⟨ad191, e191, hx191_0, hx191_1⟩ := at_T44 HR1_3.out x38_2 p191 q191; cases e191; have hn191_0 : ad191.block ≠ gb190 := Nat.ne_of_lt (Nat.lt_of_lt_of_le (by have := World.block_lt_of_cell? _ _ hx191_0; first | rwa [add_block] at this | exact this) GW190.out); have hn191_1 : ad191.block ≠ gb190 := Nat.ne_of_lt (Nat.lt_of_lt_of_le (by have := World.block_lt_of_cell? _ _ hx191_0; first | rwa [add_block] at this | exact this) GW190.out); replace hx191_0 := (HB.out.cell (World.block_lt_of_cell? w _ hx191_0)).trans hx191_0; replace hx191_1 := (HB.out.cell (World.block_lt_of_cell? w _ hx191_1)).trans hx191_1; replace hx191_0 := (cell_far (p := ⟨gb190, 0, none⟩) (by first | (rw [add_block]; exact hn191_0) | (show (Addr.add _ _).block ≠ _; rw [add_block]; exact hn191_0) | exact hn191_0) (.int .u32 ((rd_T44 l0_3 x38_2).f0))).trans hx191_0; replace hx191_1 := (cell_far (p := ⟨gb190, 0, none⟩) (by first | (rw [add_block]; exact hn191_0) | (show (Addr.add _ _).block ≠ _; rw [add_block]; exact hn191_0) | exact hn191_0) (.int .u32 ((rd_T44 l0_3 x38_2).f0))).trans hx191_1; replace hx191_0 := (cell_far (p := ⟨gb190, 1, none⟩) (by first | (rw [add_block]; exact hn191_1) | (show (Addr.add _ _).block ≠ _; rw [add_block]; exact hn191_1) | exact hn191_1) (.string ((rd_T44 l0_3 x38_2).f1))).trans hx191_0; replace hx191_1 := (cell_far (p := ⟨gb190, 1, none⟩) (by first | (rw [add_block]; exact hn191_1) | (show (Addr.add _ _).block ≠ _; rw [add_block]; exact hn191_1) | exact hn191_1) (.string ((rd_T44 l0_3 x38_2).f1))).trans hx191_1; (try have hy191_0 := fun (n_ : Nat) => (show ((((w35.drewN n_).setCell ⟨gb190, 0, none⟩ (.int .u32 ((rd_T44 l0_3 x38_2).f0))).setCell ⟨gb190, 1, none⟩ (.string ((rd_T44 l0_3 x38_2).f1)))).cell? _ = some _ from hx191_0)); (try have hy191_1 := fun (n_ : Nat) => (show ((((w35.drewN n_).setCell ⟨gb190, 0, none⟩ (.int .u32 ((rd_T44 l0_3 x38_2).f0))).setCell ⟨gb190, 1, none⟩ (.string ((rd_T44 l0_3 x38_2).f1)))).cell? _ = some _ from hx191_1)); clear hn191_0; clear hn191_1; replace p191 := eq_true p191; replace q191 := eq_true q191)); try go_wp2_with (first | ((with_reducible refine gate_dst (N := 6) rfl ?_); (try (refine gate_guard (by rfl) ?_; dsimp only)); refine box_event ?hg (N := 6) ?hd (cs := #[.int .u32 0, .string (⟨#[]⟩ : ByteArray)]) (t := 44) ?hr ?_; (case hd => rfl); (case hg => rfl); (case hr => first | (go_simp; done) | (go_simp; rfl)); intro gb190 hg w35 hbox hb; have n0_ := zA (zc6 (g := gb187) (o := .cells #[.int .i64 a0_0, .int .i64 a0_1, .int .i64 a0_2, .slice (some ad189) l0_3.length c0_3] 26 (0, 0)) (by (with_reducible repeat (first | refine zc3 ?_ _ | refine zc4 ?_ | refine zc2 ?_ _)); exact BK187.out) hb); have n1_ := zA (zc6 (g := gb188) (o := .cells #[.int .i64 a1_0, .int .i64 a1_1, .int .i64 a1_2, .slice A1_3 l1_3.length c1_3] 26 (0, 0)) (by (with_reducible repeat (first | refine zc3 ?_ _ | refine zc4 ?_ | refine zc2 ?_ _)); exact BK188.out) hb); have n2_ := zA (zb5 (by repeat (first | (with_reducible first | exact HB.out | apply zb3 | apply zb1 | apply zb2 | refine zb4 ?_ GE187.out | refine zb4 ?_ GE188.out) | exact HB.out)) hb); have n3_ := zA (hbox); have n4_ := zA ((by rw [hg]; exact (zb6 (by repeat (first | (with_reducible first | exact HB.out | apply zb3 | apply zb1 | apply zb2 | refine zb4 ?_ GE187.out | refine zb4 ?_ GE188.out) | exact HB.out))) : w.heap.size ≤ gb190)); have n5_ := zA ((by rw [hg]; exact (zb6 (by repeat (first | (with_reducible first | exact HB.out | apply zb3 | apply zb1 | apply zb2 | refine zb4 ?_ GE187.out | refine zb4 ?_ GE188.out) | exact HB.out))) : w.heap.size ≤ gb190)); have n6_ := zA ((by rw [hg]; exact Nat.ne_of_lt (blk_lt (g := gb187) (o := .cells #[.int .i64 a0_0, .int .i64 a0_1, .int .i64 a0_2, .slice (some ad189) l0_3.length c0_3] 26 (0, 0)) (by (with_reducible repeat (first | refine zc3 ?_ _ | refine zc4 ?_ | refine zc2 ?_ _)); exact BK187.out)) : gb187 ≠ gb190)); have n7_ := zA ((by rw [hg]; exact Nat.ne_of_gt (blk_lt (g := gb187) (o := .cells #[.int .i64 a0_0, .int .i64 a0_1, .int .i64 a0_2, .slice (some ad189) l0_3.length c0_3] 26 (0, 0)) (by (with_reducible repeat (first | refine zc3 ?_ _ | refine zc4 ?_ | refine zc2 ?_ _)); exact BK187.out)) : gb190 ≠ gb187)); have n8_ := zA ((by rw [hg]; exact Nat.ne_of_lt (blk_lt (g := gb188) (o := .cells #[.int .i64 a1_0, .int .i64 a1_1, .int .i64 a1_2, .slice A1_3 l1_3.length c1_3] 26 (0, 0)) (by (with_reducible repeat (first | refine zc3 ?_ _ | refine zc4 ?_ | refine zc2 ?_ _)); exact BK188.out)) : gb188 ≠ gb190)); have n9_ := zA ((by rw [hg]; exact Nat.ne_of_gt (blk_lt (g := gb188) (o := .cells #[.int .i64 a1_0, .int .i64 a1_1, .int .i64 a1_2, .slice A1_3 l1_3.length c1_3] 26 (0, 0)) (by (with_reducible repeat (first | refine zc3 ?_ _ | refine zc4 ?_ | refine zc2 ?_ _)); exact BK188.out)) : gb190 ≠ gb188)); clear BK187; clear BK188; clear HB; have BK187 := n0_; have BK188 := n1_; have HB := n2_; have BK190 := n3_; have GW190 := n4_; have GE190 := n5_; have NB187_190 := n6_; have NB190_187 := n7_; have NB188_190 := n8_; have NB190_188 := n9_; clear n0_ n1_ n2_ n3_ n4_ n5_ n6_ n7_ n8_ n9_; clear hb hbox hg; have hnb36 := NB190_187.out; have hnc36 := NB187_190.out; have hnb37 := NB190_188.out; have hnc37 := NB188_190.out; have hcz38_0 : w35.cell? ⟨gb190, 0, none⟩ = some (.int .u32 0) := (zc1 BK190.out 0).trans rfl; have hcz38_1 : w35.cell? ⟨gb190, 1, none⟩ = some (.string (⟨#[]⟩ : ByteArray)) := (zc1 BK190.out 1).trans rfl; have hfz38_0 := zc5 BK190.out 0; have hfz38_1 := zc5 BK190.out 1; have hnb39 := NB188_187.out; have hnc39 := NB187_188.out; have hcz40_0 : w35.cell? ⟨gb188, 0, none⟩ = some (.int .i64 a1_0) := (zc1 BK188.out 0).trans rfl; have hcz40_1 : w35.cell? ⟨gb188, 1, none⟩ = some (.int .i64 a1_1) := (zc1 BK188.out 1).trans rfl; have hcz40_2 : w35.cell? ⟨gb188, 2, none⟩ = some (.int .i64 a1_2) := (zc1 BK188.out 2).trans rfl; have hcz40_3 : w35.cell? ⟨gb188, 3, none⟩ = some (.slice A1_3 l1_3.length c1_3) := (zc1 BK188.out 3).trans rfl; have hfz40_0 := zc5 BK188.out 0; have hfz40_1 := zc5 BK188.out 1; have hfz40_2 := zc5 BK188.out 2; have hfz40_3 := zc5 BK188.out 3; have p191 : 0 ≤ (x38_2 : Int) := zd3 (by first | (with_reducible assumption) | assumption); have q191 : x38_2 < (l1_3.length : Int) := zd3 (by first | (with_reducible assumption) | assumption); obtain ⟨ad191, e191, hx191_0, hx191_1⟩ := at_T44 HR1_3.out x38_2 p191 q191; cases e191; have hn191_0 : ad191.block ≠ gb190 := Nat.ne_of_lt (Nat.lt_of_lt_of_le (by have := World.block_lt_of_cell? _ _ hx191_0; first | rwa [add_block] at this | exact this) GW190.out); have hn191_1 : ad191.block ≠ gb190 := Nat.ne_of_lt (Nat.lt_of_lt_of_le (by have := World.block_lt_of_cell? _ _ hx191_0; first | rwa [add_block] at this | exact this) GW190.out); replace hx191_0 := (HB.out.cell (World.block_lt_of_cell? w _ hx191_0)).trans hx191_0; replace hx191_1 := (HB.out.cell (World.block_lt_of_cell? w _ hx191_1)).trans hx191_1; replace hx191_0 := (cell_far (p := ⟨gb190, 0, none⟩) (by first | (rw [add_block]; exact hn191_0) | (show (Addr.add _ _).block ≠ _; rw [add_block]; exact hn191_0) | exact hn191_0) (.int .u32 ((rd_T44 l0_3 x38_2).f0))).trans hx191_0; replace hx191_1 := (cell_far (p := ⟨gb190, 0, none⟩) (by first | (rw [add_block]; exact hn191_0) | (show (Addr.add _ _).block ≠ _; rw [add_block]; exact hn191_0) | exact hn191_0) (.int .u32 ((rd_T44 l0_3 x38_2).f0))).trans hx191_1; replace hx191_0 := (cell_far (p := ⟨gb190, 1, none⟩) (by first | (rw [add_block]; exact hn191_1) | (show (Addr.add _ _).block ≠ _; rw [add_block]; exact hn191_1) | exact hn191_1) (.string ((rd_T44 l0_3 x38_2).f1))).trans hx191_0; replace hx191_1 := (cell_far (p := ⟨gb190, 1, none⟩) (by first | (rw [add_block]; exact hn191_1) | (show (Addr.add _ _).block ≠ _; rw [add_block]; exact hn191_1) | exact hn191_1) (.string ((rd_T44 l0_3 x38_2).f1))).trans hx191_1; (try have hy191_0 := fun (n_ : Nat) => (show ((((w35.drewN n_).setCell ⟨gb190, 0, none⟩ (.int .u32 ((rd_T44 l0_3 x38_2).f0))).setCell ⟨gb190, 1, none⟩ (.string ((rd_T44 l0_3 x38_2).f1)))).cell? _ = some _ from hx191_0)); (try have hy191_1 := fun (n_ : Nat) => (show ((((w35.drewN n_).setCell ⟨gb190, 0, none⟩ (.int .u32 ((rd_T44 l0_3 x38_2).f0))).setCell ⟨gb190, 1, none⟩ (.string ((rd_T44 l0_3 x38_2).f1)))).cell? _ = some _ from hx191_1)); clear hn191_0; clear hn191_1; replace p191 := eq_true p191; replace q191 := eq_true q191)))
           go_roundg k2
           case measure => have := HJ2.out; have := HK2.out; omega
           case rel => exact ⟨(wrap64 (x38_2 + 1)), (by first | rfl | (simp; done) | (simp [*]; done)), H', ⟨by have := HJ2.out; have := HK2.out; omega⟩, ⟨by (with_reducible repeat (first | refine zc3 ?_ _ | refine zc4 ?_ | refine zc2 ?_ _)); refine zc7 ?_ NB187_190.out _; (with_reducible repeat (first | refine zc3 ?_ _ | refine zc4 ?_ | refine zc2 ?_ _)); refine zc7 ?_ NB187_190.out _; (with_reducible repeat (first | refine zc3 ?_ _ | refine zc4 ?_ | refine zc2 ?_ _)); exact BK187.out⟩, ⟨by (with_reducible repeat (first | refine zc3 ?_ _ | refine zc4 ?_ | refine zc2 ?_ _)); refine zc7 ?_ NB188_190.out _; (with_reducible repeat (first | refine zc3 ?_ _ | refine zc4 ?_ | refine zc2 ?_ _)); refine zc7 ?_ NB188_190.out _; (with_reducible repeat (first | refine zc3 ?_ _ | refine zc4 ?_ | refine zc2 ?_ _)); exact BK188.out⟩, ⟨by repeat (first | (with_reducible first | exact HB.out | apply zb3 | apply zb1 | apply zb2 | refine zb4 ?_ GE187.out | refine zb4 ?_ GE188.out | refine zb4 ?_ GE190.out) | exact HB.out)⟩⟩
         ·rw [if_neg c27] at H
          exact absurd H (by simp)
        ·rw [if_neg c26] at H
         exact absurd H (by simp)
       ·rw [if_neg c25] at H
        exact absurd H (by simp)
      ·rw [if_neg c24] at H
       have c24b0 : decide (x38_2 < (l0_3.length : Int)) = false := zd2 c24
       clear c24
       obtain rfl := Option.some.inj H
       go_wp2
       have hwi_ : ∀ n : Int, IntKind.i64.wrap n = wrap64 n := i64_w
       repeat (go_quiet (fail); try go_wp2)
       clear hwi_
       go_ret
       exact ⟨by first | rfl | (simp [*] <;> rfl), by repeat (first | (with_reducible first | exact HB.out | apply zb3 | apply zb1 | apply zb2 | refine zb4 ?_ GE187.out | refine zb4 ?_ GE188.out) | exact HB.out)⟩

theorem run_arrayAt_ {P : Program} (w : World) (arr e : TypeId) (n : Nat) (a : Option Addr) (len cap : Nat) (h : P.underlying arr = some (.array n e)) (hn : n ≤ len) : (Instr.arrayAt arr (.slice a len cap)).run P w = .ok (.pointer a) w := by
 simp [Instr.arrayAt, run_underlying h, Nat.not_lt.2 hn]
theorem run_part_int {P : Program} (w : World) (e : TypeId) (k : IntKind) (he : P.underlying e = some (.int k)) (cs : Array Value) (off : Nat) (v : Value) (h : cs[off]? = some v) : (part e cs off).run P w = .ok v w := by
 simp [part, isAgg, run_underlying he, h]
theorem run_eqlIn_arr4 {P : Program} (w : World) (t e : TypeId) (k : IntKind) (ht : P.underlying t = some (.array 4 e)) (he : P.underlying e = some (.int k)) (hz : ∀ w : World, (sizeOf e).run P w = .ok 1 w) (d : Nat) (a0 a1 a2 a3 b0 b1 b2 b3 : Int) :
    (Op.equalIn (d + 2) t (.agg #[.int k a0, .int k a1, .int k a2, .int k a3]) (.agg #[.int k b0, .int k b1, .int k b2, .int k b3])).run P w = .ok (decide (([a0, a1, a2, a3] : List Int) = [b0, b1, b2, b3])) w := by
 have hI := fun (w : World) (a b : Int) => run_equalIn_int (P := P) w d e k k a b he
 have hp := fun (w : World) (cs : Array Value) (off : Nat) (v : Value) (h : cs[off]? = some v) => run_part_int (P := P) w e k he cs off v h
 rw [Op.equalIn]
 simp only [Sem.run_bind, run_underlying ht, Result.andThen, hz]
 by_cases h0 : a0 = b0 <;> by_cases h1 : a1 = b1 <;> by_cases h2 : a2 = b2 <;> by_cases h3 : a3 = b3 <;> simp [List.range'_succ, List.forIn_cons, hI, hp, Result.andThen, h0, h1, h2, h3]
theorem run_neq_arr4 {P : Program} (w : World) (t e : TypeId) (k : IntKind) (ht : P.underlying t = some (.array 4 e)) (he : P.underlying e = some (.int k)) (hz : ∀ w : World, (sizeOf e).run P w = .ok 1 w) (a0 a1 a2 a3 b0 b1 b2 b3 : Int) :
    (binOp .neq t (.agg #[.int k a0, .int k a1, .int k a2, .int k a3]) (.agg #[.int k b0, .int k b1, .int k b2, .int k b3])).run P w = .ok (.bool (!decide (([a0, a1, a2, a3] : List Int) = [b0, b1, b2, b3]))) w := by
 have h : (Op.equal t (.agg #[.int k a0, .int k a1, .int k a2, .int k a3]) (.agg #[.int k b0, .int k b1, .int k b2, .int k b3])).run P w = .ok (decide (([a0, a1, a2, a3] : List Int) = [b0, b1, b2, b3])) w := run_eqlIn_arr4 w t e k ht he hz 9998 _ _ _ _ _ _ _ _
 simp only [binOp, Sem.run_bind, h, Result.andThen]
 rfl
theorem four_of {l : List Int} (h : l.length = 4) : ∃ b0 b1 b2 b3, l = [b0, b1, b2, b3] := by
 match l, h with
 | [b0, b1, b2, b3], _ => exact ⟨b0, b1, b2, b3, rfl⟩
theorem addr_add0 (ad : Addr) : ad.add 0 = ad := by unfold Addr.add; simp
theorem addr_add1 (ad : Addr) (j : Nat) (h : 0 < j) : ad.add j = ⟨ad.block, ad.off + j, none⟩ := by unfold Addr.add; split <;> first | omega | simp_all
structure OpenS (w : World) (ad : Addr) (b0 b1 b2 b3 : Int) (w' : World) : Prop where
 b : Below w.heap.size w w'
 c0 : w'.cell? ad = some (.int .u8 b0)
 c1 : w'.cell? ⟨ad.block, ad.off + 1, none⟩ = some (.int .u8 b1)
 c2 : w'.cell? ⟨ad.block, ad.off + 2, none⟩ = some (.int .u8 b2)
 c3 : w'.cell? ⟨ad.block, ad.off + 3, none⟩ = some (.int .u8 b3)
theorem OpenS.step {w w1 w2 : World} {ad : Addr} {b0 b1 b2 b3 : Int} (h : OpenS w ad b0 b1 b2 b3 w1) (hb : Below w1.heap.size w1 w2) : OpenS w ad b0 b1 b2 b3 w2 :=
 ⟨zb5 h.b hb, pw_cell_below hb h.c0, pw_cell_below hb h.c1, pw_cell_below hb h.c2, pw_cell_below hb h.c3⟩
theorem OpenS.drew {w w1 : World} {ad : Addr} {b0 b1 b2 b3 : Int} (h : OpenS w ad b0 b1 b2 b3 w1) : OpenS w ad b0 b1 b2 b3 w1.drew := h.step (below_drew (Below.refl _ _))
def crc_Open.f (l0 : List Int) : Option (List Int × Int) :=
 if l0.length < 4 then some ([], 4) else (crc_seal.f (l0.take (l0.length - 4))).bind fun t => if l0.length ≤ 1000000000 then (if [t.1, t.2.1, t.2.2.1, t.2.2.2] = l0.drop (l0.length - 4) then some (l0.take (l0.length - 4), 0) else some ([], 6)) else none
set_option maxHeartbeats 8000000 in
set_option maxRecDepth 100000 in
theorem crc_Open.calls (A0 : Option Addr) (c0 : Nat) (l0 : List Int) (r1 : List Int) (r2 : Int) (w : World) (hr0 : Kd.C (Kd.int .u8) w A0 l0.length l0) (hc0 : l0.length ≤ c0) (h : crc_Open.f l0 = some (r1, r2)) (hG : GL w) :
    Calls Tryd.prog 25 #[.slice A0 l0.length c0] w fun e w' => ∃ v0_ : Value, e = .returned (.tuple #[v0_, .int .i64 r2]) ∧ Kd.R (Kd.int .u8) 5 w' w.heap.size (fun _ => True) v0_ r1 ∧ Below w.heap.size w w' := by
 unfold crc_Open.f at h
 by_cases h4 : l0.length < 4
 ·rw [if_pos h4] at h
  simp only [Option.some.injEq, Prod.mk.injEq] at h
  obtain ⟨rfl, rfl⟩ := h
  have e1 : decide ((l0.length : Int) < 4) = true := zd1 (by omega)
  have e2 : decide (wrap64 ((l0.length : Int) - 4) < 0) = true := zd1 (by unfold wrap64; omega)
  have e3 : decide ((l0.length : Int) - 4 < 0) = true := zd1 (by omega)
  have hl1 : (l0.length : Int) ≤ 9223372036854775807 := by omega
  go_enter Tryd.func25, Tryd.ntmps25
  go_wp2
  go_ret2
  exact ⟨_, rfl, Kd.R_nil _ _ _ _ _, Below.refl _ _⟩
 ·rw [if_neg h4] at h
  obtain ⟨⟨t1, t2, t3, t4⟩, ht, h⟩ := Option.bind_eq_some_iff.1 h
  by_cases hle : l0.length ≤ 1000000000
  ·rw [if_pos hle] at h
   obtain ⟨n, hn⟩ : ∃ n, l0.length = n + 4 := ⟨l0.length - 4, by omega⟩
   rw [show l0.length - 4 = n by omega] at ht h
   obtain ⟨b0, b1, b2, b3, hb4⟩ := four_of (show (l0.drop n).length = 4 by rw [List.length_drop]; omega)
   rw [hb4] at h
   obtain ⟨i0, hi0, _, hsz, _⟩ := info_parts info5
   obtain ⟨hct, hAt, hCt⟩ := print_take_of (P := Tryd.prog) (Value.int .u8) (0 : Int) 22 5 .i64 Tryd.underlying22 hi0 hsz A0 c0 l0 (n : Int) (by omega) (by omega) hc0
   obtain ⟨A1, hcd, hAd, hCd⟩ := print_drop_of (P := Tryd.prog) (Value.int .u8) (0 : Int) 22 5 .i64 Tryd.underlying22 hi0 hsz A0 c0 l0 (n : Int) (by omega) (by omega) hc0
   rw [Int.toNat_natCast] at hct hAt hCt hcd hAd hCd
   rw [hb4] at hcd hAd hCd
   have hrt := Kd.C_of_reads (h1 := fun _ => rfl) (hAt _ (Kd.reads_of_C hr0))
   have hrd := Kd.C_of_reads (h1 := fun _ => rfl) (hAd _ (Kd.reads_of_C hr0))
   have HRT := zA (show (Kd.int .u8).C w A0 (l0.take n).length (l0.take n) from hrt)
   obtain ⟨ad, e1, hx0⟩ := byte_at (k := .u8) hrd 0 (by simp)
   obtain ⟨ad1, e2, hx1⟩ := byte_at (k := .u8) hrd 1 (by simp)
   obtain ⟨ad2, e3, hx2⟩ := byte_at (k := .u8) hrd 2 (by simp)
   obtain ⟨ad3, e4, hx3⟩ := byte_at (k := .u8) hrd 3 (by simp)
   subst e1
   obtain rfl : ad = ad1 := Option.some.inj e2
   obtain rfl : ad = ad2 := Option.some.inj e3
   obtain rfl : ad = ad3 := Option.some.inj e4
   have HCT := zA hCt
   have HT := zA ht
   have HG := zA hG
   have HN := zA hn
   have HH := zA h
   have HLE := zA hle
   have HCC := zA hc0
   have HR := zA hr0
   have hl1 : (l0.length : Int) ≤ 1000000000 := by omega
   have hl2 : (4 : Int) ≤ (l0.length : Int) := by omega
   have hap := fun W : World => run_arrayAt_ (P := Tryd.prog) W 70 5 4 (some ad) 4 (c0 - n) Tryd.underlying70 (Nat.le_refl _)
   have hne := fun W : World => run_neq_arr4 (P := Tryd.prog) W 70 5 .u8 Tryd.underlying70 Tryd.underlying5 (fun W => by simp [sizeOf, typeInfo, hi0, hsz]) t1 t2 t3 t4 b0 b1 b2 b3
   clear hi0 hsz hAt hAd hCt hCd hrt hrd hb4 e2 e3 e4 ht h hn hle h4 hr0 hc0 hG
   have HAP := zA hap
   have HNE := zA hne
   have HCUT := zA hct
   have HCUD := zA hcd
   clear hap hne hct hcd
   go_enter Tryd.func25, Tryd.ntmps25
   go_upto_region 4 with fail
   rw [show (l0.length : Int) - 4 = (n : Int) by have := HN.out; omega]
   have hct := HCUT.out
   have hcd := HCUD.out
   have hap := HAP.out
   have hne := HNE.out
   simp only [List.length_cons, List.length_nil] at hcd
   simp only [List.getD_cons_zero, List.getD_cons_succ] at hx0 hx1 hx2 hx3
   rw [addr_add0] at hx0
   rw [addr_add1 _ _ (by decide)] at hx1 hx2 hx3
   have HX0 := zA hx0
   have HX1 := zA hx1
   have HX2 := zA hx2
   have HX3 := zA hx3
   clear hx0 hx1 hx2 hx3
   have hS0 : OpenS w ad b0 b1 b2 b3 w := ⟨Below.refl _ _, HX0.out, HX1.out, HX2.out, HX3.out⟩
   refine start_ (n := 10) (S := OpenS w ad b0 b1 b2 b3) (ds := []) #[false, false, false, false, false, false, false, false, false, false] (by kernel_rfl) rfl rfl hS0.drew (fun hHeld => ?_)
   refine pure_ (i := 0) (N := some 10) (v := ?_) (a' := ?_) #[true, false, false, false, false, false, false, false, false, false] rfl rfl (by kernel_rfl) (fun _ _ _ h => h) (Or.inl ⟨by rfl, ?_⟩) ?_ ?_
   rotate_left
   ·intro w'
    go_simp
    with_reducible rfl
   rotate_left
   ·simp only [Act.put, zs1, zs2, zs3, i64_w, i32_w]
    rfl
   refine pure_ (i := 1) (N := some 11) (v := ?_) (a' := ?_) #[true, true, false, false, false, false, false, false, false, false] rfl rfl (by kernel_rfl) (fun _ _ _ h => h) (Or.inl ⟨by rfl, ?_⟩) ?_ ?_
   rotate_left
   ·intro w'
    go_simp
    with_reducible rfl
   rotate_left
   ·simp only [Act.put, zs1, zs2, zs3, i64_w, i32_w]
    rfl
   refine pure_ (i := 2) (N := some 12) (v := ?_) (a' := ?_) #[true, true, true, false, false, false, false, false, false, false] rfl rfl (by kernel_rfl) (fun _ _ _ h => h) (Or.inl ⟨by rfl, ?_⟩) ?_ ?_
   rotate_left
   ·intro w'
    go_simp
    with_reducible rfl
   rotate_left
   ·simp only [Act.put, zs1, zs2, zs3, i64_w, i32_w]
    rfl
   refine pure_ (i := 4) (N := some 14) (v := ?_) (a' := ?_) #[true, true, true, false, true, false, false, false, false, false] rfl rfl (by kernel_rfl) (fun _ _ _ h => h) (Or.inl ⟨by rfl, ?_⟩) ?_ ?_
   rotate_left
   ·intro w'
    go_simp
    with_reducible rfl
   rotate_left
   ·simp only [Act.put, zs1, zs2, zs3, i64_w, i32_w]
    rfl
   refine pure_ (i := 5) (N := some 15) (v := ?_) (a' := ?_) #[true, true, true, false, true, true, false, false, false, false] rfl rfl (by kernel_rfl) (fun _ _ _ h => h) (Or.inl ⟨by rfl, ?_⟩) ?_ ?_
   rotate_left
   ·intro w'
    go_simp
    with_reducible rfl
   rotate_left
   ·simp only [Act.put, zs1, zs2, zs3, i64_w, i32_w]
    rfl
   refine pure_ (i := 6) (N := some 16) (v := ?_) (a' := ?_) #[true, true, true, false, true, true, true, false, false, false] rfl rfl (by kernel_rfl) (fun _ _ _ h => h) (Or.inl ⟨by rfl, ?_⟩) ?_ ?_
   rotate_left
   ·intro w'
    go_simp
    with_reducible rfl
   rotate_left
   ·simp only [Act.put, zs1, zs2, zs3, i64_w, i32_w]
    rfl
   refine pure_ (i := 7) (N := some 17) (v := ?_) (a' := ?_) #[true, true, true, false, true, true, true, true, false, false] rfl rfl (by kernel_rfl) (fun _ _ _ h => h) (Or.inl ⟨by rfl, ?_⟩) ?_ ?_
   rotate_left
   ·intro w'
    go_simp
    with_reducible rfl
   rotate_left
   ·simp only [Act.put, zs1, zs2, zs3, i64_w, i32_w]
    rfl
   refine take_ (i := 8) (N := some 18) (v := ?_) (a' := ?_) #[true, true, true, false, true, true, true, true, true, false] rfl rfl (by kernel_rfl) (fun _ _ _ h => h) (Or.inl ⟨by rfl, ?_⟩) hHeld ?_ ?_
   rotate_left
   ·rintro w' ⟨_, s0, s1, s2, s3⟩
    go_simp
    with_reducible rfl
   rotate_left
   ·simp only [Act.put, zs1, zs2, zs3, i64_w, i32_w]
    rfl
   refine one_ (i := 3) (N := some 13) #[true, true, true, true, true, true, true, true, true, false] rfl rfl (by kernel_rfl) (by decide) (fun K hK => ?_)
   refine call_ 54 #[.slice A0 (l0.take n).length c0] (by rfl) rfl ?hrun_ ?_
   case hrun_ => go_simp
   refine (crc_seal.calls A0 c0 (l0.take n) t1 t2 t3 t4 _ (Kd.C_below HRT.out (OpenS.b hHeld)) HCT.out HT.out (HG.out.below (OpenS.b hHeld))).mono ?_
   rintro e w2 ⟨rfl, hb⟩
   have HS2 := zA (hHeld.step hb)
   clear hb hHeld
   refine ⟨_, rfl, ?_⟩
   refine hK.out _ _ HS2.out (fun hHeld => ?_)
   clear hK K
   refine norm_ (a' := ?_) ?_ ?_
   rotate_left
   ·show Act.put _ (some 13) _ = _
    simp only [Act.put, zs1, zs2, zs3, i64_w, i32_w]
    rfl
   refine pure_ (i := 9) (N := some 19) (v := ?_) (a' := ?_) #[true, true, true, true, true, true, true, true, true, true] rfl rfl (by kernel_rfl) (fun _ _ _ h => h) (Or.inl ⟨by rfl, ?_⟩) ?_ ?_
   rotate_left
   ·intro w'
    go_simp
    with_reducible rfl
   rotate_left
   ·simp only [Act.put, zs1, zs2, zs3, i64_w, i32_w]
    rfl
   refine done_ (by kernel_rfl) ?_
   clear hap hne hcd
   by_cases heq : ([t1, t2, t3, t4] : List Int) = [b0, b1, b2, b3]
   ·have hh := HH.out
    rw [if_pos heq] at hh
    simp only [Option.some.injEq, Prod.mk.injEq] at hh
    obtain ⟨rfl, rfl⟩ := hh
    simp only [List.cons.injEq, and_true] at heq
    obtain ⟨rfl, rfl, rfl, rfl⟩ := heq
    clear HNE
    go_wp2_with (first
     | ((with_reducible refine gate_dst (N := 23) rfl ?_)
        refine Kd.R_append_row (Value.int .u8) (0 : Int) (h1 := fun _ => rfl) (w0 := w) w.heap.size rfl (.const (.slice none 0 0)) (.tmp 22) 22 5 (.int .u8 0) 1 rfl Tryd.underlying22 info5 rfl (by decide) (.slice none 0 0) ([] : List Int) (l0.take n) A0 (l0.take n).length c0 (fun _ => True) rfl ?hx (fun _ _ => trivial) (Kd.R_nil _ _ _ _ _) ?aR HS2.out.b HS2.out.b.size ?aL ?_
        (case hx => go_simp)
        (case aR => exact Kd.C_below HRT.out HS2.out.b)
        (case aL => have h1_ := HLE.out; have h2_ : (l0.take n).length ≤ l0.length := by rw [List.length_take]; exact Nat.min_le_right _ _
                    simp only [List.length_nil]; omega)
        intro v3 w4 ho hb hg hat
        rw [List.nil_append] at ho
        obtain ⟨A3, c3, e3⟩ := Kd.R_slice ho
        subst e3
        have HO3 := zA ho
        have HB4 := zA hb
        clear ho hb hg hat))
    go_ret2
    exact ⟨_, rfl, by have h3 := HO3.out; rw [List.length_take] at h3; exact h3, HB4.out⟩
   ·have hh := HH.out
    rw [if_neg heq] at hh
    simp only [Option.some.injEq, Prod.mk.injEq] at hh
    obtain ⟨rfl, rfl⟩ := hh
    have hd : (!decide (t1 = b0) || (!decide (t2 = b1) || (!decide (t3 = b2) || !decide (t4 = b3)))) = true := by
     simp only [List.cons.injEq, and_true] at heq
     by_cases q0 : t1 = b0 <;> by_cases q1 : t2 = b1 <;> by_cases q2 : t3 = b2 <;> by_cases q3 : t4 = b3 <;> simp_all
    rw [hd]
    clear hd HNE heq
    go_wp2
    go_ret2
    exact ⟨_, rfl, Kd.R_nil _ _ _ _ _, HS2.out.b⟩
  ·rw [if_neg hle] at h
   cases h

end Go.Proofs.YtjhgeppjpofjpaaDoor.PSigReads
