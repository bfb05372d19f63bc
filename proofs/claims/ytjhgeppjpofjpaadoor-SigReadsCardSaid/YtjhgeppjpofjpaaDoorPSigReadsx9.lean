-- Written by a program of this session (the kit's printer with hand-written contracts among its functions).
-- squeezed
import Derived.Test.YtjhgeppjpofjpaaDoorPSigReadsx0
import Derived.Test.YtjhgeppjpofjpaaDoorPSigReadsx2
import Derived.Test.YtjhgeppjpofjpaaDoorPSigReadsx5
import Derived.Test.YtjhgeppjpofjpaaDoorPSigReadsx7
import Derived.Test.YtjhgeppjpofjpaaDoorPSigReadsx8
namespace Go.Proofs.YtjhgeppjpofjpaaDoor.PSigReads
open Go.RowKit Go.Proofs.YtjhgeppjpofjpaaDoorW.PrintWords Go.Proofs.YtjhgeppjpofjpaaDoorW.PrintLast Go.Proofs.YtjhgeppjpofjpaaDoorW.PrintMore
attribute [local go_sem] max2_int min2_int max_two min_two max_three min_three max_four min_four   -- for this text's walks alone
set_option linter.unusedVariables false
set_option linter.unusedSimpArgs false

mutual
def sig_Read.l0 : Nat → List Int → Int → Int → Int → Int → Int → List (S44) → Option (Int × Int × Int × (List (S44)) × Int)
 | 0, _, _, _, _, _, _, _ => none
 | k + 1, x0, x6, x11, x199000, x199001, x199002, x199003 => if x6 < (x0.length : Int) then (sig_Read.l1 k x0 x6 x11 0 x199000 x199001 x199002 x199003 0 (⟨#[]⟩ : ByteArray)) else (some (x199000, x199001, x199002, x199003, 0))
def sig_Read.l1 : Nat → List Int → Int → Int → Int → Int → Int → Int → List (S44) → Int → ByteArray → Option (Int × Int × Int × (List (S44)) × Int)
 | 0, _, _, _, _, _, _, _, _, _, _ => none
 | k + 1, x0, x6, x11, x86, x199000, x199001, x199002, x199003, x211000, x211001 => if x86 < 4 then (if 0 ≤ (wrap64 (x6 + x86)) then (if (wrap64 (x6 + x86)) < (x0.length : Int) then (if 0 ≤ (wrap64 (8 * x86)) then (sig_Read.l1 k x0 x6 x11 (wrap64 (x86 + 1)) x199000 x199001 x199002 x199003 (Go.bits .or .u32 x211000 (shl .u32 ((rd x0 (wrap64 (x6 + x86))) % 4294967296) (wrap64 (8 * x86)))) x211001) else (none)) else (none)) else (none)) else (if 0 ≤ (wrap64 (x6 + 4)) then (if (wrap64 (x6 + 4)) ≤ (wrap64 (x6 + x11)) then (if (wrap64 (x6 + x11)) ≤ (x0.length : Int) then (if x199003.length < 5864062014805 then (sig_Read.l0 k x0 (wrap64 (x6 + x11)) x11 x199000 x199001 x199002 (x199003 ++ [(⟨x211000, strOfNums ((x0.take ((wrap64 (x6 + x11)) : Int).toNat).drop ((wrap64 (x6 + 4)) : Int).toNat)⟩ : S44)])) else (none)) else (none)) else (none)) else (none))
end
def sig_Read.f (k : Nat) (l0 : List Int) : Option (Int × Int × Int × (List (S44)) × Int) := (crc_Open.f l0).bind fun bt194 => (if bt194.2 = 0 then ((num_Get.f k bt194.1 0).bind fun bt199 => (if bt199.2.2 = 0 then ((num_Get.f k bt194.1 bt199.2.1).bind fun bt202 => (if bt202.2.2 = 0 then ((num_Get.f k bt194.1 bt202.2.1).bind fun bt205 => (if bt205.2.2 = 0 then ((sig_front.f bt199.1 bt202.1 bt205.1 ([] : List (S44))).bind fun t208 => (if t208 = 0 then ((blocks_Count.f bt199.1 bt202.1).bind fun t209 => (if (wrap64 ((bt194.1.length : Int) - bt205.2.1)) < (wrap64 (t209 * (wrap64 (4 + bt205.1)))) then (some (0, 0, 0, ([] : List (S44)), 4)) else (if (wrap64 ((bt194.1.length : Int) - bt205.2.1)) > (wrap64 (t209 * (wrap64 (4 + bt205.1)))) then (some (0, 0, 0, ([] : List (S44)), 5)) else (sig_Read.l0 k bt194.1 bt205.2.1 (wrap64 (4 + bt205.1)) bt199.1 bt202.1 bt205.1 ([] : List (S44)))))) else (some (0, 0, 0, ([] : List (S44)), t208)))) else (some (0, 0, 0, ([] : List (S44)), bt205.2.2)))) else (some (0, 0, 0, ([] : List (S44)), bt202.2.2)))) else (some (0, 0, 0, ([] : List (S44)), bt199.2.2)))) else (some (0, 0, 0, ([] : List (S44)), bt194.2)))
theorem sig_Read.mono_l : ∀ k, (∀ y0 y1 y2 y3 y4 y5 y6, LeO (sig_Read.l0 k y0 y1 y2 y3 y4 y5 y6) (sig_Read.l0 (k + 1) y0 y1 y2 y3 y4 y5 y6)) ∧ (∀ y0 y1 y2 y3 y4 y5 y6 y7 y8 y9, LeO (sig_Read.l1 k y0 y1 y2 y3 y4 y5 y6 y7 y8 y9) (sig_Read.l1 (k + 1) y0 y1 y2 y3 y4 y5 y6 y7 y8 y9))
 | 0 => ⟨fun _ _ _ _ _ _ _ r h => by simp [sig_Read.l0] at h, fun _ _ _ _ _ _ _ _ _ _ r h => by simp [sig_Read.l1] at h⟩
 | k + 1 => by
  obtain ⟨ih0, ih1⟩ := sig_Read.mono_l k
  refine ⟨?_, ?_⟩
  ·intro y0 y1 y2 y3 y4 y5 y6
   unfold sig_Read.l0
   repeat' first
   | (with_reducible exact ih0 _ _ _ _ _ _ _)
   | (with_reducible exact ih1 _ _ _ _ _ _ _ _ _ _)
   | (with_reducible exact num_Get.mono _ _ _)
   | (with_reducible exact LeO.refl _)
   | (with_reducible exact LeO.none _)
   | (with_reducible refine LeO.ite ?_ ?_)
   | (with_reducible refine LeO.bind ?_ (fun _ => ?_))
   | exact ih0 _ _ _ _ _ _ _
   | exact ih1 _ _ _ _ _ _ _ _ _ _
   | exact num_Get.mono _ _ _
   | exact LeO.none _
   | refine LeO.ite ?_ ?_
   | refine LeO.bind ?_ (fun _ => ?_)
  ·intro y0 y1 y2 y3 y4 y5 y6 y7 y8 y9
   unfold sig_Read.l1
   repeat' first
   | (with_reducible exact ih0 _ _ _ _ _ _ _)
   | (with_reducible exact ih1 _ _ _ _ _ _ _ _ _ _)
   | (with_reducible exact num_Get.mono _ _ _)
   | (with_reducible exact LeO.refl _)
   | (with_reducible exact LeO.none _)
   | (with_reducible refine LeO.ite ?_ ?_)
   | (with_reducible refine LeO.bind ?_ (fun _ => ?_))
   | exact ih0 _ _ _ _ _ _ _
   | exact ih1 _ _ _ _ _ _ _ _ _ _
   | exact num_Get.mono _ _ _
   | exact LeO.none _
   | refine LeO.ite ?_ ?_
   | refine LeO.bind ?_ (fun _ => ?_)
theorem sig_Read.mono : ∀ a0 k, LeO (sig_Read.f k a0) (sig_Read.f (k + 1) a0) := by
 intro a0 k
 obtain ⟨ih0, ih1⟩ := sig_Read.mono_l k
 unfold sig_Read.f
 repeat' first
     | (with_reducible exact ih0 _ _ _ _ _ _ _)
     | (with_reducible exact ih1 _ _ _ _ _ _ _ _ _ _)
     | (with_reducible exact num_Get.mono _ _ _)
     | (with_reducible exact LeO.refl _)
     | (with_reducible exact LeO.none _)
     | (with_reducible refine LeO.ite ?_ ?_)
     | (with_reducible refine LeO.bind ?_ (fun _ => ?_))
     | exact ih0 _ _ _ _ _ _ _
     | exact ih1 _ _ _ _ _ _ _ _ _ _
     | exact num_Get.mono _ _ _
     | exact LeO.none _
     | refine LeO.ite ?_ ?_
     | refine LeO.bind ?_ (fun _ => ?_)
def sig_Read.T16 : Bool × List (List Nat × List Nat) := (true, [([], []), ([0], [0]), ([], []), ([2], [2]), ([1, 3], [1, 3]), ([], []), ([5], [5]), ([6], [6]), ([4, 4, 0, 1, 2, 3, 4], [4]), ([7, 8, 0, 1, 2, 3, 4, 5, 6, 7, 8], [7])])
def sig_Read.B16 : List Nat := [0, 1, 0, 4, 15, 0, 32, 96, 31, 511]
theorem sig_Read.tab16 : rtab .any (opsOf Tryd.f27 16) = sig_Read.T16 := by kernel_rfl
theorem sig_Read.bits16 : waitsOk sig_Read.T16.2 sig_Read.B16 = true := by kernel_rfl
def sig_Read.T28 : Bool × List (List Nat × List Nat) := (true, [([], []), ([0], [0]), ([], []), ([], []), ([], []), ([3, 4], [3, 4]), ([2, 5], [2, 5]), ([6], [6]), ([7], [7]), ([], []), ([9], [9]), ([8, 10], [8, 10]), ([1, 11], [1, 11]), ([0, 1, 2, 3, 4, 5, 6, 7, 8, 9, 10, 11, 12], []), ([13, 12, 0, 1, 2, 3, 4, 5, 6, 7, 8, 9, 10, 11, 12], [12, 13])])
def sig_Read.B28 : List Nat := [0, 1, 0, 0, 0, 24, 60, 124, 252, 0, 512, 2044, 4095, 8191, 16383]
theorem sig_Read.tab28 : rtab .any (opsOf Tryd.f27 28) = sig_Read.T28 := by kernel_rfl
theorem sig_Read.bits28 : waitsOk sig_Read.T28.2 sig_Read.B28 = true := by kernel_rfl
theorem row_event {P : Program} {ops : Array Oper} {Q : Exit → Act → World → Prop} {rest : List Oper} {o : Oper} {a : Act} {W : World} (hgd : o.guard = none) {N : Tmp} (_hd : o.dst = some N) {cs : Array Value} {t : TypeId} {n : Nat}
    (hrun : (execOp a.eval o).run P W = .ok (.value (.slice (some ⟨W.heap.size, 0, none⟩) n n)) (W.alloc (.cells cs t (0, 0))))
    (h : ∀ g, g = W.heap.size → ∀ w1, w1.heap[g]? = some (.cells cs t (0, 0)) → Below W.heap.size W w1 → wpList P ops Q rest (a.put o.dst (.slice (some ⟨g, 0, none⟩) n n)) w1) : wpList P ops Q (o :: rest) a W :=
 Kd.event_run hgd hrun (h _ rfl _ (blk_new W _) (zb3 (Below.refl _ _) _))
set_option maxHeartbeats 8000000 in
set_option maxRecDepth 100000 in
theorem sig_Read.calls (k : Nat) (A0 : Option Addr) (c0 : Nat) (l0 : List Int) (r1 : Int) (r2 : Int) (r3 : Int) (r4 : List (S44)) (r5 : Int) (w : World) (hr0 : Kd.C (Kd.int .u8) w A0 l0.length l0) (hc0 : l0.length ≤ c0) (h : sig_Read.f k l0 = some (r1, r2, r3, r4, r5)) (hG : GL w) :
    Calls Tryd.prog 27 #[.slice A0 l0.length c0] w fun e w' => ∃ v3_ : Value, e = .returned (.tuple #[.agg #[.int .i64 r1, .int .i64 r2, .int .i64 r3, v3_], .int .i64 r5]) ∧ Kd.R k44 44 w' w.heap.size (fun _ => True) v3_ r4 ∧ Below w.heap.size w w' := by
 have hu26 := Tryd.underlying26
 have hu44 := Tryd.underlying44
 have HR0 := zA hr0
 have HC0 := zA hc0
 clear hr0 hc0
 have HB := zA (Below.refl w.heap.size w)
 have H : ((crc_Open.f l0).bind fun bt194 => (if bt194.2 = 0 then ((num_Get.f k bt194.1 0).bind fun bt199 => (if bt199.2.2 = 0 then ((num_Get.f k bt194.1 bt199.2.1).bind fun bt202 => (if bt202.2.2 = 0 then ((num_Get.f k bt194.1 bt202.2.1).bind fun bt205 => (if bt205.2.2 = 0 then ((sig_front.f bt199.1 bt202.1 bt205.1 ([] : List (S44))).bind fun t208 => (if t208 = 0 then ((blocks_Count.f bt199.1 bt202.1).bind fun t209 => (if (wrap64 ((bt194.1.length : Int) - bt205.2.1)) < (wrap64 (t209 * (wrap64 (4 + bt205.1)))) then (some (0, 0, 0, ([] : List (S44)), 4)) else (if (wrap64 ((bt194.1.length : Int) - bt205.2.1)) > (wrap64 (t209 * (wrap64 (4 + bt205.1)))) then (some (0, 0, 0, ([] : List (S44)), 5)) else (sig_Read.l0 k bt194.1 bt205.2.1 (wrap64 (4 + bt205.1)) bt199.1 bt202.1 bt205.1 ([] : List (S44)))))) else (some (0, 0, 0, ([] : List (S44)), t208)))) else (some (0, 0, 0, ([] : List (S44)), bt205.2.2)))) else (some (0, 0, 0, ([] : List (S44)), bt202.2.2)))) else (some (0, 0, 0, ([] : List (S44)), bt199.2.2)))) else (some (0, 0, 0, ([] : List (S44)), bt194.2)))) = some (r1, r2, r3, r4, r5) := h
 clear h
 replace H := Option.bind_eq_some_iff.mp H
 obtain ⟨⟨t194, t195⟩, A20, H⟩ := H
 replace H : (if t195 = 0 then ((num_Get.f k t194 0).bind fun bt199 => (if bt199.2.2 = 0 then ((num_Get.f k t194 bt199.2.1).bind fun bt202 => (if bt202.2.2 = 0 then ((num_Get.f k t194 bt202.2.1).bind fun bt205 => (if bt205.2.2 = 0 then ((sig_front.f bt199.1 bt202.1 bt205.1 ([] : List (S44))).bind fun t208 => (if t208 = 0 then ((blocks_Count.f bt199.1 bt202.1).bind fun t209 => (if (wrap64 ((t194.length : Int) - bt205.2.1)) < (wrap64 (t209 * (wrap64 (4 + bt205.1)))) then (some (0, 0, 0, ([] : List (S44)), 4)) else (if (wrap64 ((t194.length : Int) - bt205.2.1)) > (wrap64 (t209 * (wrap64 (4 + bt205.1)))) then (some (0, 0, 0, ([] : List (S44)), 5)) else (sig_Read.l0 k t194 bt205.2.1 (wrap64 (4 + bt205.1)) bt199.1 bt202.1 bt205.1 ([] : List (S44)))))) else (some (0, 0, 0, ([] : List (S44)), t208)))) else (some (0, 0, 0, ([] : List (S44)), bt205.2.2)))) else (some (0, 0, 0, ([] : List (S44)), bt202.2.2)))) else (some (0, 0, 0, ([] : List (S44)), bt199.2.2)))) else (some (0, 0, 0, ([] : List (S44)), t195))) = some (r1, r2, r3, r4, r5) := H
 have A2 := zA A20
 clear A20
 by_cases c3 : t195 = 0
 ·rw [if_pos c3] at H
  have c3b0 : (t195 == 0) = true := beq_iff_eq.mpr c3
  have c3b1 : (t195 != 0) = false := bne_eq_false_iff_eq.mpr c3
  clear c3
  replace H := Option.bind_eq_some_iff.mp H
  obtain ⟨⟨t199, t200, t201⟩, A40, H⟩ := H
  replace H : (if t201 = 0 then ((num_Get.f k t194 t200).bind fun bt202 => (if bt202.2.2 = 0 then ((num_Get.f k t194 bt202.2.1).bind fun bt205 => (if bt205.2.2 = 0 then ((sig_front.f t199 bt202.1 bt205.1 ([] : List (S44))).bind fun t208 => (if t208 = 0 then ((blocks_Count.f t199 bt202.1).bind fun t209 => (if (wrap64 ((t194.length : Int) - bt205.2.1)) < (wrap64 (t209 * (wrap64 (4 + bt205.1)))) then (some (0, 0, 0, ([] : List (S44)), 4)) else (if (wrap64 ((t194.length : Int) - bt205.2.1)) > (wrap64 (t209 * (wrap64 (4 + bt205.1)))) then (some (0, 0, 0, ([] : List (S44)), 5)) else (sig_Read.l0 k t194 bt205.2.1 (wrap64 (4 + bt205.1)) t199 bt202.1 bt205.1 ([] : List (S44)))))) else (some (0, 0, 0, ([] : List (S44)), t208)))) else (some (0, 0, 0, ([] : List (S44)), bt205.2.2)))) else (some (0, 0, 0, ([] : List (S44)), bt202.2.2)))) else (some (0, 0, 0, ([] : List (S44)), t201))) = some (r1, r2, r3, r4, r5) := H
  have A4 := zA A40
  clear A40
  by_cases c5 : t201 = 0
  ·rw [if_pos c5] at H
   have c5b0 : (t201 == 0) = true := beq_iff_eq.mpr c5
   have c5b1 : (t201 != 0) = false := bne_eq_false_iff_eq.mpr c5
   clear c5
   replace H := Option.bind_eq_some_iff.mp H
   obtain ⟨⟨t202, t203, t204⟩, A60, H⟩ := H
   replace H : (if t204 = 0 then ((num_Get.f k t194 t203).bind fun bt205 => (if bt205.2.2 = 0 then ((sig_front.f t199 t202 bt205.1 ([] : List (S44))).bind fun t208 => (if t208 = 0 then ((blocks_Count.f t199 t202).bind fun t209 => (if (wrap64 ((t194.length : Int) - bt205.2.1)) < (wrap64 (t209 * (wrap64 (4 + bt205.1)))) then (some (0, 0, 0, ([] : List (S44)), 4)) else (if (wrap64 ((t194.length : Int) - bt205.2.1)) > (wrap64 (t209 * (wrap64 (4 + bt205.1)))) then (some (0, 0, 0, ([] : List (S44)), 5)) else (sig_Read.l0 k t194 bt205.2.1 (wrap64 (4 + bt205.1)) t199 t202 bt205.1 ([] : List (S44)))))) else (some (0, 0, 0, ([] : List (S44)), t208)))) else (some (0, 0, 0, ([] : List (S44)), bt205.2.2)))) else (some (0, 0, 0, ([] : List (S44)), t204))) = some (r1, r2, r3, r4, r5) := H
   have A6 := zA A60
   clear A60
   by_cases c7 : t204 = 0
   ·rw [if_pos c7] at H
    have c7b0 : (t204 == 0) = true := beq_iff_eq.mpr c7
    have c7b1 : (t204 != 0) = false := bne_eq_false_iff_eq.mpr c7
    clear c7
    replace H := Option.bind_eq_some_iff.mp H
    obtain ⟨⟨t205, t206, t207⟩, A80, H⟩ := H
    replace H : (if t207 = 0 then ((sig_front.f t199 t202 t205 ([] : List (S44))).bind fun t208 => (if t208 = 0 then ((blocks_Count.f t199 t202).bind fun t209 => (if (wrap64 ((t194.length : Int) - t206)) < (wrap64 (t209 * (wrap64 (4 + t205)))) then (some (0, 0, 0, ([] : List (S44)), 4)) else (if (wrap64 ((t194.length : Int) - t206)) > (wrap64 (t209 * (wrap64 (4 + t205)))) then (some (0, 0, 0, ([] : List (S44)), 5)) else (sig_Read.l0 k t194 t206 (wrap64 (4 + t205)) t199 t202 t205 ([] : List (S44)))))) else (some (0, 0, 0, ([] : List (S44)), t208)))) else (some (0, 0, 0, ([] : List (S44)), t207))) = some (r1, r2, r3, r4, r5) := H
    have A8 := zA A80
    clear A80
    by_cases c9 : t207 = 0
    ·rw [if_pos c9] at H
     have c9b0 : (t207 == 0) = true := beq_iff_eq.mpr c9
     have c9b1 : (t207 != 0) = false := bne_eq_false_iff_eq.mpr c9
     clear c9
     replace H := Option.bind_eq_some_iff.mp H
     obtain ⟨t208, A100, H⟩ := H
     replace H : (if t208 = 0 then ((blocks_Count.f t199 t202).bind fun t209 => (if (wrap64 ((t194.length : Int) - t206)) < (wrap64 (t209 * (wrap64 (4 + t205)))) then (some (0, 0, 0, ([] : List (S44)), 4)) else (if (wrap64 ((t194.length : Int) - t206)) > (wrap64 (t209 * (wrap64 (4 + t205)))) then (some (0, 0, 0, ([] : List (S44)), 5)) else (sig_Read.l0 k t194 t206 (wrap64 (4 + t205)) t199 t202 t205 ([] : List (S44)))))) else (some (0, 0, 0, ([] : List (S44)), t208))) = some (r1, r2, r3, r4, r5) := H
     have A10 := zA A100
     clear A100
     by_cases c11 : t208 = 0
     ·rw [if_pos c11] at H
      have c11b0 : (t208 == 0) = true := beq_iff_eq.mpr c11
      have c11b1 : (t208 != 0) = false := bne_eq_false_iff_eq.mpr c11
      clear c11
      replace H := Option.bind_eq_some_iff.mp H
      obtain ⟨t209, A120, H⟩ := H
      replace H : (if (wrap64 ((t194.length : Int) - t206)) < (wrap64 (t209 * (wrap64 (4 + t205)))) then (some (0, 0, 0, ([] : List (S44)), 4)) else (if (wrap64 ((t194.length : Int) - t206)) > (wrap64 (t209 * (wrap64 (4 + t205)))) then (some (0, 0, 0, ([] : List (S44)), 5)) else (sig_Read.l0 k t194 t206 (wrap64 (4 + t205)) t199 t202 t205 ([] : List (S44))))) = some (r1, r2, r3, r4, r5) := H
      have A12 := zA A120
      clear A120
      by_cases c13 : (wrap64 ((t194.length : Int) - t206)) < (wrap64 (t209 * (wrap64 (4 + t205))))
      ·rw [if_pos c13] at H
       have c13b0 : decide ((wrap64 ((t194.length : Int) - t206)) < (wrap64 (t209 * (wrap64 (4 + t205))))) = true := zd1 c13
       clear c13
       simp only [Option.some.injEq, Prod.mk.injEq] at H
       obtain ⟨rfl, rfl, rfl, rfl, rfl⟩ := H
       go_enter Tryd.func27, Tryd.ntmps27
       try go_wp2_with (first | ((with_reducible refine gate_dst (N := 2) rfl ?_); refine box_event ?hg (N := 2) ?hd (cs := #[.int .i64 0, .int .i64 0, .int .i64 0, .slice none 0 0]) (t := 26) ?hr ?_; (case hd => rfl); (case hg => rfl); (case hr => first | (go_simp; done) | (go_simp; rfl)); intro gb193 hg w14 hbox hb; have n0_ := zA (zb5 (by repeat (first | (with_reducible first | exact HB.out | apply zb3 | apply zb1 | apply zb2) | exact HB.out)) hb); have n1_ := zA (hbox); have n2_ := zA ((by rw [hg]; exact (zb6 (by repeat (first | (with_reducible first | exact HB.out | apply zb3 | apply zb1 | apply zb2) | exact HB.out))) : w.heap.size ≤ gb193)); have n3_ := zA ((by rw [hg]; exact (zb6 (by repeat (first | (with_reducible first | exact HB.out | apply zb3 | apply zb1 | apply zb2) | exact HB.out))) : w.heap.size ≤ gb193)); clear HB; have HB := n0_; have BK193 := n1_; have GW193 := n2_; have GE193 := n3_; clear n0_ n1_ n2_ n3_; clear hb hbox hg) | ((with_reducible refine gate_callee (f := 25) rfl ?_); refine goesL_ (some 17) rfl rfl Tryd.func25 (by kernel_rfl) rfl #[.slice A0 l0.length c0] rfl (by (try simp only [zm1, zm2, zm3]); first | done | rfl | (simp only [List.length_drop, List.length_take]; rfl) | (simp only [Int.emod_add_emod, Int.add_emod_emod]; rfl)) ?_; (with_reducible refine (crc_Open.calls _ _ l0 t194 t195 _ ?side1 ?side2 A2.out ?sideG).mono ?_); (case sideG => first | exact hG.below (by repeat (first | (with_reducible first | exact HB.out | apply zb3 | apply zb1 | apply zb2 | refine zb4 ?_ GE193.out | refine zb4 ?_ GE198.out | refine zb4 ?_ GE210.out) | exact HB.out | exact Below.refl _ _)) | exact hG); (case side1 => repeat (first | exact (Kd.C_below HR0.out HB.out) | (with_reducible refine Kd.C_alloc ?_ _) | (with_reducible refine Kd.C_drewN ?_ _) | (with_reducible refine Kd.C_drew ?_))); (case side2 => exact HC0.out); rintro e w15 ⟨v196, rfl, ho0, hb⟩; refine ⟨_, rfl, ?_⟩; have n0_ := zA (Kd.R_lower ho0 (zb6 (by repeat (first | (with_reducible first | exact HB.out | apply zb3 | apply zb1 | apply zb2 | refine zb4 ?_ GE193.out) | exact HB.out)))); have n1_ := zA (zc6 (g := gb193) (o := .cells #[.int .i64 0, .int .i64 0, .int .i64 0, .slice none 0 0] 26 (0, 0)) (by (with_reducible repeat (first | refine zc3 ?_ _ | refine zc4 ?_ | refine zc2 ?_ _)); exact BK193.out) hb); have n2_ := zA (zb5 (by repeat (first | (with_reducible first | exact HB.out | apply zb3 | apply zb1 | apply zb2 | refine zb4 ?_ GE193.out) | exact HB.out)) hb); clear BK193; clear HB; have HO197 := n0_; have BK193 := n1_; have HB := n2_; clear n0_ n1_ n2_; (try clear hb); (try clear hb2); (try clear hk); (try clear hi); (try clear ho0)) | ((with_reducible refine gate_dst (N := 5) rfl ?_); refine box_event ?hg (N := 5) ?hd (cs := #[.int .i64 0, .int .i64 0, .int .i64 0, .slice none 0 0]) (t := 26) ?hr ?_; (case hd => rfl); (case hg => rfl); (case hr => first | (go_simp; done) | (go_simp; rfl)); intro gb198 hg wq_ hbox hb; have n0_ := zA (Kd.R_below (by (with_reducible repeat (first | apply Kd.R_alloc | apply Kd.R_drewN | apply Kd.R_drew)); exact HO197.out) hb); have n1_ := zA (zc6 (g := gb193) (o := .cells #[.int .i64 0, .int .i64 0, .int .i64 0, .slice none 0 0] 26 (0, 0)) (by (with_reducible repeat (first | refine zc3 ?_ _ | refine zc4 ?_ | refine zc2 ?_ _)); exact BK193.out) hb); have n2_ := zA (zb5 (by repeat (first | (with_reducible first | exact HB.out | apply zb3 | apply zb1 | apply zb2 | refine zb4 ?_ GE193.out) | exact HB.out)) hb); have n3_ := zA (hbox); have n4_ := zA ((by rw [hg]; exact (zb6 (by repeat (first | (with_reducible first | exact HB.out | apply zb3 | apply zb1 | apply zb2 | refine zb4 ?_ GE193.out) | exact HB.out))) : w.heap.size ≤ gb198)); have n5_ := zA ((by rw [hg]; exact (zb6 (by repeat (first | (with_reducible first | exact HB.out | apply zb3 | apply zb1 | apply zb2 | refine zb4 ?_ GE193.out) | exact HB.out))) : w.heap.size ≤ gb198)); have n6_ := zA ((by rw [hg]; exact Nat.ne_of_lt (blk_lt (g := gb193) (o := .cells #[.int .i64 0, .int .i64 0, .int .i64 0, .slice none 0 0] 26 (0, 0)) (by (with_reducible repeat (first | refine zc3 ?_ _ | refine zc4 ?_ | refine zc2 ?_ _)); exact BK193.out)) : gb193 ≠ gb198)); have n7_ := zA ((by rw [hg]; exact Nat.ne_of_gt (blk_lt (g := gb193) (o := .cells #[.int .i64 0, .int .i64 0, .int .i64 0, .slice none 0 0] 26 (0, 0)) (by (with_reducible repeat (first | refine zc3 ?_ _ | refine zc4 ?_ | refine zc2 ?_ _)); exact BK193.out)) : gb198 ≠ gb193)); clear HO197; clear BK193; clear HB; have HO197 := n0_; have BK193 := n1_; have HB := n2_; have BK198 := n3_; have GW198 := n4_; have GE198 := n5_; have NB193_198 := n6_; have NB198_193 := n7_; clear n0_ n1_ n2_ n3_ n4_ n5_ n6_ n7_; clear hb hbox hg; obtain ⟨Ao17, co17, eo17⟩ := Kd.R_slice HO197.out; subst eo17) | ((with_reducible refine gate_dst (N := 27) rfl ?_); refine row_event ?hg (N := 27) ?hd (cs := #[.pointer (some ⟨gb198, 0, none⟩), .pointer (some ⟨gb198, 1, none⟩), .pointer (some ⟨gb198, 2, none⟩)]) (t := 72) (n := 3) ?hr ?_; (case hd => rfl); (case hg => rfl); (case hr => first | (go_simp; done) | (go_simp; rfl)); intro gp_ hgp_ w16 hbp_ hbp2_; have n0_ := zA (Kd.R_below HO197.out hbp2_); have n1_ := zA (zc6 BK193.out hbp2_); have n2_ := zA (zc6 BK198.out hbp2_); have n3_ := zA (zb5 HB.out hbp2_); have hgn_ : gp_ ≠ gb198 := (by rw [hgp_]; exact Nat.ne_of_gt (blk_lt BK198.out)); have hgm_ : gb198 ≠ gp_ := hgn_.symm; have hbp0_ := zA hbp_; clear HO197 BK193 BK198 HB; have HO197 := n0_; have BK193 := n1_; have BK198 := n2_; have HB := n3_; clear n0_ n1_ n2_ n3_ hbp_ hbp2_ hgp_; have hp0_ : w16.cell? ⟨gp_, 0, none⟩ = some (.pointer (some ⟨gb198, 0, none⟩)) := (zc1 hbp0_.out 0).trans rfl; have hp1_ : w16.cell? ⟨gp_, 1, none⟩ = some (.pointer (some ⟨gb198, 1, none⟩)) := (zc1 hbp0_.out 1).trans rfl; have hp2_ : w16.cell? ⟨gp_, 2, none⟩ = some (.pointer (some ⟨gb198, 2, none⟩)) := (zc1 hbp0_.out 2).trans rfl))
       refine wp_loop_rounds 4 ?_
       rw [rounds_succ]
       try go_wp2_with (first | ((with_reducible refine gate_callee (f := 26) rfl ?_); refine goesL_ (some 37) rfl rfl Tryd.func26 (by kernel_rfl) rfl #[.slice Ao17 t194.length co17, .int .i64 0] rfl (by (try simp only [zm1, zm2, zm3]); first | done | rfl | (simp only [List.length_drop, List.length_take]; rfl) | (simp only [Int.emod_add_emod, Int.add_emod_emod]; rfl)) ?_; (with_reducible refine (num_Get.calls k _ _ t194 0 t199 t200 t201 _ ?side1 ?side2 A4.out).mono ?_); (case side1 => repeat (first | exact (Kd.R_reads' HO197.out).2.2 | (with_reducible refine Kd.C_alloc ?_ _) | (with_reducible refine Kd.C_drewN ?_ _) | (with_reducible refine Kd.C_drew ?_))); (case side2 => exact (Kd.R_reads' HO197.out).2.1); rintro e w' ⟨rfl, ⟨nd, rfl⟩⟩; refine ⟨_, rfl, ?_⟩; (try (rw [drewN_self w16]; generalize hq_ : World.drewN w16 _ = w16; have n0_ : Aside0 (Kd.R (Kd.int .u8) 5 w16 w.heap.size (fun _ => True) (.slice Ao17 t194.length co17) t194) := ⟨by rw [← hq_]; exact (by (with_reducible repeat (first | apply Kd.R_alloc | apply Kd.R_drewN | apply Kd.R_drew)); exact HO197.out)⟩; have n1_ : Aside0 (w16.heap[gb193]? = some (.cells #[.int .i64 0, .int .i64 0, .int .i64 0, .slice none 0 0] 26 (0, 0))) := ⟨by rw [← hq_]; exact (by (with_reducible repeat (first | refine zc3 ?_ _ | refine zc4 ?_ | refine zc2 ?_ _)); exact BK193.out)⟩; have n2_ : Aside0 (w16.heap[gb198]? = some (.cells #[.int .i64 0, .int .i64 0, .int .i64 0, .slice none 0 0] 26 (0, 0))) := ⟨by rw [← hq_]; exact (by (with_reducible repeat (first | refine zc3 ?_ _ | refine zc4 ?_ | refine zc2 ?_ _)); exact BK198.out)⟩; have n3_ : Aside0 (Below w.heap.size w w16) := ⟨by rw [← hq_]; exact (by repeat (first | (with_reducible first | exact HB.out | apply zb3 | apply zb1 | apply zb2 | refine zb4 ?_ GE193.out | refine zb4 ?_ GE198.out) | exact HB.out))⟩; have n9_ : Aside0 (w16.heap[gp_]? = some (.cells #[.pointer (some ⟨gb198, 0, none⟩), .pointer (some ⟨gb198, 1, none⟩), .pointer (some ⟨gb198, 2, none⟩)] 72 (0, 0))) := ⟨by rw [← hq_]; exact (by (with_reducible repeat (first | refine zc3 ?_ _ | refine zc4 ?_ | refine zc2 ?_ _)); exact hbp0_.out)⟩; clear hbp0_; clear HO197 BK193 BK198 HB hq_; have hbp0_ := n9_; clear n9_; have HO197 := n0_; have BK193 := n1_; have BK198 := n2_; have HB := n3_; clear n0_ n1_ n2_ n3_)); have hnb18 := NB198_193.out; have hnc18 := NB193_198.out; have hcz19_0 : w16.cell? ⟨gb198, 0, none⟩ = some (.int .i64 0) := (zc1 BK198.out 0).trans rfl; have hcz19_1 : w16.cell? ⟨gb198, 1, none⟩ = some (.int .i64 0) := (zc1 BK198.out 1).trans rfl; have hcz19_2 : w16.cell? ⟨gb198, 2, none⟩ = some (.int .i64 0) := (zc1 BK198.out 2).trans rfl; have hcz19_3 : w16.cell? ⟨gb198, 3, none⟩ = some (.slice none 0 0) := (zc1 BK198.out 3).trans rfl; have hfz19_0 := zc5 BK198.out 0; have hfz19_1 := zc5 BK198.out 1; have hfz19_2 := zc5 BK198.out 2; have hfz19_3 := zc5 BK198.out 3; (try (have hp0_ : w16.cell? ⟨gp_, 0, none⟩ = some (.pointer (some ⟨gb198, 0, none⟩)) := (zc1 hbp0_.out 0).trans rfl; have hp1_ : w16.cell? ⟨gp_, 1, none⟩ = some (.pointer (some ⟨gb198, 1, none⟩)) := (zc1 hbp0_.out 1).trans rfl; have hp2_ : w16.cell? ⟨gp_, 2, none⟩ = some (.pointer (some ⟨gb198, 2, none⟩)) := (zc1 hbp0_.out 2).trans rfl))))
       (try rw [show wrap64 (0 + 1) = 1 by unfold wrap64; omega])
       rw [rounds_succ]
       try go_wp2_with (first | ((with_reducible refine gate_callee (f := 26) rfl ?_); refine goesL_ (some 37) rfl rfl Tryd.func26 (by kernel_rfl) rfl #[.slice Ao17 t194.length co17, .int .i64 t200] rfl (by (try simp only [zm1, zm2, zm3]); first | done | rfl | (simp only [List.length_drop, List.length_take]; rfl) | (simp only [Int.emod_add_emod, Int.add_emod_emod]; rfl)) ?_; (with_reducible refine (num_Get.calls k _ _ t194 t200 t202 t203 t204 _ ?side1 ?side2 A6.out).mono ?_); (case side1 => refine (Kd.R_reads' (e := 5) (base := w.heap.size) (ok := fun k_ => True) (n := t194.length) (c := co17) ?_).2.2; exact (by (with_reducible repeat (first | apply Kd.R_alloc | apply Kd.R_drewN | apply Kd.R_drew)); exact (Kd.R_mono (Kd.R_far (p := ⟨gb198, 0, none⟩) (Kd.R_types HO197.out BK198.out (by decide)) (fun _ hk => hk.2) (.int .i64 t199)) (fun _ h_ => h_.1)))); (case side2 => exact (Kd.R_reads' HO197.out).2.1); rintro e w' ⟨rfl, ⟨nd, rfl⟩⟩; refine ⟨_, rfl, ?_⟩))
       (try rw [show wrap64 (1 + 1) = 2 by unfold wrap64; omega])
       rw [rounds_succ]
       try go_wp2_with (first | ((with_reducible refine gate_callee (f := 26) rfl ?_); refine goesL_ (some 37) rfl rfl Tryd.func26 (by kernel_rfl) rfl #[.slice Ao17 t194.length co17, .int .i64 t203] rfl (by (try simp only [zm1, zm2, zm3]); first | done | rfl | (simp only [List.length_drop, List.length_take]; rfl) | (simp only [Int.emod_add_emod, Int.add_emod_emod]; rfl)) ?_; (with_reducible refine (num_Get.calls k _ _ t194 t203 t205 t206 t207 _ ?side1 ?side2 A8.out).mono ?_); (case side1 => refine (Kd.R_reads' (e := 5) (base := w.heap.size) (ok := fun k_ => True) (n := t194.length) (c := co17) ?_).2.2; exact (by (with_reducible repeat (first | apply Kd.R_alloc | apply Kd.R_drewN | apply Kd.R_drew)); exact (Kd.R_mono (Kd.R_far (p := ⟨gb198, 1, none⟩) (Kd.R_far (p := ⟨gb198, 0, none⟩) (Kd.R_types HO197.out BK198.out (by decide)) (fun _ hk => hk.2) (.int .i64 t199)) (fun _ hk => hk.2) (.int .i64 t202)) (fun _ h_ => h_.1)))); (case side2 => exact (Kd.R_reads' HO197.out).2.1); rintro e w' ⟨rfl, ⟨nd, rfl⟩⟩; refine ⟨_, rfl, ?_⟩))
       (try rw [show wrap64 (2 + 1) = 3 by unfold wrap64; omega])
       rw [rounds_succ]
       try go_wp2_with (first | ((with_reducible refine gate_callee (f := 44) rfl ?_); refine goesL_ (some 48) rfl rfl Tryd.func44 (by kernel_rfl) rfl #[.agg #[.int .i64 t199, .int .i64 t202, .int .i64 t205, .slice none 0 0]] rfl (by (try simp only [zm1, zm2, zm3]); first | done | rfl | (simp only [List.length_drop, List.length_take]; rfl) | (simp only [Int.emod_add_emod, Int.add_emod_emod]; rfl)) ?_; (refine (sig_front.calls t199 t202 t205 _ _ ([] : List (S44)) t208 _ ?side1 ?side2 A10.out).mono ?_); (case side1 => exact Kd.C_nil _ _); (case side2 => exact Nat.le_refl _); rintro e w20 ⟨rfl, hb⟩; refine ⟨_, rfl, ?_⟩; have n0_ := zA (Kd.R_below (by (with_reducible repeat (first | apply Kd.R_alloc | apply Kd.R_drewN | apply Kd.R_drew)); exact (Kd.R_mono (Kd.R_far (p := ⟨gb198, 2, none⟩) (Kd.R_far (p := ⟨gb198, 1, none⟩) (Kd.R_far (p := ⟨gb198, 0, none⟩) (Kd.R_types HO197.out BK198.out (by decide)) (fun _ hk => hk.2) (.int .i64 t199)) (fun _ hk => hk.2) (.int .i64 t202)) (fun _ hk => hk.2) (.int .i64 t205)) (fun _ h_ => h_.1))) hb); have n1_ := zA (zc6 (g := gb193) (o := .cells #[.int .i64 0, .int .i64 0, .int .i64 0, .slice none 0 0] 26 (0, 0)) (by (with_reducible repeat (first | refine zc3 ?_ _ | refine zc4 ?_ | refine zc2 ?_ _)); refine zc7 ?_ NB193_198.out _; (with_reducible repeat (first | refine zc3 ?_ _ | refine zc4 ?_ | refine zc2 ?_ _)); refine zc7 ?_ NB193_198.out _; (with_reducible repeat (first | refine zc3 ?_ _ | refine zc4 ?_ | refine zc2 ?_ _)); refine zc7 ?_ NB193_198.out _; (with_reducible repeat (first | refine zc3 ?_ _ | refine zc4 ?_ | refine zc2 ?_ _)); exact BK193.out) hb); have n2_ := zA (zc6 (g := gb198) (o := .cells #[.int .i64 t199, .int .i64 t202, .int .i64 t205, .slice none 0 0] 26 (0, 0)) (by (with_reducible repeat (first | refine zc3 ?_ _ | refine zc4 ?_ | refine zc2 ?_ _)); refine blk_put (cs := #[.int .i64 t199, .int .i64 t202, .int .i64 0, .slice none 0 0]) ?_ 2 _ rfl; (with_reducible repeat (first | refine zc3 ?_ _ | refine zc4 ?_ | refine zc2 ?_ _)); refine blk_put (cs := #[.int .i64 t199, .int .i64 0, .int .i64 0, .slice none 0 0]) ?_ 1 _ rfl; (with_reducible repeat (first | refine zc3 ?_ _ | refine zc4 ?_ | refine zc2 ?_ _)); refine blk_put (cs := #[.int .i64 0, .int .i64 0, .int .i64 0, .slice none 0 0]) ?_ 0 _ rfl; (with_reducible repeat (first | refine zc3 ?_ _ | refine zc4 ?_ | refine zc2 ?_ _)); exact BK198.out) hb); have n3_ := zA (zb5 (by repeat (first | (with_reducible first | exact HB.out | apply zb3 | apply zb1 | apply zb2 | refine zb4 ?_ GE193.out | refine zb4 ?_ GE198.out) | exact HB.out)) hb); clear HO197; clear BK193; clear BK198; clear HB; have HO197 := n0_; have BK193 := n1_; have BK198 := n2_; have HB := n3_; clear n0_ n1_ n2_ n3_; (try clear hb); (try clear hb2); (try clear hk); (try clear hi)))
       have n0_ := zA (Kd.R_drew HO197.out)
       have n1_ := zA (zc4 BK193.out)
       have n2_ := zA (zc4 BK198.out)
       have n3_ := zA (zb2 HB.out)
       clear HO197
       clear BK193
       clear BK198
       clear HB
       have HO197 := n0_
       have BK193 := n1_
       have BK198 := n2_
       have HB := n3_
       clear n0_ n1_ n2_ n3_
       refine start_ (n := 10) (S := fun w' => w'.cell? ⟨gb198, 0, none⟩ = some (.int .i64 t199) ∧ w'.cell? ⟨gb198, 1, none⟩ = some (.int .i64 t202) ∧ w'.cell? ⟨gb198, 2, none⟩ = some (.int .i64 t205) ∧ w'.cell? ⟨gb198, 3, none⟩ = some (.slice none 0 0)) (ds := []) #[false, false, false, false, false, false, false, false, false, false] (by kernel_rfl) rfl rfl ⟨(zc1 BK198.out 0).trans rfl, (zc1 BK198.out 1).trans rfl, (zc1 BK198.out 2).trans rfl, (zc1 BK198.out 3).trans rfl⟩ (fun hHeld => ?_); refine with_tabW sig_Read.tab16 sig_Read.bits16 (fun HT_ HW_ => ?_)
       generalize w20.drew = w21 at HO197 BK193 BK198 HB hHeld ⊢
       refine pure_ (i := 0) (N := some 53) (v := ?_) (a' := ?_) #[true, false, false, false, false, false, false, false, false, false] rfl rfl (any_of HT_.out (by kernel_rfl)) (fun _ _ _ h => h) (Or.inl ⟨by rfl, ?_⟩) ?_ ?_
       rotate_left
       ·intro w'
        go_simp
        with_reducible rfl
       rotate_left
       ·simp only [Act.put, zs1, zs2, zs3, i64_w, i32_w]
        rfl
       refine pure_ (i := 2) (N := some 55) (v := ?_) (a' := ?_) #[true, false, true, false, false, false, false, false, false, false] rfl rfl (any_of HT_.out (by kernel_rfl)) (fun _ _ _ h => h) (Or.inl ⟨by rfl, ?_⟩) ?_ ?_
       rotate_left
       ·intro w'
        go_simp
        with_reducible rfl
       rotate_left
       ·simp only [Act.put, zs1, zs2, zs3, i64_w, i32_w]
        rfl
       refine pure_ (i := 5) (N := some 58) (v := ?_) (a' := ?_) #[true, false, true, false, false, true, false, false, false, false] rfl rfl (any_of HT_.out (by kernel_rfl)) (fun _ _ _ h => h) (Or.inl ⟨by rfl, ?_⟩) ?_ ?_
       rotate_left
       ·intro w'
        go_simp
        with_reducible rfl
       rotate_left
       ·simp only [Act.put, zs1, zs2, zs3, i64_w, i32_w]
        rfl
       refine take_ (i := 1) (N := some 54) (v := ?_) (a' := ?_) #[true, true, true, false, false, true, false, false, false, false] rfl rfl (take_ofW HT_.out HW_.out (by kernel_rfl)) (fun _ _ _ h => h) (Or.inl ⟨by rfl, ?_⟩) hHeld ?_ ?_
       rotate_left
       ·rintro w' ⟨s0, s1, s2, s3⟩
        go_simp
        with_reducible rfl
       rotate_left
       ·simp only [Act.put, zs1, zs2, zs3, i64_w, i32_w]
        rfl
       refine take_ (i := 3) (N := some 56) (v := ?_) (a' := ?_) #[true, true, true, true, false, true, false, false, false, false] rfl rfl (take_ofW HT_.out HW_.out (by kernel_rfl)) (fun _ _ _ h => h) (Or.inl ⟨by rfl, ?_⟩) hHeld ?_ ?_
       rotate_left
       ·rintro w' ⟨s0, s1, s2, s3⟩
        go_simp
        with_reducible rfl
       rotate_left
       ·simp only [Act.put, zs1, zs2, zs3, i64_w, i32_w]
        rfl
       refine take_ (i := 6) (N := some 59) (v := ?_) (a' := ?_) #[true, true, true, true, false, true, true, false, false, false] rfl rfl (take_ofW HT_.out HW_.out (by kernel_rfl)) (fun _ _ _ h => h) (Or.inl ⟨by rfl, ?_⟩) hHeld ?_ ?_
       rotate_left
       ·rintro w' ⟨s0, s1, s2, s3⟩
        go_simp
        with_reducible rfl
       rotate_left
       ·simp only [Act.put, zs1, zs2, zs3, i64_w, i32_w]
        rfl
       refine pure_ (i := 7) (N := some 60) (v := ?_) (a' := ?_) #[true, true, true, true, false, true, true, true, false, false] rfl rfl (any_of HT_.out (by kernel_rfl)) (fun _ _ _ h => h) (Or.inl ⟨by rfl, ?_⟩) ?_ ?_
       rotate_left
       ·intro w'
        go_simp
        with_reducible rfl
       rotate_left
       ·simp only [Act.put, zs1, zs2, zs3, i64_w, i32_w]
        rfl
       refine one_ (i := 4) (N := some 57) #[true, true, true, true, true, true, true, true, false, false] rfl rfl (one_of HT_.out (by kernel_rfl)) (by decide) (fun K hK => ?_)
       refine goes_ Tryd.func45 (by kernel_rfl) rfl #[.int .i64 t199, .int .i64 t202] (by rfl) rfl rfl (by (try simp only [zm1, zm2, zm3]); first | done | rfl | (simp only [List.length_drop, List.length_take]; rfl) | (simp only [Int.emod_add_emod, Int.add_emod_emod]; rfl)) ?_
       with_reducible refine (blocks_Count.calls t199 t202 t209 _ A12.out).mono ?_
       rintro e w' ⟨rfl, ⟨nd, rfl⟩⟩
       refine ⟨_, rfl, ?_⟩
       refine hK.out _ _ ⟨(zc1 BK198.out 0).trans rfl, (zc1 BK198.out 1).trans rfl, (zc1 BK198.out 2).trans rfl, (zc1 BK198.out 3).trans rfl⟩ (fun hHeld => ?_)
       clear hK K
       refine norm_ (a' := ?_) ?_ ?_
       rotate_left
       ·show Act.put _ (some 57) _ = _
        simp only [Act.put, zs1, zs2, zs3, i64_w, i32_w]
        rfl
       refine pure_ (i := 8) (N := some 10) (v := ?_) (a' := ?_) #[true, true, true, true, true, true, true, true, true, false] rfl rfl (any_of HT_.out (by kernel_rfl)) (fun _ _ _ h => h) (Or.inl ⟨by rfl, ?_⟩) ?_ ?_
       rotate_left
       ·intro w'
        go_simp
        with_reducible rfl
       rotate_left
       ·simp only [Act.put, zs1, zs2, zs3, i64_w, i32_w]
        rfl
       refine pure_ (i := 9) (N := some 11) (v := ?_) (a' := ?_) #[true, true, true, true, true, true, true, true, true, true] rfl rfl (any_of HT_.out (by kernel_rfl)) (fun _ _ _ h => h) (Or.inl ⟨by rfl, ?_⟩) ?_ ?_
       rotate_left
       ·intro w'
        go_simp
        with_reducible rfl
       rotate_left
       ·simp only [Act.put, zs1, zs2, zs3, i64_w, i32_w]
        rfl
       refine done_ (done_of HT_.out (by kernel_rfl)) ?_
       have hcz22_0 : w21.cell? ⟨gb193, 0, none⟩ = some (.int .i64 0) := (zc1 BK193.out 0).trans rfl
       have hcz22_1 : w21.cell? ⟨gb193, 1, none⟩ = some (.int .i64 0) := (zc1 BK193.out 1).trans rfl
       have hcz22_2 : w21.cell? ⟨gb193, 2, none⟩ = some (.int .i64 0) := (zc1 BK193.out 2).trans rfl
       have hcz22_3 : w21.cell? ⟨gb193, 3, none⟩ = some (.slice none 0 0) := (zc1 BK193.out 3).trans rfl
       have hfz22_0 := zc5 BK193.out 0
       have hfz22_1 := zc5 BK193.out 1
       have hfz22_2 := zc5 BK193.out 2
       have hfz22_3 := zc5 BK193.out 3
       try go_wp2
       refine bodyPost_ret (results_ct rfl _ _ gb193 26 #[.int .i64 0, .int .i64 0, .int .i64 0, .slice none 0 0] (0, 0) _ rfl (by (with_reducible repeat (first | refine zc3 ?_ _ | refine zc4 ?_ | refine zc2 ?_ _)); refine blk_put (cs := #[.int .i64 0, .int .i64 0, .int .i64 0, .slice none 0 0]) ?_ 3 _ rfl; (with_reducible repeat (first | refine zc3 ?_ _ | refine zc4 ?_ | refine zc2 ?_ _)); refine blk_put (cs := #[.int .i64 0, .int .i64 0, .int .i64 0, .slice none 0 0]) ?_ 2 _ rfl; (with_reducible repeat (first | refine zc3 ?_ _ | refine zc4 ?_ | refine zc2 ?_ _)); refine blk_put (cs := #[.int .i64 0, .int .i64 0, .int .i64 0, .slice none 0 0]) ?_ 1 _ rfl; (with_reducible repeat (first | refine zc3 ?_ _ | refine zc4 ?_ | refine zc2 ?_ _)); refine blk_put (cs := #[.int .i64 0, .int .i64 0, .int .i64 0, .slice none 0 0]) ?_ 0 _ rfl; (with_reducible repeat (first | refine zc3 ?_ _ | refine zc4 ?_ | refine zc2 ?_ _)); exact BK193.out) Tryd.underlying26 rfl (by kernel_rfl)) rfl ?_
       exact ⟨_, by first | rfl | (simp [*] <;> rfl), by first | exact Kd.R_nil _ _ _ _ _ | exact Kd.N_nil _ _ _ _ _ | exact Kd.V_nil _ _ _ _ _ | exact Kd.Q_nil _ _ _ _ _ | exact Kd.S_nil _ _ _ _ _, by repeat (first | (with_reducible first | exact HB.out | apply zb3 | apply zb1 | apply zb2 | refine zb4 ?_ GE193.out | refine zb4 ?_ GE198.out) | exact HB.out)⟩
      ·rw [if_neg c13] at H
       have c13b0 : decide ((wrap64 ((t194.length : Int) - t206)) < (wrap64 (t209 * (wrap64 (4 + t205))))) = false := zd2 c13
       clear c13
       by_cases c23 : (wrap64 ((t194.length : Int) - t206)) > (wrap64 (t209 * (wrap64 (4 + t205))))
       ·rw [if_pos c23] at H
        have c23b0 : decide ((wrap64 (t209 * (wrap64 (4 + t205)))) < (wrap64 ((t194.length : Int) - t206))) = true := zd1 c23
        clear c23
        simp only [Option.some.injEq, Prod.mk.injEq] at H
        obtain ⟨rfl, rfl, rfl, rfl, rfl⟩ := H
        go_enter Tryd.func27, Tryd.ntmps27
        try go_wp2_with (first | ((with_reducible refine gate_dst (N := 2) rfl ?_); refine box_event ?hg (N := 2) ?hd (cs := #[.int .i64 0, .int .i64 0, .int .i64 0, .slice none 0 0]) (t := 26) ?hr ?_; (case hd => rfl); (case hg => rfl); (case hr => first | (go_simp; done) | (go_simp; rfl)); intro gb193 hg w24 hbox hb; have n0_ := zA (zb5 (by repeat (first | (with_reducible first | exact HB.out | apply zb3 | apply zb1 | apply zb2) | exact HB.out)) hb); have n1_ := zA (hbox); have n2_ := zA ((by rw [hg]; exact (zb6 (by repeat (first | (with_reducible first | exact HB.out | apply zb3 | apply zb1 | apply zb2) | exact HB.out))) : w.heap.size ≤ gb193)); have n3_ := zA ((by rw [hg]; exact (zb6 (by repeat (first | (with_reducible first | exact HB.out | apply zb3 | apply zb1 | apply zb2) | exact HB.out))) : w.heap.size ≤ gb193)); clear HB; have HB := n0_; have BK193 := n1_; have GW193 := n2_; have GE193 := n3_; clear n0_ n1_ n2_ n3_; clear hb hbox hg) | ((with_reducible refine gate_callee (f := 25) rfl ?_); refine goesL_ (some 17) rfl rfl Tryd.func25 (by kernel_rfl) rfl #[.slice A0 l0.length c0] rfl (by (try simp only [zm1, zm2, zm3]); first | done | rfl | (simp only [List.length_drop, List.length_take]; rfl) | (simp only [Int.emod_add_emod, Int.add_emod_emod]; rfl)) ?_; (with_reducible refine (crc_Open.calls _ _ l0 t194 t195 _ ?side1 ?side2 A2.out ?sideG).mono ?_); (case sideG => first | exact hG.below (by repeat (first | (with_reducible first | exact HB.out | apply zb3 | apply zb1 | apply zb2 | refine zb4 ?_ GE193.out | refine zb4 ?_ GE198.out | refine zb4 ?_ GE210.out) | exact HB.out | exact Below.refl _ _)) | exact hG); (case side1 => repeat (first | exact (Kd.C_below HR0.out HB.out) | (with_reducible refine Kd.C_alloc ?_ _) | (with_reducible refine Kd.C_drewN ?_ _) | (with_reducible refine Kd.C_drew ?_))); (case side2 => exact HC0.out); rintro e w25 ⟨v196, rfl, ho0, hb⟩; refine ⟨_, rfl, ?_⟩; have n0_ := zA (Kd.R_lower ho0 (zb6 (by repeat (first | (with_reducible first | exact HB.out | apply zb3 | apply zb1 | apply zb2 | refine zb4 ?_ GE193.out) | exact HB.out)))); have n1_ := zA (zc6 (g := gb193) (o := .cells #[.int .i64 0, .int .i64 0, .int .i64 0, .slice none 0 0] 26 (0, 0)) (by (with_reducible repeat (first | refine zc3 ?_ _ | refine zc4 ?_ | refine zc2 ?_ _)); exact BK193.out) hb); have n2_ := zA (zb5 (by repeat (first | (with_reducible first | exact HB.out | apply zb3 | apply zb1 | apply zb2 | refine zb4 ?_ GE193.out) | exact HB.out)) hb); clear BK193; clear HB; have HO197 := n0_; have BK193 := n1_; have HB := n2_; clear n0_ n1_ n2_; (try clear hb); (try clear hb2); (try clear hk); (try clear hi); (try clear ho0)) | ((with_reducible refine gate_dst (N := 5) rfl ?_); refine box_event ?hg (N := 5) ?hd (cs := #[.int .i64 0, .int .i64 0, .int .i64 0, .slice none 0 0]) (t := 26) ?hr ?_; (case hd => rfl); (case hg => rfl); (case hr => first | (go_simp; done) | (go_simp; rfl)); intro gb198 hg wq_ hbox hb; have n0_ := zA (Kd.R_below (by (with_reducible repeat (first | apply Kd.R_alloc | apply Kd.R_drewN | apply Kd.R_drew)); exact HO197.out) hb); have n1_ := zA (zc6 (g := gb193) (o := .cells #[.int .i64 0, .int .i64 0, .int .i64 0, .slice none 0 0] 26 (0, 0)) (by (with_reducible repeat (first | refine zc3 ?_ _ | refine zc4 ?_ | refine zc2 ?_ _)); exact BK193.out) hb); have n2_ := zA (zb5 (by repeat (first | (with_reducible first | exact HB.out | apply zb3 | apply zb1 | apply zb2 | refine zb4 ?_ GE193.out) | exact HB.out)) hb); have n3_ := zA (hbox); have n4_ := zA ((by rw [hg]; exact (zb6 (by repeat (first | (with_reducible first | exact HB.out | apply zb3 | apply zb1 | apply zb2 | refine zb4 ?_ GE193.out) | exact HB.out))) : w.heap.size ≤ gb198)); have n5_ := zA ((by rw [hg]; exact (zb6 (by repeat (first | (with_reducible first | exact HB.out | apply zb3 | apply zb1 | apply zb2 | refine zb4 ?_ GE193.out) | exact HB.out))) : w.heap.size ≤ gb198)); have n6_ := zA ((by rw [hg]; exact Nat.ne_of_lt (blk_lt (g := gb193) (o := .cells #[.int .i64 0, .int .i64 0, .int .i64 0, .slice none 0 0] 26 (0, 0)) (by (with_reducible repeat (first | refine zc3 ?_ _ | refine zc4 ?_ | refine zc2 ?_ _)); exact BK193.out)) : gb193 ≠ gb198)); have n7_ := zA ((by rw [hg]; exact Nat.ne_of_gt (blk_lt (g := gb193) (o := .cells #[.int .i64 0, .int .i64 0, .int .i64 0, .slice none 0 0] 26 (0, 0)) (by (with_reducible repeat (first | refine zc3 ?_ _ | refine zc4 ?_ | refine zc2 ?_ _)); exact BK193.out)) : gb198 ≠ gb193)); clear HO197; clear BK193; clear HB; have HO197 := n0_; have BK193 := n1_; have HB := n2_; have BK198 := n3_; have GW198 := n4_; have GE198 := n5_; have NB193_198 := n6_; have NB198_193 := n7_; clear n0_ n1_ n2_ n3_ n4_ n5_ n6_ n7_; clear hb hbox hg; obtain ⟨Ao27, co27, eo27⟩ := Kd.R_slice HO197.out; subst eo27) | ((with_reducible refine gate_dst (N := 27) rfl ?_); refine row_event ?hg (N := 27) ?hd (cs := #[.pointer (some ⟨gb198, 0, none⟩), .pointer (some ⟨gb198, 1, none⟩), .pointer (some ⟨gb198, 2, none⟩)]) (t := 72) (n := 3) ?hr ?_; (case hd => rfl); (case hg => rfl); (case hr => first | (go_simp; done) | (go_simp; rfl)); intro gp_ hgp_ w26 hbp_ hbp2_; have n0_ := zA (Kd.R_below HO197.out hbp2_); have n1_ := zA (zc6 BK193.out hbp2_); have n2_ := zA (zc6 BK198.out hbp2_); have n3_ := zA (zb5 HB.out hbp2_); have hgn_ : gp_ ≠ gb198 := (by rw [hgp_]; exact Nat.ne_of_gt (blk_lt BK198.out)); have hgm_ : gb198 ≠ gp_ := hgn_.symm; have hbp0_ := zA hbp_; clear HO197 BK193 BK198 HB; have HO197 := n0_; have BK193 := n1_; have BK198 := n2_; have HB := n3_; clear n0_ n1_ n2_ n3_ hbp_ hbp2_ hgp_; have hp0_ : w26.cell? ⟨gp_, 0, none⟩ = some (.pointer (some ⟨gb198, 0, none⟩)) := (zc1 hbp0_.out 0).trans rfl; have hp1_ : w26.cell? ⟨gp_, 1, none⟩ = some (.pointer (some ⟨gb198, 1, none⟩)) := (zc1 hbp0_.out 1).trans rfl; have hp2_ : w26.cell? ⟨gp_, 2, none⟩ = some (.pointer (some ⟨gb198, 2, none⟩)) := (zc1 hbp0_.out 2).trans rfl))
        refine wp_loop_rounds 4 ?_
        rw [rounds_succ]
        try go_wp2_with (first | ((with_reducible refine gate_callee (f := 26) rfl ?_); refine goesL_ (some 37) rfl rfl Tryd.func26 (by kernel_rfl) rfl #[.slice Ao27 t194.length co27, .int .i64 0] rfl (by (try simp only [zm1, zm2, zm3]); first | done | rfl | (simp only [List.length_drop, List.length_take]; rfl) | (simp only [Int.emod_add_emod, Int.add_emod_emod]; rfl)) ?_; (with_reducible refine (num_Get.calls k _ _ t194 0 t199 t200 t201 _ ?side1 ?side2 A4.out).mono ?_); (case side1 => repeat (first | exact (Kd.R_reads' HO197.out).2.2 | (with_reducible refine Kd.C_alloc ?_ _) | (with_reducible refine Kd.C_drewN ?_ _) | (with_reducible refine Kd.C_drew ?_))); (case side2 => exact (Kd.R_reads' HO197.out).2.1); rintro e w' ⟨rfl, ⟨nd, rfl⟩⟩; refine ⟨_, rfl, ?_⟩; (try (rw [drewN_self w26]; generalize hq_ : World.drewN w26 _ = w26; have n0_ : Aside0 (Kd.R (Kd.int .u8) 5 w26 w.heap.size (fun _ => True) (.slice Ao27 t194.length co27) t194) := ⟨by rw [← hq_]; exact (by (with_reducible repeat (first | apply Kd.R_alloc | apply Kd.R_drewN | apply Kd.R_drew)); exact HO197.out)⟩; have n1_ : Aside0 (w26.heap[gb193]? = some (.cells #[.int .i64 0, .int .i64 0, .int .i64 0, .slice none 0 0] 26 (0, 0))) := ⟨by rw [← hq_]; exact (by (with_reducible repeat (first | refine zc3 ?_ _ | refine zc4 ?_ | refine zc2 ?_ _)); exact BK193.out)⟩; have n2_ : Aside0 (w26.heap[gb198]? = some (.cells #[.int .i64 0, .int .i64 0, .int .i64 0, .slice none 0 0] 26 (0, 0))) := ⟨by rw [← hq_]; exact (by (with_reducible repeat (first | refine zc3 ?_ _ | refine zc4 ?_ | refine zc2 ?_ _)); exact BK198.out)⟩; have n3_ : Aside0 (Below w.heap.size w w26) := ⟨by rw [← hq_]; exact (by repeat (first | (with_reducible first | exact HB.out | apply zb3 | apply zb1 | apply zb2 | refine zb4 ?_ GE193.out | refine zb4 ?_ GE198.out) | exact HB.out))⟩; have n9_ : Aside0 (w26.heap[gp_]? = some (.cells #[.pointer (some ⟨gb198, 0, none⟩), .pointer (some ⟨gb198, 1, none⟩), .pointer (some ⟨gb198, 2, none⟩)] 72 (0, 0))) := ⟨by rw [← hq_]; exact (by (with_reducible repeat (first | refine zc3 ?_ _ | refine zc4 ?_ | refine zc2 ?_ _)); exact hbp0_.out)⟩; clear hbp0_; clear HO197 BK193 BK198 HB hq_; have hbp0_ := n9_; clear n9_; have HO197 := n0_; have BK193 := n1_; have BK198 := n2_; have HB := n3_; clear n0_ n1_ n2_ n3_)); have hnb28 := NB198_193.out; have hnc28 := NB193_198.out; have hcz29_0 : w26.cell? ⟨gb198, 0, none⟩ = some (.int .i64 0) := (zc1 BK198.out 0).trans rfl; have hcz29_1 : w26.cell? ⟨gb198, 1, none⟩ = some (.int .i64 0) := (zc1 BK198.out 1).trans rfl; have hcz29_2 : w26.cell? ⟨gb198, 2, none⟩ = some (.int .i64 0) := (zc1 BK198.out 2).trans rfl; have hcz29_3 : w26.cell? ⟨gb198, 3, none⟩ = some (.slice none 0 0) := (zc1 BK198.out 3).trans rfl; have hfz29_0 := zc5 BK198.out 0; have hfz29_1 := zc5 BK198.out 1; have hfz29_2 := zc5 BK198.out 2; have hfz29_3 := zc5 BK198.out 3; (try (have hp0_ : w26.cell? ⟨gp_, 0, none⟩ = some (.pointer (some ⟨gb198, 0, none⟩)) := (zc1 hbp0_.out 0).trans rfl; have hp1_ : w26.cell? ⟨gp_, 1, none⟩ = some (.pointer (some ⟨gb198, 1, none⟩)) := (zc1 hbp0_.out 1).trans rfl; have hp2_ : w26.cell? ⟨gp_, 2, none⟩ = some (.pointer (some ⟨gb198, 2, none⟩)) := (zc1 hbp0_.out 2).trans rfl))))
        (try rw [show wrap64 (0 + 1) = 1 by unfold wrap64; omega])
        rw [rounds_succ]
        try go_wp2_with (first | ((with_reducible refine gate_callee (f := 26) rfl ?_); refine goesL_ (some 37) rfl rfl Tryd.func26 (by kernel_rfl) rfl #[.slice Ao27 t194.length co27, .int .i64 t200] rfl (by (try simp only [zm1, zm2, zm3]); first | done | rfl | (simp only [List.length_drop, List.length_take]; rfl) | (simp only [Int.emod_add_emod, Int.add_emod_emod]; rfl)) ?_; (with_reducible refine (num_Get.calls k _ _ t194 t200 t202 t203 t204 _ ?side1 ?side2 A6.out).mono ?_); (case side1 => refine (Kd.R_reads' (e := 5) (base := w.heap.size) (ok := fun k_ => True) (n := t194.length) (c := co27) ?_).2.2; exact (by (with_reducible repeat (first | apply Kd.R_alloc | apply Kd.R_drewN | apply Kd.R_drew)); exact (Kd.R_mono (Kd.R_far (p := ⟨gb198, 0, none⟩) (Kd.R_types HO197.out BK198.out (by decide)) (fun _ hk => hk.2) (.int .i64 t199)) (fun _ h_ => h_.1)))); (case side2 => exact (Kd.R_reads' HO197.out).2.1); rintro e w' ⟨rfl, ⟨nd, rfl⟩⟩; refine ⟨_, rfl, ?_⟩))
        (try rw [show wrap64 (1 + 1) = 2 by unfold wrap64; omega])
        rw [rounds_succ]
        try go_wp2_with (first | ((with_reducible refine gate_callee (f := 26) rfl ?_); refine goesL_ (some 37) rfl rfl Tryd.func26 (by kernel_rfl) rfl #[.slice Ao27 t194.length co27, .int .i64 t203] rfl (by (try simp only [zm1, zm2, zm3]); first | done | rfl | (simp only [List.length_drop, List.length_take]; rfl) | (simp only [Int.emod_add_emod, Int.add_emod_emod]; rfl)) ?_; (with_reducible refine (num_Get.calls k _ _ t194 t203 t205 t206 t207 _ ?side1 ?side2 A8.out).mono ?_); (case side1 => refine (Kd.R_reads' (e := 5) (base := w.heap.size) (ok := fun k_ => True) (n := t194.length) (c := co27) ?_).2.2; exact (by (with_reducible repeat (first | apply Kd.R_alloc | apply Kd.R_drewN | apply Kd.R_drew)); exact (Kd.R_mono (Kd.R_far (p := ⟨gb198, 1, none⟩) (Kd.R_far (p := ⟨gb198, 0, none⟩) (Kd.R_types HO197.out BK198.out (by decide)) (fun _ hk => hk.2) (.int .i64 t199)) (fun _ hk => hk.2) (.int .i64 t202)) (fun _ h_ => h_.1)))); (case side2 => exact (Kd.R_reads' HO197.out).2.1); rintro e w' ⟨rfl, ⟨nd, rfl⟩⟩; refine ⟨_, rfl, ?_⟩))
        (try rw [show wrap64 (2 + 1) = 3 by unfold wrap64; omega])
        rw [rounds_succ]
        try go_wp2_with (first | ((with_reducible refine gate_callee (f := 44) rfl ?_); refine goesL_ (some 48) rfl rfl Tryd.func44 (by kernel_rfl) rfl #[.agg #[.int .i64 t199, .int .i64 t202, .int .i64 t205, .slice none 0 0]] rfl (by (try simp only [zm1, zm2, zm3]); first | done | rfl | (simp only [List.length_drop, List.length_take]; rfl) | (simp only [Int.emod_add_emod, Int.add_emod_emod]; rfl)) ?_; (refine (sig_front.calls t199 t202 t205 _ _ ([] : List (S44)) t208 _ ?side1 ?side2 A10.out).mono ?_); (case side1 => exact Kd.C_nil _ _); (case side2 => exact Nat.le_refl _); rintro e w30 ⟨rfl, hb⟩; refine ⟨_, rfl, ?_⟩; have n0_ := zA (Kd.R_below (by (with_reducible repeat (first | apply Kd.R_alloc | apply Kd.R_drewN | apply Kd.R_drew)); exact (Kd.R_mono (Kd.R_far (p := ⟨gb198, 2, none⟩) (Kd.R_far (p := ⟨gb198, 1, none⟩) (Kd.R_far (p := ⟨gb198, 0, none⟩) (Kd.R_types HO197.out BK198.out (by decide)) (fun _ hk => hk.2) (.int .i64 t199)) (fun _ hk => hk.2) (.int .i64 t202)) (fun _ hk => hk.2) (.int .i64 t205)) (fun _ h_ => h_.1))) hb); have n1_ := zA (zc6 (g := gb193) (o := .cells #[.int .i64 0, .int .i64 0, .int .i64 0, .slice none 0 0] 26 (0, 0)) (by (with_reducible repeat (first | refine zc3 ?_ _ | refine zc4 ?_ | refine zc2 ?_ _)); refine zc7 ?_ NB193_198.out _; (with_reducible repeat (first | refine zc3 ?_ _ | refine zc4 ?_ | refine zc2 ?_ _)); refine zc7 ?_ NB193_198.out _; (with_reducible repeat (first | refine zc3 ?_ _ | refine zc4 ?_ | refine zc2 ?_ _)); refine zc7 ?_ NB193_198.out _; (with_reducible repeat (first | refine zc3 ?_ _ | refine zc4 ?_ | refine zc2 ?_ _)); exact BK193.out) hb); have n2_ := zA (zc6 (g := gb198) (o := .cells #[.int .i64 t199, .int .i64 t202, .int .i64 t205, .slice none 0 0] 26 (0, 0)) (by (with_reducible repeat (first | refine zc3 ?_ _ | refine zc4 ?_ | refine zc2 ?_ _)); refine blk_put (cs := #[.int .i64 t199, .int .i64 t202, .int .i64 0, .slice none 0 0]) ?_ 2 _ rfl; (with_reducible repeat (first | refine zc3 ?_ _ | refine zc4 ?_ | refine zc2 ?_ _)); refine blk_put (cs := #[.int .i64 t199, .int .i64 0, .int .i64 0, .slice none 0 0]) ?_ 1 _ rfl; (with_reducible repeat (first | refine zc3 ?_ _ | refine zc4 ?_ | refine zc2 ?_ _)); refine blk_put (cs := #[.int .i64 0, .int .i64 0, .int .i64 0, .slice none 0 0]) ?_ 0 _ rfl; (with_reducible repeat (first | refine zc3 ?_ _ | refine zc4 ?_ | refine zc2 ?_ _)); exact BK198.out) hb); have n3_ := zA (zb5 (by repeat (first | (with_reducible first | exact HB.out | apply zb3 | apply zb1 | apply zb2 | refine zb4 ?_ GE193.out | refine zb4 ?_ GE198.out) | exact HB.out)) hb); clear HO197; clear BK193; clear BK198; clear HB; have HO197 := n0_; have BK193 := n1_; have BK198 := n2_; have HB := n3_; clear n0_ n1_ n2_ n3_; (try clear hb); (try clear hb2); (try clear hk); (try clear hi)))
        have n0_ := zA (Kd.R_drew HO197.out)
        have n1_ := zA (zc4 BK193.out)
        have n2_ := zA (zc4 BK198.out)
        have n3_ := zA (zb2 HB.out)
        clear HO197
        clear BK193
        clear BK198
        clear HB
        have HO197 := n0_
        have BK193 := n1_
        have BK198 := n2_
        have HB := n3_
        clear n0_ n1_ n2_ n3_
        refine start_ (n := 10) (S := fun w' => w'.cell? ⟨gb198, 0, none⟩ = some (.int .i64 t199) ∧ w'.cell? ⟨gb198, 1, none⟩ = some (.int .i64 t202) ∧ w'.cell? ⟨gb198, 2, none⟩ = some (.int .i64 t205) ∧ w'.cell? ⟨gb198, 3, none⟩ = some (.slice none 0 0)) (ds := []) #[false, false, false, false, false, false, false, false, false, false] (by kernel_rfl) rfl rfl ⟨(zc1 BK198.out 0).trans rfl, (zc1 BK198.out 1).trans rfl, (zc1 BK198.out 2).trans rfl, (zc1 BK198.out 3).trans rfl⟩ (fun hHeld => ?_); refine with_tabW sig_Read.tab16 sig_Read.bits16 (fun HT_ HW_ => ?_)
        generalize w30.drew = w31 at HO197 BK193 BK198 HB hHeld ⊢
        refine pure_ (i := 0) (N := some 53) (v := ?_) (a' := ?_) #[true, false, false, false, false, false, false, false, false, false] rfl rfl (any_of HT_.out (by kernel_rfl)) (fun _ _ _ h => h) (Or.inl ⟨by rfl, ?_⟩) ?_ ?_
        rotate_left
        ·intro w'
         go_simp
         with_reducible rfl
        rotate_left
        ·simp only [Act.put, zs1, zs2, zs3, i64_w, i32_w]
         rfl
        refine pure_ (i := 2) (N := some 55) (v := ?_) (a' := ?_) #[true, false, true, false, false, false, false, false, false, false] rfl rfl (any_of HT_.out (by kernel_rfl)) (fun _ _ _ h => h) (Or.inl ⟨by rfl, ?_⟩) ?_ ?_
        rotate_left
        ·intro w'
         go_simp
         with_reducible rfl
        rotate_left
        ·simp only [Act.put, zs1, zs2, zs3, i64_w, i32_w]
         rfl
        refine pure_ (i := 5) (N := some 58) (v := ?_) (a' := ?_) #[true, false, true, false, false, true, false, false, false, false] rfl rfl (any_of HT_.out (by kernel_rfl)) (fun _ _ _ h => h) (Or.inl ⟨by rfl, ?_⟩) ?_ ?_
        rotate_left
        ·intro w'
         go_simp
         with_reducible rfl
        rotate_left
        ·simp only [Act.put, zs1, zs2, zs3, i64_w, i32_w]
         rfl
        refine take_ (i := 1) (N := some 54) (v := ?_) (a' := ?_) #[true, true, true, false, false, true, false, false, false, false] rfl rfl (take_ofW HT_.out HW_.out (by kernel_rfl)) (fun _ _ _ h => h) (Or.inl ⟨by rfl, ?_⟩) hHeld ?_ ?_
        rotate_left
        ·rintro w' ⟨s0, s1, s2, s3⟩
         go_simp
         with_reducible rfl
        rotate_left
        ·simp only [Act.put, zs1, zs2, zs3, i64_w, i32_w]
         rfl
        refine take_ (i := 3) (N := some 56) (v := ?_) (a' := ?_) #[true, true, true, true, false, true, false, false, false, false] rfl rfl (take_ofW HT_.out HW_.out (by kernel_rfl)) (fun _ _ _ h => h) (Or.inl ⟨by rfl, ?_⟩) hHeld ?_ ?_
        rotate_left
        ·rintro w' ⟨s0, s1, s2, s3⟩
         go_simp
         with_reducible rfl
        rotate_left
        ·simp only [Act.put, zs1, zs2, zs3, i64_w, i32_w]
         rfl
        refine take_ (i := 6) (N := some 59) (v := ?_) (a' := ?_) #[true, true, true, true, false, true, true, false, false, false] rfl rfl (take_ofW HT_.out HW_.out (by kernel_rfl)) (fun _ _ _ h => h) (Or.inl ⟨by rfl, ?_⟩) hHeld ?_ ?_
        rotate_left
        ·rintro w' ⟨s0, s1, s2, s3⟩
         go_simp
         with_reducible rfl
        rotate_left
        ·simp only [Act.put, zs1, zs2, zs3, i64_w, i32_w]
         rfl
        refine pure_ (i := 7) (N := some 60) (v := ?_) (a' := ?_) #[true, true, true, true, false, true, true, true, false, false] rfl rfl (any_of HT_.out (by kernel_rfl)) (fun _ _ _ h => h) (Or.inl ⟨by rfl, ?_⟩) ?_ ?_
        rotate_left
        ·intro w'
         go_simp
         with_reducible rfl
        rotate_left
        ·simp only [Act.put, zs1, zs2, zs3, i64_w, i32_w]
         rfl
        refine one_ (i := 4) (N := some 57) #[true, true, true, true, true, true, true, true, false, false] rfl rfl (one_of HT_.out (by kernel_rfl)) (by decide) (fun K hK => ?_)
        refine goes_ Tryd.func45 (by kernel_rfl) rfl #[.int .i64 t199, .int .i64 t202] (by rfl) rfl rfl (by (try simp only [zm1, zm2, zm3]); first | done | rfl | (simp only [List.length_drop, List.length_take]; rfl) | (simp only [Int.emod_add_emod, Int.add_emod_emod]; rfl)) ?_
        with_reducible refine (blocks_Count.calls t199 t202 t209 _ A12.out).mono ?_
        rintro e w' ⟨rfl, ⟨nd, rfl⟩⟩
        refine ⟨_, rfl, ?_⟩
        refine hK.out _ _ ⟨(zc1 BK198.out 0).trans rfl, (zc1 BK198.out 1).trans rfl, (zc1 BK198.out 2).trans rfl, (zc1 BK198.out 3).trans rfl⟩ (fun hHeld => ?_)
        clear hK K
        refine norm_ (a' := ?_) ?_ ?_
        rotate_left
        ·show Act.put _ (some 57) _ = _
         simp only [Act.put, zs1, zs2, zs3, i64_w, i32_w]
         rfl
        refine pure_ (i := 8) (N := some 10) (v := ?_) (a' := ?_) #[true, true, true, true, true, true, true, true, true, false] rfl rfl (any_of HT_.out (by kernel_rfl)) (fun _ _ _ h => h) (Or.inl ⟨by rfl, ?_⟩) ?_ ?_
        rotate_left
        ·intro w'
         go_simp
         with_reducible rfl
        rotate_left
        ·simp only [Act.put, zs1, zs2, zs3, i64_w, i32_w]
         rfl
        refine pure_ (i := 9) (N := some 11) (v := ?_) (a' := ?_) #[true, true, true, true, true, true, true, true, true, true] rfl rfl (any_of HT_.out (by kernel_rfl)) (fun _ _ _ h => h) (Or.inl ⟨by rfl, ?_⟩) ?_ ?_
        rotate_left
        ·intro w'
         go_simp
         with_reducible rfl
        rotate_left
        ·simp only [Act.put, zs1, zs2, zs3, i64_w, i32_w]
         rfl
        refine done_ (done_of HT_.out (by kernel_rfl)) ?_
        have hcz32_0 : w31.cell? ⟨gb193, 0, none⟩ = some (.int .i64 0) := (zc1 BK193.out 0).trans rfl
        have hcz32_1 : w31.cell? ⟨gb193, 1, none⟩ = some (.int .i64 0) := (zc1 BK193.out 1).trans rfl
        have hcz32_2 : w31.cell? ⟨gb193, 2, none⟩ = some (.int .i64 0) := (zc1 BK193.out 2).trans rfl
        have hcz32_3 : w31.cell? ⟨gb193, 3, none⟩ = some (.slice none 0 0) := (zc1 BK193.out 3).trans rfl
        have hfz32_0 := zc5 BK193.out 0
        have hfz32_1 := zc5 BK193.out 1
        have hfz32_2 := zc5 BK193.out 2
        have hfz32_3 := zc5 BK193.out 3
        try go_wp2
        refine bodyPost_ret (results_ct rfl _ _ gb193 26 #[.int .i64 0, .int .i64 0, .int .i64 0, .slice none 0 0] (0, 0) _ rfl (by (with_reducible repeat (first | refine zc3 ?_ _ | refine zc4 ?_ | refine zc2 ?_ _)); refine blk_put (cs := #[.int .i64 0, .int .i64 0, .int .i64 0, .slice none 0 0]) ?_ 3 _ rfl; (with_reducible repeat (first | refine zc3 ?_ _ | refine zc4 ?_ | refine zc2 ?_ _)); refine blk_put (cs := #[.int .i64 0, .int .i64 0, .int .i64 0, .slice none 0 0]) ?_ 2 _ rfl; (with_reducible repeat (first | refine zc3 ?_ _ | refine zc4 ?_ | refine zc2 ?_ _)); refine blk_put (cs := #[.int .i64 0, .int .i64 0, .int .i64 0, .slice none 0 0]) ?_ 1 _ rfl; (with_reducible repeat (first | refine zc3 ?_ _ | refine zc4 ?_ | refine zc2 ?_ _)); refine blk_put (cs := #[.int .i64 0, .int .i64 0, .int .i64 0, .slice none 0 0]) ?_ 0 _ rfl; (with_reducible repeat (first | refine zc3 ?_ _ | refine zc4 ?_ | refine zc2 ?_ _)); exact BK193.out) Tryd.underlying26 rfl (by kernel_rfl)) rfl ?_
        exact ⟨_, by first | rfl | (simp [*] <;> rfl), by first | exact Kd.R_nil _ _ _ _ _ | exact Kd.N_nil _ _ _ _ _ | exact Kd.V_nil _ _ _ _ _ | exact Kd.Q_nil _ _ _ _ _ | exact Kd.S_nil _ _ _ _ _, by repeat (first | (with_reducible first | exact HB.out | apply zb3 | apply zb1 | apply zb2 | refine zb4 ?_ GE193.out | refine zb4 ?_ GE198.out) | exact HB.out)⟩
       ·rw [if_neg c23] at H
        have c23b0 : decide ((wrap64 (t209 * (wrap64 (4 + t205)))) < (wrap64 ((t194.length : Int) - t206))) = false := zd2 c23
        clear c23
        have H' := zA H
        clear H
        go_enter Tryd.func27, Tryd.ntmps27
        try go_wp2_with (first | ((with_reducible refine gate_dst (N := 2) rfl ?_); refine box_event ?hg (N := 2) ?hd (cs := #[.int .i64 0, .int .i64 0, .int .i64 0, .slice none 0 0]) (t := 26) ?hr ?_; (case hd => rfl); (case hg => rfl); (case hr => first | (go_simp; done) | (go_simp; rfl)); intro gb193 hg w33 hbox hb; have n0_ := zA (zb5 (by repeat (first | (with_reducible first | exact HB.out | apply zb3 | apply zb1 | apply zb2) | exact HB.out)) hb); have n1_ := zA (hbox); have n2_ := zA ((by rw [hg]; exact (zb6 (by repeat (first | (with_reducible first | exact HB.out | apply zb3 | apply zb1 | apply zb2) | exact HB.out))) : w.heap.size ≤ gb193)); have n3_ := zA ((by rw [hg]; exact (zb6 (by repeat (first | (with_reducible first | exact HB.out | apply zb3 | apply zb1 | apply zb2) | exact HB.out))) : w.heap.size ≤ gb193)); clear HB; have HB := n0_; have BK193 := n1_; have GW193 := n2_; have GE193 := n3_; clear n0_ n1_ n2_ n3_; clear hb hbox hg) | ((with_reducible refine gate_callee (f := 25) rfl ?_); refine goesL_ (some 17) rfl rfl Tryd.func25 (by kernel_rfl) rfl #[.slice A0 l0.length c0] rfl (by (try simp only [zm1, zm2, zm3]); first | done | rfl | (simp only [List.length_drop, List.length_take]; rfl) | (simp only [Int.emod_add_emod, Int.add_emod_emod]; rfl)) ?_; (with_reducible refine (crc_Open.calls _ _ l0 t194 t195 _ ?side1 ?side2 A2.out ?sideG).mono ?_); (case sideG => first | exact hG.below (by repeat (first | (with_reducible first | exact HB.out | apply zb3 | apply zb1 | apply zb2 | refine zb4 ?_ GE193.out | refine zb4 ?_ GE198.out | refine zb4 ?_ GE210.out) | exact HB.out | exact Below.refl _ _)) | exact hG); (case side1 => repeat (first | exact (Kd.C_below HR0.out HB.out) | (with_reducible refine Kd.C_alloc ?_ _) | (with_reducible refine Kd.C_drewN ?_ _) | (with_reducible refine Kd.C_drew ?_))); (case side2 => exact HC0.out); rintro e w34 ⟨v196, rfl, ho0, hb⟩; refine ⟨_, rfl, ?_⟩; have n0_ := zA (Kd.R_lower ho0 (zb6 (by repeat (first | (with_reducible first | exact HB.out | apply zb3 | apply zb1 | apply zb2 | refine zb4 ?_ GE193.out) | exact HB.out)))); have n1_ := zA (zc6 (g := gb193) (o := .cells #[.int .i64 0, .int .i64 0, .int .i64 0, .slice none 0 0] 26 (0, 0)) (by (with_reducible repeat (first | refine zc3 ?_ _ | refine zc4 ?_ | refine zc2 ?_ _)); exact BK193.out) hb); have n2_ := zA (zb5 (by repeat (first | (with_reducible first | exact HB.out | apply zb3 | apply zb1 | apply zb2 | refine zb4 ?_ GE193.out) | exact HB.out)) hb); clear BK193; clear HB; have HO197 := n0_; have BK193 := n1_; have HB := n2_; clear n0_ n1_ n2_; (try clear hb); (try clear hb2); (try clear hk); (try clear hi); (try clear ho0)) | ((with_reducible refine gate_dst (N := 5) rfl ?_); refine box_event ?hg (N := 5) ?hd (cs := #[.int .i64 0, .int .i64 0, .int .i64 0, .slice none 0 0]) (t := 26) ?hr ?_; (case hd => rfl); (case hg => rfl); (case hr => first | (go_simp; done) | (go_simp; rfl)); intro gb198 hg wq_ hbox hb; have n0_ := zA (Kd.R_below (by (with_reducible repeat (first | apply Kd.R_alloc | apply Kd.R_drewN | apply Kd.R_drew)); exact HO197.out) hb); have n1_ := zA (zc6 (g := gb193) (o := .cells #[.int .i64 0, .int .i64 0, .int .i64 0, .slice none 0 0] 26 (0, 0)) (by (with_reducible repeat (first | refine zc3 ?_ _ | refine zc4 ?_ | refine zc2 ?_ _)); exact BK193.out) hb); have n2_ := zA (zb5 (by repeat (first | (with_reducible first | exact HB.out | apply zb3 | apply zb1 | apply zb2 | refine zb4 ?_ GE193.out) | exact HB.out)) hb); have n3_ := zA (hbox); have n4_ := zA ((by rw [hg]; exact (zb6 (by repeat (first | (with_reducible first | exact HB.out | apply zb3 | apply zb1 | apply zb2 | refine zb4 ?_ GE193.out) | exact HB.out))) : w.heap.size ≤ gb198)); have n5_ := zA ((by rw [hg]; exact (zb6 (by repeat (first | (with_reducible first | exact HB.out | apply zb3 | apply zb1 | apply zb2 | refine zb4 ?_ GE193.out) | exact HB.out))) : w.heap.size ≤ gb198)); have n6_ := zA ((by rw [hg]; exact Nat.ne_of_lt (blk_lt (g := gb193) (o := .cells #[.int .i64 0, .int .i64 0, .int .i64 0, .slice none 0 0] 26 (0, 0)) (by (with_reducible repeat (first | refine zc3 ?_ _ | refine zc4 ?_ | refine zc2 ?_ _)); exact BK193.out)) : gb193 ≠ gb198)); have n7_ := zA ((by rw [hg]; exact Nat.ne_of_gt (blk_lt (g := gb193) (o := .cells #[.int .i64 0, .int .i64 0, .int .i64 0, .slice none 0 0] 26 (0, 0)) (by (with_reducible repeat (first | refine zc3 ?_ _ | refine zc4 ?_ | refine zc2 ?_ _)); exact BK193.out)) : gb198 ≠ gb193)); clear HO197; clear BK193; clear HB; have HO197 := n0_; have BK193 := n1_; have HB := n2_; have BK198 := n3_; have GW198 := n4_; have GE198 := n5_; have NB193_198 := n6_; have NB198_193 := n7_; clear n0_ n1_ n2_ n3_ n4_ n5_ n6_ n7_; clear hb hbox hg; obtain ⟨Ao36, co36, eo36⟩ := Kd.R_slice HO197.out; subst eo36) | ((with_reducible refine gate_dst (N := 27) rfl ?_); refine row_event ?hg (N := 27) ?hd (cs := #[.pointer (some ⟨gb198, 0, none⟩), .pointer (some ⟨gb198, 1, none⟩), .pointer (some ⟨gb198, 2, none⟩)]) (t := 72) (n := 3) ?hr ?_; (case hd => rfl); (case hg => rfl); (case hr => first | (go_simp; done) | (go_simp; rfl)); intro gp_ hgp_ w35 hbp_ hbp2_; have n0_ := zA (Kd.R_below HO197.out hbp2_); have n1_ := zA (zc6 BK193.out hbp2_); have n2_ := zA (zc6 BK198.out hbp2_); have n3_ := zA (zb5 HB.out hbp2_); have hgn_ : gp_ ≠ gb198 := (by rw [hgp_]; exact Nat.ne_of_gt (blk_lt BK198.out)); have hgm_ : gb198 ≠ gp_ := hgn_.symm; have hbp0_ := zA hbp_; clear HO197 BK193 BK198 HB; have HO197 := n0_; have BK193 := n1_; have BK198 := n2_; have HB := n3_; clear n0_ n1_ n2_ n3_ hbp_ hbp2_ hgp_; have hp0_ : w35.cell? ⟨gp_, 0, none⟩ = some (.pointer (some ⟨gb198, 0, none⟩)) := (zc1 hbp0_.out 0).trans rfl; have hp1_ : w35.cell? ⟨gp_, 1, none⟩ = some (.pointer (some ⟨gb198, 1, none⟩)) := (zc1 hbp0_.out 1).trans rfl; have hp2_ : w35.cell? ⟨gp_, 2, none⟩ = some (.pointer (some ⟨gb198, 2, none⟩)) := (zc1 hbp0_.out 2).trans rfl))
        refine wp_loop_rounds 4 ?_
        rw [rounds_succ]
        try go_wp2_with (first | ((with_reducible refine gate_callee (f := 26) rfl ?_); refine goesL_ (some 37) rfl rfl Tryd.func26 (by kernel_rfl) rfl #[.slice Ao36 t194.length co36, .int .i64 0] rfl (by (try simp only [zm1, zm2, zm3]); first | done | rfl | (simp only [List.length_drop, List.length_take]; rfl) | (simp only [Int.emod_add_emod, Int.add_emod_emod]; rfl)) ?_; (with_reducible refine (num_Get.calls k _ _ t194 0 t199 t200 t201 _ ?side1 ?side2 A4.out).mono ?_); (case side1 => repeat (first | exact (Kd.R_reads' HO197.out).2.2 | (with_reducible refine Kd.C_alloc ?_ _) | (with_reducible refine Kd.C_drewN ?_ _) | (with_reducible refine Kd.C_drew ?_))); (case side2 => exact (Kd.R_reads' HO197.out).2.1); rintro e w' ⟨rfl, ⟨nd, rfl⟩⟩; refine ⟨_, rfl, ?_⟩; (try (rw [drewN_self w35]; generalize hq_ : World.drewN w35 _ = w35; have n0_ : Aside0 (Kd.R (Kd.int .u8) 5 w35 w.heap.size (fun _ => True) (.slice Ao36 t194.length co36) t194) := ⟨by rw [← hq_]; exact (by (with_reducible repeat (first | apply Kd.R_alloc | apply Kd.R_drewN | apply Kd.R_drew)); exact HO197.out)⟩; have n1_ : Aside0 (w35.heap[gb193]? = some (.cells #[.int .i64 0, .int .i64 0, .int .i64 0, .slice none 0 0] 26 (0, 0))) := ⟨by rw [← hq_]; exact (by (with_reducible repeat (first | refine zc3 ?_ _ | refine zc4 ?_ | refine zc2 ?_ _)); exact BK193.out)⟩; have n2_ : Aside0 (w35.heap[gb198]? = some (.cells #[.int .i64 0, .int .i64 0, .int .i64 0, .slice none 0 0] 26 (0, 0))) := ⟨by rw [← hq_]; exact (by (with_reducible repeat (first | refine zc3 ?_ _ | refine zc4 ?_ | refine zc2 ?_ _)); exact BK198.out)⟩; have n3_ : Aside0 (Below w.heap.size w w35) := ⟨by rw [← hq_]; exact (by repeat (first | (with_reducible first | exact HB.out | apply zb3 | apply zb1 | apply zb2 | refine zb4 ?_ GE193.out | refine zb4 ?_ GE198.out) | exact HB.out))⟩; have n9_ : Aside0 (w35.heap[gp_]? = some (.cells #[.pointer (some ⟨gb198, 0, none⟩), .pointer (some ⟨gb198, 1, none⟩), .pointer (some ⟨gb198, 2, none⟩)] 72 (0, 0))) := ⟨by rw [← hq_]; exact (by (with_reducible repeat (first | refine zc3 ?_ _ | refine zc4 ?_ | refine zc2 ?_ _)); exact hbp0_.out)⟩; clear hbp0_; clear HO197 BK193 BK198 HB hq_; have hbp0_ := n9_; clear n9_; have HO197 := n0_; have BK193 := n1_; have BK198 := n2_; have HB := n3_; clear n0_ n1_ n2_ n3_)); have hnb37 := NB198_193.out; have hnc37 := NB193_198.out; have hcz38_0 : w35.cell? ⟨gb198, 0, none⟩ = some (.int .i64 0) := (zc1 BK198.out 0).trans rfl; have hcz38_1 : w35.cell? ⟨gb198, 1, none⟩ = some (.int .i64 0) := (zc1 BK198.out 1).trans rfl; have hcz38_2 : w35.cell? ⟨gb198, 2, none⟩ = some (.int .i64 0) := (zc1 BK198.out 2).trans rfl; have hcz38_3 : w35.cell? ⟨gb198, 3, none⟩ = some (.slice none 0 0) := (zc1 BK198.out 3).trans rfl; have hfz38_0 := zc5 BK198.out 0; have hfz38_1 := zc5 BK198.out 1; have hfz38_2 := zc5 BK198.out 2; have hfz38_3 := zc5 BK198.out 3; (try (have hp0_ : w35.cell? ⟨gp_, 0, none⟩ = some (.pointer (some ⟨gb198, 0, none⟩)) := (zc1 hbp0_.out 0).trans rfl; have hp1_ : w35.cell? ⟨gp_, 1, none⟩ = some (.pointer (some ⟨gb198, 1, none⟩)) := (zc1 hbp0_.out 1).trans rfl; have hp2_ : w35.cell? ⟨gp_, 2, none⟩ = some (.pointer (some ⟨gb198, 2, none⟩)) := (zc1 hbp0_.out 2).trans rfl))))
        (try rw [show wrap64 (0 + 1) = 1 by unfold wrap64; omega])
        rw [rounds_succ]
        try go_wp2_with (first | ((with_reducible refine gate_callee (f := 26) rfl ?_); refine goesL_ (some 37) rfl rfl Tryd.func26 (by kernel_rfl) rfl #[.slice Ao36 t194.length co36, .int .i64 t200] rfl (by (try simp only [zm1, zm2, zm3]); first | done | rfl | (simp only [List.length_drop, List.length_take]; rfl) | (simp only [Int.emod_add_emod, Int.add_emod_emod]; rfl)) ?_; (with_reducible refine (num_Get.calls k _ _ t194 t200 t202 t203 t204 _ ?side1 ?side2 A6.out).mono ?_); (case side1 => refine (Kd.R_reads' (e := 5) (base := w.heap.size) (ok := fun k_ => True) (n := t194.length) (c := co36) ?_).2.2; exact (by (with_reducible repeat (first | apply Kd.R_alloc | apply Kd.R_drewN | apply Kd.R_drew)); exact (Kd.R_mono (Kd.R_far (p := ⟨gb198, 0, none⟩) (Kd.R_types HO197.out BK198.out (by decide)) (fun _ hk => hk.2) (.int .i64 t199)) (fun _ h_ => h_.1)))); (case side2 => exact (Kd.R_reads' HO197.out).2.1); rintro e w' ⟨rfl, ⟨nd, rfl⟩⟩; refine ⟨_, rfl, ?_⟩))
        (try rw [show wrap64 (1 + 1) = 2 by unfold wrap64; omega])
        rw [rounds_succ]
        try go_wp2_with (first | ((with_reducible refine gate_callee (f := 26) rfl ?_); refine goesL_ (some 37) rfl rfl Tryd.func26 (by kernel_rfl) rfl #[.slice Ao36 t194.length co36, .int .i64 t203] rfl (by (try simp only [zm1, zm2, zm3]); first | done | rfl | (simp only [List.length_drop, List.length_take]; rfl) | (simp only [Int.emod_add_emod, Int.add_emod_emod]; rfl)) ?_; (with_reducible refine (num_Get.calls k _ _ t194 t203 t205 t206 t207 _ ?side1 ?side2 A8.out).mono ?_); (case side1 => refine (Kd.R_reads' (e := 5) (base := w.heap.size) (ok := fun k_ => True) (n := t194.length) (c := co36) ?_).2.2; exact (by (with_reducible repeat (first | apply Kd.R_alloc | apply Kd.R_drewN | apply Kd.R_drew)); exact (Kd.R_mono (Kd.R_far (p := ⟨gb198, 1, none⟩) (Kd.R_far (p := ⟨gb198, 0, none⟩) (Kd.R_types HO197.out BK198.out (by decide)) (fun _ hk => hk.2) (.int .i64 t199)) (fun _ hk => hk.2) (.int .i64 t202)) (fun _ h_ => h_.1)))); (case side2 => exact (Kd.R_reads' HO197.out).2.1); rintro e w' ⟨rfl, ⟨nd, rfl⟩⟩; refine ⟨_, rfl, ?_⟩))
        (try rw [show wrap64 (2 + 1) = 3 by unfold wrap64; omega])
        rw [rounds_succ]
        try go_wp2_with (first | ((with_reducible refine gate_callee (f := 44) rfl ?_); refine goesL_ (some 48) rfl rfl Tryd.func44 (by kernel_rfl) rfl #[.agg #[.int .i64 t199, .int .i64 t202, .int .i64 t205, .slice none 0 0]] rfl (by (try simp only [zm1, zm2, zm3]); first | done | rfl | (simp only [List.length_drop, List.length_take]; rfl) | (simp only [Int.emod_add_emod, Int.add_emod_emod]; rfl)) ?_; (refine (sig_front.calls t199 t202 t205 _ _ ([] : List (S44)) t208 _ ?side1 ?side2 A10.out).mono ?_); (case side1 => exact Kd.C_nil _ _); (case side2 => exact Nat.le_refl _); rintro e w39 ⟨rfl, hb⟩; refine ⟨_, rfl, ?_⟩; have n0_ := zA (Kd.R_below (by (with_reducible repeat (first | apply Kd.R_alloc | apply Kd.R_drewN | apply Kd.R_drew)); exact (Kd.R_mono (Kd.R_far (p := ⟨gb198, 2, none⟩) (Kd.R_far (p := ⟨gb198, 1, none⟩) (Kd.R_far (p := ⟨gb198, 0, none⟩) (Kd.R_types HO197.out BK198.out (by decide)) (fun _ hk => hk.2) (.int .i64 t199)) (fun _ hk => hk.2) (.int .i64 t202)) (fun _ hk => hk.2) (.int .i64 t205)) (fun _ h_ => h_.1))) hb); have n1_ := zA (zc6 (g := gb193) (o := .cells #[.int .i64 0, .int .i64 0, .int .i64 0, .slice none 0 0] 26 (0, 0)) (by (with_reducible repeat (first | refine zc3 ?_ _ | refine zc4 ?_ | refine zc2 ?_ _)); refine zc7 ?_ NB193_198.out _; (with_reducible repeat (first | refine zc3 ?_ _ | refine zc4 ?_ | refine zc2 ?_ _)); refine zc7 ?_ NB193_198.out _; (with_reducible repeat (first | refine zc3 ?_ _ | refine zc4 ?_ | refine zc2 ?_ _)); refine zc7 ?_ NB193_198.out _; (with_reducible repeat (first | refine zc3 ?_ _ | refine zc4 ?_ | refine zc2 ?_ _)); exact BK193.out) hb); have n2_ := zA (zc6 (g := gb198) (o := .cells #[.int .i64 t199, .int .i64 t202, .int .i64 t205, .slice none 0 0] 26 (0, 0)) (by (with_reducible repeat (first | refine zc3 ?_ _ | refine zc4 ?_ | refine zc2 ?_ _)); refine blk_put (cs := #[.int .i64 t199, .int .i64 t202, .int .i64 0, .slice none 0 0]) ?_ 2 _ rfl; (with_reducible repeat (first | refine zc3 ?_ _ | refine zc4 ?_ | refine zc2 ?_ _)); refine blk_put (cs := #[.int .i64 t199, .int .i64 0, .int .i64 0, .slice none 0 0]) ?_ 1 _ rfl; (with_reducible repeat (first | refine zc3 ?_ _ | refine zc4 ?_ | refine zc2 ?_ _)); refine blk_put (cs := #[.int .i64 0, .int .i64 0, .int .i64 0, .slice none 0 0]) ?_ 0 _ rfl; (with_reducible repeat (first | refine zc3 ?_ _ | refine zc4 ?_ | refine zc2 ?_ _)); exact BK198.out) hb); have n3_ := zA (zb5 (by repeat (first | (with_reducible first | exact HB.out | apply zb3 | apply zb1 | apply zb2 | refine zb4 ?_ GE193.out | refine zb4 ?_ GE198.out) | exact HB.out)) hb); clear HO197; clear BK193; clear BK198; clear HB; have HO197 := n0_; have BK193 := n1_; have BK198 := n2_; have HB := n3_; clear n0_ n1_ n2_ n3_; (try clear hb); (try clear hb2); (try clear hk); (try clear hi)))
        have n0_ := zA (Kd.R_drew HO197.out)
        have n1_ := zA (zc4 BK193.out)
        have n2_ := zA (zc4 BK198.out)
        have n3_ := zA (zb2 HB.out)
        clear HO197
        clear BK193
        clear BK198
        clear HB
        have HO197 := n0_
        have BK193 := n1_
        have BK198 := n2_
        have HB := n3_
        clear n0_ n1_ n2_ n3_
        refine start_ (n := 10) (S := fun w' => w'.cell? ⟨gb198, 0, none⟩ = some (.int .i64 t199) ∧ w'.cell? ⟨gb198, 1, none⟩ = some (.int .i64 t202) ∧ w'.cell? ⟨gb198, 2, none⟩ = some (.int .i64 t205) ∧ w'.cell? ⟨gb198, 3, none⟩ = some (.slice none 0 0)) (ds := []) #[false, false, false, false, false, false, false, false, false, false] (by kernel_rfl) rfl rfl ⟨(zc1 BK198.out 0).trans rfl, (zc1 BK198.out 1).trans rfl, (zc1 BK198.out 2).trans rfl, (zc1 BK198.out 3).trans rfl⟩ (fun hHeld => ?_); refine with_tabW sig_Read.tab16 sig_Read.bits16 (fun HT_ HW_ => ?_)
        generalize w39.drew = w40 at HO197 BK193 BK198 HB hHeld ⊢
        refine pure_ (i := 0) (N := some 53) (v := ?_) (a' := ?_) #[true, false, false, false, false, false, false, false, false, false] rfl rfl (any_of HT_.out (by kernel_rfl)) (fun _ _ _ h => h) (Or.inl ⟨by rfl, ?_⟩) ?_ ?_
        rotate_left
        ·intro w'
         go_simp
         with_reducible rfl
        rotate_left
        ·simp only [Act.put, zs1, zs2, zs3, i64_w, i32_w]
         rfl
        refine pure_ (i := 2) (N := some 55) (v := ?_) (a' := ?_) #[true, false, true, false, false, false, false, false, false, false] rfl rfl (any_of HT_.out (by kernel_rfl)) (fun _ _ _ h => h) (Or.inl ⟨by rfl, ?_⟩) ?_ ?_
        rotate_left
        ·intro w'
         go_simp
         with_reducible rfl
        rotate_left
        ·simp only [Act.put, zs1, zs2, zs3, i64_w, i32_w]
         rfl
        refine pure_ (i := 5) (N := some 58) (v := ?_) (a' := ?_) #[true, false, true, false, false, true, false, false, false, false] rfl rfl (any_of HT_.out (by kernel_rfl)) (fun _ _ _ h => h) (Or.inl ⟨by rfl, ?_⟩) ?_ ?_
        rotate_left
        ·intro w'
         go_simp
         with_reducible rfl
        rotate_left
        ·simp only [Act.put, zs1, zs2, zs3, i64_w, i32_w]
         rfl
        refine take_ (i := 1) (N := some 54) (v := ?_) (a' := ?_) #[true, true, true, false, false, true, false, false, false, false] rfl rfl (take_ofW HT_.out HW_.out (by kernel_rfl)) (fun _ _ _ h => h) (Or.inl ⟨by rfl, ?_⟩) hHeld ?_ ?_
        rotate_left
        ·rintro w' ⟨s0, s1, s2, s3⟩
         go_simp
         with_reducible rfl
        rotate_left
        ·simp only [Act.put, zs1, zs2, zs3, i64_w, i32_w]
         rfl
        refine take_ (i := 3) (N := some 56) (v := ?_) (a' := ?_) #[true, true, true, true, false, true, false, false, false, false] rfl rfl (take_ofW HT_.out HW_.out (by kernel_rfl)) (fun _ _ _ h => h) (Or.inl ⟨by rfl, ?_⟩) hHeld ?_ ?_
        rotate_left
        ·rintro w' ⟨s0, s1, s2, s3⟩
         go_simp
         with_reducible rfl
        rotate_left
        ·simp only [Act.put, zs1, zs2, zs3, i64_w, i32_w]
         rfl
        refine take_ (i := 6) (N := some 59) (v := ?_) (a' := ?_) #[true, true, true, true, false, true, true, false, false, false] rfl rfl (take_ofW HT_.out HW_.out (by kernel_rfl)) (fun _ _ _ h => h) (Or.inl ⟨by rfl, ?_⟩) hHeld ?_ ?_
        rotate_left
        ·rintro w' ⟨s0, s1, s2, s3⟩
         go_simp
         with_reducible rfl
        rotate_left
        ·simp only [Act.put, zs1, zs2, zs3, i64_w, i32_w]
         rfl
        refine pure_ (i := 7) (N := some 60) (v := ?_) (a' := ?_) #[true, true, true, true, false, true, true, true, false, false] rfl rfl (any_of HT_.out (by kernel_rfl)) (fun _ _ _ h => h) (Or.inl ⟨by rfl, ?_⟩) ?_ ?_
        rotate_left
        ·intro w'
         go_simp
         with_reducible rfl
        rotate_left
        ·simp only [Act.put, zs1, zs2, zs3, i64_w, i32_w]
         rfl
        refine one_ (i := 4) (N := some 57) #[true, true, true, true, true, true, true, true, false, false] rfl rfl (one_of HT_.out (by kernel_rfl)) (by decide) (fun K hK => ?_)
        refine goes_ Tryd.func45 (by kernel_rfl) rfl #[.int .i64 t199, .int .i64 t202] (by rfl) rfl rfl (by (try simp only [zm1, zm2, zm3]); first | done | rfl | (simp only [List.length_drop, List.length_take]; rfl) | (simp only [Int.emod_add_emod, Int.add_emod_emod]; rfl)) ?_
        with_reducible refine (blocks_Count.calls t199 t202 t209 _ A12.out).mono ?_
        rintro e w' ⟨rfl, ⟨nd, rfl⟩⟩
        refine ⟨_, rfl, ?_⟩
        refine hK.out _ _ ⟨(zc1 BK198.out 0).trans rfl, (zc1 BK198.out 1).trans rfl, (zc1 BK198.out 2).trans rfl, (zc1 BK198.out 3).trans rfl⟩ (fun hHeld => ?_)
        clear hK K
        refine norm_ (a' := ?_) ?_ ?_
        rotate_left
        ·show Act.put _ (some 57) _ = _
         simp only [Act.put, zs1, zs2, zs3, i64_w, i32_w]
         rfl
        refine pure_ (i := 8) (N := some 10) (v := ?_) (a' := ?_) #[true, true, true, true, true, true, true, true, true, false] rfl rfl (any_of HT_.out (by kernel_rfl)) (fun _ _ _ h => h) (Or.inl ⟨by rfl, ?_⟩) ?_ ?_
        rotate_left
        ·intro w'
         go_simp
         with_reducible rfl
        rotate_left
        ·simp only [Act.put, zs1, zs2, zs3, i64_w, i32_w]
         rfl
        refine pure_ (i := 9) (N := some 11) (v := ?_) (a' := ?_) #[true, true, true, true, true, true, true, true, true, true] rfl rfl (any_of HT_.out (by kernel_rfl)) (fun _ _ _ h => h) (Or.inl ⟨by rfl, ?_⟩) ?_ ?_
        rotate_left
        ·intro w'
         go_simp
         with_reducible rfl
        rotate_left
        ·simp only [Act.put, zs1, zs2, zs3, i64_w, i32_w]
         rfl
        refine done_ (done_of HT_.out (by kernel_rfl)) ?_
        try go_wp2
        go_loopg [6] k (fun kq v6 w' => ∃ (x6_1 : Int) (x199003_1 : List (S44)) (u199003 : Value), v6 = .int .i64 x6_1 ∧ Aside0 (sig_Read.l0 kq t194 x6_1 (wrap64 (4 + t205)) t199 t202 t205 x199003_1 = some (r1, r2, r3, r4, r5)) ∧ Aside0 (kq ≤ k) ∧ Aside0 (Kd.R (Kd.int .u8) 5 w' w.heap.size (fun _ => True) (.slice Ao36 t194.length co36) t194) ∧ Aside0 (Kd.R k44 44 w' w.heap.size (fun _ => True) u199003 x199003_1) ∧ Aside0 (w'.heap[gb193]? = some (.cells #[.int .i64 0, .int .i64 0, .int .i64 0, (.slice none 0 0)] 26 (0, 0))) ∧ Aside0 (w'.heap[gb198]? = some (.cells #[.int .i64 t199, .int .i64 t202, .int .i64 t205, u199003] 26 (0, 0))) ∧ Aside0 (Below w.heap.size w w'))
        case atStart => exact ⟨(t206), (([] : List (S44))), (.slice none 0 0), (by first | rfl | (simp; done) | (simp [*]; done)), H', ⟨Nat.le_refl _⟩, ⟨by (with_reducible repeat (first | apply Kd.R_alloc | apply Kd.R_drewN | apply Kd.R_drew)); exact HO197.out⟩, ⟨by first | exact Kd.R_nil _ _ _ _ _ | exact Kd.N_nil _ _ _ _ _ | exact Kd.V_nil _ _ _ _ _ | exact Kd.Q_nil _ _ _ _ _ | exact Kd.S_nil _ _ _ _ _⟩, ⟨by (with_reducible repeat (first | refine zc3 ?_ _ | refine zc4 ?_ | refine zc2 ?_ _)); exact BK193.out⟩, ⟨by (with_reducible repeat (first | refine zc3 ?_ _ | refine zc4 ?_ | refine zc2 ?_ _)); exact BK198.out⟩, ⟨by repeat (first | (with_reducible first | exact HB.out | apply zb3 | apply zb1 | apply zb2 | refine zb4 ?_ GE193.out | refine zb4 ?_ GE198.out) | exact HB.out)⟩⟩
        case round =>
         clear H'
         try clear c1
         try clear c2
         try clear p2
         try clear c3
         try clear c3b0
         try clear c3b1
         try clear c4
         try clear c5
         try clear c5b0
         try clear c5b1
         try clear p6
         try clear c7
         try clear c7b0
         try clear c7b1
         try clear c9
         try clear c9b0
         try clear c9b1
         try clear c11
         try clear c11b0
         try clear c11b1
         try clear c13
         try clear c13b0
         try clear c18
         try clear c23
         try clear c23b0
         try clear c25
         try clear c26
         try clear c27
         try clear c28
         try clear c37
         try clear hcz19_0
         try clear hcz19_1
         try clear hcz19_2
         try clear hcz19_3
         try clear hcz22_0
         try clear hcz22_1
         try clear hcz22_2
         try clear hcz22_3
         try clear hcz29_0
         try clear hcz29_1
         try clear hcz29_2
         try clear hcz29_3
         try clear hcz32_0
         try clear hcz32_1
         try clear hcz32_2
         try clear hcz32_3
         try clear hcz38_0
         try clear hcz38_1
         try clear hcz38_2
         try clear hcz38_3
         try clear hfz19_0
         try clear hfz19_1
         try clear hfz19_2
         try clear hfz19_3
         try clear hfz22_0
         try clear hfz22_1
         try clear hfz22_2
         try clear hfz22_3
         try clear hfz29_0
         try clear hfz29_1
         try clear hfz29_2
         try clear hfz29_3
         try clear hfz32_0
         try clear hfz32_1
         try clear hfz32_2
         try clear hfz32_3
         try clear hfz38_0
         try clear hfz38_1
         try clear hfz38_2
         try clear hfz38_3
         obtain ⟨x6_1, x199003_1, u199003, rfl, HA, HK1, HO_0, HO_199003, BK193, BK198, HB⟩ := hrel
         cases gk with
         | zero => exact absurd HA.out (by simp [sig_Read.l0])
         | succ k1 =>
          have H := HA.out
          clear HA
          simp only [sig_Read.l0] at H
          by_cases c41 : x6_1 < (t194.length : Int)
          ·rw [if_pos c41] at H
           have c41b0 : decide (x6_1 < (t194.length : Int)) = true := zd1 c41
           clear c41
           have H' := zA H
           clear H
           go_wp2_with (first | ((with_reducible refine gate_dst (N := 13) rfl ?_); refine box_event ?hg (N := 13) ?hd (cs := #[.int .u32 0, .string (⟨#[]⟩ : ByteArray)]) (t := 44) ?hr ?_; (case hd => rfl); (case hg => rfl); (case hr => first | (go_simp; done) | (go_simp; rfl)); intro gb210 hg w42 hbox hb; have n0_ := zA (Kd.R_below (by (with_reducible repeat (first | apply Kd.R_alloc | apply Kd.R_drewN | apply Kd.R_drew)); exact HO_0.out) hb); have n1_ := zA (Kd.R_below (Kd.R_elderB (by (with_reducible repeat (first | apply Kd.R_alloc | apply Kd.R_drewN | apply Kd.R_drew)); exact HO_199003.out) gb210 (Nat.le_of_eq hg.symm)) hb); have n2_ := zA (zc6 (g := gb193) (o := .cells #[.int .i64 0, .int .i64 0, .int .i64 0, .slice none 0 0] 26 (0, 0)) (by (with_reducible repeat (first | refine zc3 ?_ _ | refine zc4 ?_ | refine zc2 ?_ _)); exact BK193.out) hb); have n3_ := zA (zc6 (g := gb198) (o := .cells #[.int .i64 t199, .int .i64 t202, .int .i64 t205, u199003] 26 (0, 0)) (by (with_reducible repeat (first | refine zc3 ?_ _ | refine zc4 ?_ | refine zc2 ?_ _)); exact BK198.out) hb); have n4_ := zA (zb5 (by repeat (first | (with_reducible first | exact HB.out | apply zb3 | apply zb1 | apply zb2 | refine zb4 ?_ GE193.out | refine zb4 ?_ GE198.out) | exact HB.out)) hb); have n5_ := zA (hbox); have n6_ := zA ((by rw [hg]; exact (zb6 (by repeat (first | (with_reducible first | exact HB.out | apply zb3 | apply zb1 | apply zb2 | refine zb4 ?_ GE193.out | refine zb4 ?_ GE198.out) | exact HB.out))) : w.heap.size ≤ gb210)); have n7_ := zA ((by rw [hg]; exact (zb6 (by repeat (first | (with_reducible first | exact HB.out | apply zb3 | apply zb1 | apply zb2 | refine zb4 ?_ GE193.out | refine zb4 ?_ GE198.out) | exact HB.out))) : w.heap.size ≤ gb210)); have n8_ := zA ((by rw [hg]; exact Nat.ne_of_lt (blk_lt (g := gb193) (o := .cells #[.int .i64 0, .int .i64 0, .int .i64 0, .slice none 0 0] 26 (0, 0)) (by (with_reducible repeat (first | refine zc3 ?_ _ | refine zc4 ?_ | refine zc2 ?_ _)); exact BK193.out)) : gb193 ≠ gb210)); have n9_ := zA ((by rw [hg]; exact Nat.ne_of_gt (blk_lt (g := gb193) (o := .cells #[.int .i64 0, .int .i64 0, .int .i64 0, .slice none 0 0] 26 (0, 0)) (by (with_reducible repeat (first | refine zc3 ?_ _ | refine zc4 ?_ | refine zc2 ?_ _)); exact BK193.out)) : gb210 ≠ gb193)); have n10_ := zA ((by rw [hg]; exact Nat.ne_of_lt (blk_lt (g := gb198) (o := .cells #[.int .i64 t199, .int .i64 t202, .int .i64 t205, u199003] 26 (0, 0)) (by (with_reducible repeat (first | refine zc3 ?_ _ | refine zc4 ?_ | refine zc2 ?_ _)); exact BK198.out)) : gb198 ≠ gb210)); have n11_ := zA ((by rw [hg]; exact Nat.ne_of_gt (blk_lt (g := gb198) (o := .cells #[.int .i64 t199, .int .i64 t202, .int .i64 t205, u199003] 26 (0, 0)) (by (with_reducible repeat (first | refine zc3 ?_ _ | refine zc4 ?_ | refine zc2 ?_ _)); exact BK198.out)) : gb210 ≠ gb198)); clear HO_0; clear HO_199003; clear BK193; clear BK198; clear HB; have HO_0 := n0_; have HO_199003 := n1_; have BK193 := n2_; have BK198 := n3_; have HB := n4_; have BK210 := n5_; have GW210 := n6_; have GE210 := n7_; have NB193_210 := n8_; have NB210_193 := n9_; have NB198_210 := n10_; have NB210_198 := n11_; clear n0_ n1_ n2_ n3_ n4_ n5_ n6_ n7_ n8_ n9_ n10_ n11_; clear hb hbox hg))
           go_loopg [86] k1 (fun kq v86 w' => ∃ (x86_2 : Int) (x211000_2 : Int), v86 = .int .i64 x86_2 ∧ Aside0 (sig_Read.l1 kq t194 x6_1 (wrap64 (4 + t205)) x86_2 t199 t202 t205 x199003_1 x211000_2 (⟨#[]⟩ : ByteArray) = some (r1, r2, r3, r4, r5)) ∧ Aside0 (kq ≤ k1) ∧ Aside0 (Kd.R (Kd.int .u8) 5 w' w.heap.size (fun _ => True) (.slice Ao36 t194.length co36) t194) ∧ Aside0 (Kd.R k44 44 w' w.heap.size (fun k_ => k_ ≠ gb210) u199003 x199003_1) ∧ Aside0 (w'.heap[gb193]? = some (.cells #[.int .i64 0, .int .i64 0, .int .i64 0, (.slice none 0 0)] 26 (0, 0))) ∧ Aside0 (w'.heap[gb198]? = some (.cells #[.int .i64 t199, .int .i64 t202, .int .i64 t205, u199003] 26 (0, 0))) ∧ Aside0 (w'.heap[gb210]? = some (.cells #[.int .u32 x211000_2, .string (⟨#[]⟩ : ByteArray)] 44 (0, 0))) ∧ Aside0 (Below w.heap.size w w'))
           case atStart => exact ⟨(0), (0), (by first | rfl | (simp; done) | (simp [*]; done)), H', ⟨Nat.le_refl _⟩, ⟨by (with_reducible repeat (first | apply Kd.R_alloc | apply Kd.R_drewN | apply Kd.R_drew)); exact HO_0.out⟩, ⟨by (with_reducible repeat (first | apply Kd.R_alloc | apply Kd.R_drewN | apply Kd.R_drew)); exact Kd.R_mono HO_199003.out (fun _ hk => hk.2)⟩, ⟨by (with_reducible repeat (first | refine zc3 ?_ _ | refine zc4 ?_ | refine zc2 ?_ _)); exact BK193.out⟩, ⟨by (with_reducible repeat (first | refine zc3 ?_ _ | refine zc4 ?_ | refine zc2 ?_ _)); exact BK198.out⟩, ⟨by (with_reducible repeat (first | refine zc3 ?_ _ | refine zc4 ?_ | refine zc2 ?_ _)); exact BK210.out⟩, ⟨by repeat (first | (with_reducible first | exact HB.out | apply zb3 | apply zb1 | apply zb2 | refine zb4 ?_ GE193.out | refine zb4 ?_ GE198.out | refine zb4 ?_ GE210.out) | exact HB.out)⟩⟩
           case round =>
            clear H'
            try clear c1
            try clear c2
            try clear p2
            try clear c3
            try clear c3b0
            try clear c3b1
            try clear c4
            try clear c5
            try clear c5b0
            try clear c5b1
            try clear p6
            try clear c7
            try clear c7b0
            try clear c7b1
            try clear c9
            try clear c9b0
            try clear c9b1
            try clear c11
            try clear c11b0
            try clear c11b1
            try clear c13
            try clear c13b0
            try clear c18
            try clear c23
            try clear c23b0
            try clear c25
            try clear c26
            try clear c27
            try clear c28
            try clear c37
            try clear c41
            try clear c41b0
            try clear hcz19_0
            try clear hcz19_1
            try clear hcz19_2
            try clear hcz19_3
            try clear hcz22_0
            try clear hcz22_1
            try clear hcz22_2
            try clear hcz22_3
            try clear hcz29_0
            try clear hcz29_1
            try clear hcz29_2
            try clear hcz29_3
            try clear hcz32_0
            try clear hcz32_1
            try clear hcz32_2
            try clear hcz32_3
            try clear hcz38_0
            try clear hcz38_1
            try clear hcz38_2
            try clear hcz38_3
            try clear hfz19_0
            try clear hfz19_1
            try clear hfz19_2
            try clear hfz19_3
            try clear hfz22_0
            try clear hfz22_1
            try clear hfz22_2
            try clear hfz22_3
            try clear hfz29_0
            try clear hfz29_1
            try clear hfz29_2
            try clear hfz29_3
            try clear hfz32_0
            try clear hfz32_1
            try clear hfz32_2
            try clear hfz32_3
            try clear hfz38_0
            try clear hfz38_1
            try clear hfz38_2
            try clear hfz38_3
            try clear p2
            try clear p6
            obtain ⟨x86_2, x211000_2, rfl, HA, HK2, HO_0, HO_199003, BK193, BK198, BK210, HB⟩ := hrel
            cases gk with
            | zero => exact absurd HA.out (by simp [sig_Read.l1])
            | succ k2 =>
             have H := HA.out
             clear HA
             simp only [sig_Read.l1] at H
             by_cases c43 : x86_2 < 4
             ·rw [if_pos c43] at H
              have c43b0 : decide (x86_2 < 4) = true := zd1 c43
              clear c43
              obtain ⟨ji44, hji44⟩ : ∃ j_ : Int, (wrap64 (x6_1 + x86_2)) = j_ := ⟨_, rfl⟩
              replace H : (if 0 ≤ (ji44) then (if (ji44) < (t194.length : Int) then (if 0 ≤ (wrap64 (8 * x86_2)) then (sig_Read.l1 k2 t194 x6_1 (wrap64 (4 + t205)) (wrap64 (x86_2 + 1)) t199 t202 t205 x199003_1 (Go.bits .or .u32 x211000_2 (shl .u32 ((rd t194 (ji44)) % 4294967296) (wrap64 (8 * x86_2)))) (⟨#[]⟩ : ByteArray)) else (none)) else (none)) else (none)) = some (r1, r2, r3, r4, r5) := by first | (rw [hji44] at H; exact H) | (simp only [hji44] at H ⊢; exact H)
              have hji44w : (IntKind.i64.wrap (x6_1 + x86_2)) = ji44 := (i64_w _).trans hji44
              by_cases c45 : 0 ≤ (ji44)
              ·rw [if_pos c45] at H
               have c45b0 : decide (0 ≤ (ji44)) = true := zd1 c45
               clear c45
               by_cases c46 : (ji44) < (t194.length : Int)
               ·rw [if_pos c46] at H
                have c46b0 : decide ((ji44) < (t194.length : Int)) = true := zd1 c46
                clear c46
                obtain ⟨ji47, hji47⟩ : ∃ j_ : Int, (wrap64 (8 * x86_2)) = j_ := ⟨_, rfl⟩
                replace H : (if 0 ≤ (ji47) then (sig_Read.l1 k2 t194 x6_1 (wrap64 (4 + t205)) (wrap64 (x86_2 + 1)) t199 t202 t205 x199003_1 (Go.bits .or .u32 x211000_2 (shl .u32 ((rd t194 (ji44)) % 4294967296) (ji47))) (⟨#[]⟩ : ByteArray)) else (none)) = some (r1, r2, r3, r4, r5) := by first | (rw [hji47] at H; exact H) | (simp only [hji47] at H ⊢; exact H)
                have hji47w : (IntKind.i64.wrap (8 * x86_2)) = ji47 := (i64_w _).trans hji47
                by_cases c48 : 0 ≤ (ji47)
                ·rw [if_pos c48] at H
                 have c48b0 := eq_true c48
                 have c48b1 : decide (0 ≤ (ji47)) = true := zd1 c48
                 clear c48
                 obtain ⟨ji49, hji49⟩ : ∃ j_ : Int, (shl .u32 ((rd t194 (ji44)) % 4294967296) (ji47)) = j_ := ⟨_, rfl⟩
                 replace H : (sig_Read.l1 k2 t194 x6_1 (wrap64 (4 + t205)) (wrap64 (x86_2 + 1)) t199 t202 t205 x199003_1 (Go.bits .or .u32 x211000_2 (ji49)) (⟨#[]⟩ : ByteArray)) = some (r1, r2, r3, r4, r5) := by first | (rw [hji49] at H; exact H) | (simp only [hji49] at H ⊢; exact H)
                 have hji49_ : (IntKind.u32.wrap (((rd t194 (ji44)) % 4294967296) * 2 ^ min (ji47).toNat 32)) = ji49 := hji49
                 have hji49e : (IntKind.u32.wrap (IntKind.u32.wrap (rd t194 (ji44)) * 2 ^ min (ji47).toNat 32)) = ji49 := (by rw [IntKind.wrap_u32 (rd t194 (ji44))]; exact hji49_)
                 have hji49z : (ji47) ≤ 32 → (IntKind.u32.wrap (((rd t194 (ji44)) % 4294967296) * 2 ^ (ji47).toNat)) = ji49 := shl_small hji49
                 have H' := zA H
                 clear H
                 try go_wp2
                 have n0_ := zA (Kd.R_drew HO_0.out)
                 have n1_ := zA (Kd.R_drew HO_199003.out)
                 have n2_ := zA (zc4 BK193.out)
                 have n3_ := zA (zc4 BK198.out)
                 have n4_ := zA (zc4 BK210.out)
                 have n5_ := zA (zb2 HB.out)
                 clear HO_0
                 clear HO_199003
                 clear BK193
                 clear BK198
                 clear BK210
                 clear HB
                 have HO_0 := n0_
                 have HO_199003 := n1_
                 have BK193 := n2_
                 have BK198 := n3_
                 have BK210 := n4_
                 have HB := n5_
                 clear n0_ n1_ n2_ n3_ n4_ n5_
                 have p211 : 0 ≤ ((ji44) : Int) := zd3 (by first | (with_reducible assumption) | assumption)
                 have q211 : (ji44) < (t194.length : Int) := zd3 (by first | (with_reducible assumption) | assumption)
                 obtain ⟨ad211, e211, hx211_0⟩ := Kd.at_int (Kd.R_reads' HO_0.out).2.2 (ji44) p211 q211
                 cases e211
                 replace p211 := eq_true p211
                 replace q211 := eq_true q211
                 refine start_ (n := 15) (S := fun w' => w'.cell? ⟨gb210, 0, none⟩ = some (.int .u32 x211000_2) ∧ w'.cell? ⟨gb210, 1, none⟩ = some (.string (⟨#[]⟩ : ByteArray)) ∧ w'.cell? (ad211.add ((ji44)).toNat) = some (.int .u8 (rd t194 (ji44)))) (ds := [14]) #[false, false, false, false, false, false, false, false, false, false, false, false, false, false, false] (by kernel_rfl) rfl rfl ⟨(zc1 BK210.out 0).trans rfl, (zc1 BK210.out 1).trans rfl, hx211_0⟩ (fun hHeld => ?_); refine with_tabW sig_Read.tab28 sig_Read.bits28 (fun HT_ HW_ => ?_)
                 generalize wr.drew = w50 at HO_0 HO_199003 BK193 BK198 BK210 HB hx211_0 hHeld ⊢
                 refine pure_ (i := 0) (N := some 89) (v := ?_) (a' := ?_) #[true, false, false, false, false, false, false, false, false, false, false, false, false, false, false] rfl rfl (any_of HT_.out (by kernel_rfl)) (fun _ _ _ h => h) (Or.inl ⟨by rfl, ?_⟩) ?_ ?_
                 rotate_left
                 ·intro w'
                  go_simp
                  with_reducible rfl
                 rotate_left
                 ·simp only [Act.put, zs1, zs2, zs3, i64_w, i32_w]
                  rfl
                 refine pure_ (i := 2) (N := some 91) (v := ?_) (a' := ?_) #[true, false, true, false, false, false, false, false, false, false, false, false, false, false, false] rfl rfl (any_of HT_.out (by kernel_rfl)) (fun _ _ _ h => h) (Or.inl ⟨by rfl, ?_⟩) ?_ ?_
                 rotate_left
                 ·intro w'
                  go_simp
                  with_reducible rfl
                 rotate_left
                 ·simp only [Act.put, zs1, zs2, zs3, i64_w, i32_w]
                  rfl
                 refine pure_ (i := 3) (N := some 92) (v := ?_) (a' := ?_) #[true, false, true, true, false, false, false, false, false, false, false, false, false, false, false] rfl rfl (any_of HT_.out (by kernel_rfl)) (fun _ _ _ h => h) (Or.inl ⟨by rfl, ?_⟩) ?_ ?_
                 rotate_left
                 ·intro w'
                  go_simp
                  with_reducible rfl
                 rotate_left
                 ·simp only [Act.put, zs1, zs2, zs3, i64_w, i32_w]
                  rfl
                 refine pure_ (i := 4) (N := some 93) (v := ?_) (a' := ?_) #[true, false, true, true, true, false, false, false, false, false, false, false, false, false, false] rfl rfl (any_of HT_.out (by kernel_rfl)) (fun _ _ _ h => h) (Or.inl ⟨by rfl, ?_⟩) ?_ ?_
                 rotate_left
                 ·intro w'
                  go_simp
                  with_reducible rfl
                 rotate_left
                 ·simp only [Act.put, zs1, zs2, zs3, i64_w, i32_w]
                  rfl
                 refine pure_ (i := 5) (N := some 94) (v := ?_) (a' := ?_) #[true, false, true, true, true, true, false, false, false, false, false, false, false, false, false] rfl rfl (any_of HT_.out (by kernel_rfl)) (fun _ _ _ h => h) (Or.inl ⟨by rfl, ?_⟩) ?_ ?_
                 rotate_left
                 ·intro w'
                  go_simp
                  with_reducible rfl
                 rotate_left
                 ·simp only [Act.put, zs1, zs2, zs3, i64_w, i32_w]
                  rfl
                 refine pure_ (i := 6) (N := some 95) (v := ?_) (a' := ?_) #[true, false, true, true, true, true, true, false, false, false, false, false, false, false, false] rfl rfl (any_of HT_.out (by kernel_rfl)) (fun _ _ _ h => h) (Or.inl ⟨by rfl, ?_⟩) ?_ ?_
                 rotate_left
                 ·intro w'
                  go_simp
                  with_reducible rfl
                 rotate_left
                 ·simp only [Act.put, zs1, zs2, zs3, i64_w, i32_w]
                  rfl
                 refine pure_ (i := 9) (N := some 98) (v := ?_) (a' := ?_) #[true, false, true, true, true, true, true, false, false, true, false, false, false, false, false] rfl rfl (any_of HT_.out (by kernel_rfl)) (fun _ _ _ h => h) (Or.inl ⟨by rfl, ?_⟩) ?_ ?_
                 rotate_left
                 ·intro w'
                  go_simp
                  with_reducible rfl
                 rotate_left
                 ·simp only [Act.put, zs1, zs2, zs3, i64_w, i32_w]
                  rfl
                 refine pure_ (i := 10) (N := some 99) (v := ?_) (a' := ?_) #[true, false, true, true, true, true, true, false, false, true, true, false, false, false, false] rfl rfl (any_of HT_.out (by kernel_rfl)) (fun _ _ _ h => h) (Or.inl ⟨by rfl, ?_⟩) ?_ ?_
                 rotate_left
                 ·intro w'
                  go_simp
                  with_reducible rfl
                 rotate_left
                 ·simp only [Act.put, zs1, zs2, zs3, i64_w, i32_w]
                  rfl
                 refine take_ (i := 1) (N := some 90) (v := ?_) (a' := ?_) #[true, true, true, true, true, true, true, false, false, true, true, false, false, false, false] rfl rfl (take_ofW HT_.out HW_.out (by kernel_rfl)) (fun _ _ _ h => h) (Or.inl ⟨by rfl, ?_⟩) hHeld ?_ ?_
                 rotate_left
                 ·rintro w' ⟨s0, s1, s2⟩
                  go_simp
                  with_reducible rfl
                 rotate_left
                 ·simp only [Act.put, zs1, zs2, zs3, i64_w, i32_w]
                  rfl
                 refine take_ (i := 7) (N := some 96) (v := ?_) (a' := ?_) #[true, true, true, true, true, true, true, true, false, true, true, false, false, false, false] rfl rfl (take_ofW HT_.out HW_.out (by kernel_rfl)) (fun _ _ _ h => h) (Or.inl ⟨by rfl, ?_⟩) hHeld ?_ ?_
                 rotate_left
                 ·rintro w' ⟨s0, s1, s2⟩
                  go_simp
                  with_reducible rfl
                 rotate_left
                 ·simp only [Act.put, zs1, zs2, zs3, i64_w, i32_w]
                  rfl
                 refine pure_ (i := 8) (N := some 97) (v := ?_) (a' := ?_) #[true, true, true, true, true, true, true, true, true, true, true, false, false, false, false] rfl rfl (any_of HT_.out (by kernel_rfl)) (fun _ _ _ h => h) (Or.inl ⟨by rfl, ?_⟩) ?_ ?_
                 rotate_left
                 ·intro w'
                  go_simp
                  with_reducible rfl
                 rotate_left
                 ·simp only [Act.put, zs1, zs2, zs3, i64_w, i32_w]
                  rfl
                 refine pure_ (i := 11) (N := some 100) (v := ?_) (a' := ?_) #[true, true, true, true, true, true, true, true, true, true, true, true, false, false, false] rfl rfl (any_of HT_.out (by kernel_rfl)) (fun _ _ _ h => h) (Or.inl ⟨by rfl, ?_⟩) ?_ ?_
                 rotate_left
                 ·intro w'
                  go_simp
                  with_reducible rfl
                 rotate_left
                 ·simp only [Act.put, zs1, zs2, zs3, i64_w, i32_w]
                  rfl
                 refine pure_ (i := 12) (N := some 101) (v := ?_) (a' := ?_) #[true, true, true, true, true, true, true, true, true, true, true, true, true, false, false] rfl rfl (any_of HT_.out (by kernel_rfl)) (fun _ _ _ h => h) (Or.inl ⟨by rfl, ?_⟩) ?_ ?_
                 rotate_left
                 ·intro w'
                  go_simp
                  with_reducible rfl
                 rotate_left
                 ·simp only [Act.put, zs1, zs2, zs3, i64_w, i32_w]
                  rfl
                 refine pure_ (i := 13) (N := some 102) (v := ?_) (a' := ?_) #[true, true, true, true, true, true, true, true, true, true, true, true, true, true, false] rfl rfl (any_of HT_.out (by kernel_rfl)) (fun _ _ _ h => h) (Or.inl ⟨by rfl, ?_⟩) ?_ ?_
                 rotate_left
                 ·intro w'
                  go_simp
                  with_reducible rfl
                 rotate_left
                 ·simp only [Act.put, zs1, zs2, zs3, i64_w, i32_w]
                  rfl
                 refine last_ (i := 14) (N := none) #[true, true, true, true, true, true, true, true, true, true, true, true, true, true, true] rfl rfl (one_of HT_.out (by kernel_rfl)) (by decide) (fun K hK => ?_)
                 have hs51 : w50.cell? ⟨gb210, 0, none⟩ = some (.int .u32 x211000_2) := (zc1 BK210.out 0).trans rfl
                 have hfs51 := zc5 BK210.out 0
                 have hns51_0 := NB193_210.out
                 have hns51_1 := NB198_210.out
                 have hms51_0 := NB210_193.out
                 have hms51_1 := NB210_198.out
                 refine skip_ (w1 := ?_) (by rfl) rfl ?_ ?_
                 rotate_left
                 ·go_simp
                  rfl
                 refine hK.out _ _ ?_
                 clear hK K
                 refine done_ (done_of HT_.out (by kernel_rfl)) ?_
                 try go_wp2
                 go_roundg k2
                 case measure => have := HK1.out; have := HK2.out; omega
                 case rel => exact ⟨(wrap64 (x86_2 + 1)), (Go.bits .or .u32 x211000_2 (ji49)), (by first | rfl | (simp; done) | (simp [*]; done)), H', ⟨by have := HK1.out; have := HK2.out; omega⟩, ⟨by (with_reducible repeat (first | apply Kd.R_alloc | apply Kd.R_drewN | apply Kd.R_drew)); exact Kd.R_mono (Kd.R_far (p := ⟨gb210, 0, none⟩) (Kd.R_types HO_0.out BK210.out (by decide)) (fun _ hk => hk.2) (.int .u32 (Go.bits .or .u32 x211000_2 (ji49)))) (fun _ hk => trivial)⟩, ⟨by (with_reducible repeat (first | apply Kd.R_alloc | apply Kd.R_drewN | apply Kd.R_drew)); exact Kd.R_mono (Kd.R_far (p := ⟨gb210, 0, none⟩) (Kd.R_mono HO_199003.out (fun k_ hk => (⟨hk, hk⟩ : _ ∧ k_ ≠ gb210))) (fun _ hk => hk.2) (.int .u32 (Go.bits .or .u32 x211000_2 (ji49)))) (fun _ hk => hk.1)⟩, ⟨by (with_reducible repeat (first | refine zc3 ?_ _ | refine zc4 ?_ | refine zc2 ?_ _)); refine zc7 ?_ NB193_210.out _; (with_reducible repeat (first | refine zc3 ?_ _ | refine zc4 ?_ | refine zc2 ?_ _)); exact BK193.out⟩, ⟨by (with_reducible repeat (first | refine zc3 ?_ _ | refine zc4 ?_ | refine zc2 ?_ _)); refine zc7 ?_ NB198_210.out _; (with_reducible repeat (first | refine zc3 ?_ _ | refine zc4 ?_ | refine zc2 ?_ _)); exact BK198.out⟩, ⟨by (with_reducible repeat (first | refine zc3 ?_ _ | refine zc4 ?_ | refine zc2 ?_ _)); refine blk_put (cs := #[.int .u32 x211000_2, .string (⟨#[]⟩ : ByteArray)]) ?_ 0 _ rfl; (with_reducible repeat (first | refine zc3 ?_ _ | refine zc4 ?_ | refine zc2 ?_ _)); exact BK210.out⟩, ⟨by repeat (first | (with_reducible first | exact HB.out | apply zb3 | apply zb1 | apply zb2 | refine zb4 ?_ GE193.out | refine zb4 ?_ GE198.out | refine zb4 ?_ GE210.out) | exact HB.out)⟩⟩
                ·rw [if_neg c48] at H
                 exact absurd H (by simp)
               ·rw [if_neg c46] at H
                exact absurd H (by simp)
              ·rw [if_neg c45] at H
               exact absurd H (by simp)
             ·rw [if_neg c43] at H
              have c43b0 : decide (x86_2 < 4) = false := zd2 c43
              clear c43
              obtain ⟨ji52, hji52⟩ : ∃ j_ : Int, (wrap64 (x6_1 + 4)) = j_ := ⟨_, rfl⟩
              replace H : (if 0 ≤ (ji52) then (if (ji52) ≤ (wrap64 (x6_1 + (wrap64 (4 + t205)))) then (if (wrap64 (x6_1 + (wrap64 (4 + t205)))) ≤ (t194.length : Int) then (if x199003_1.length < 5864062014805 then (sig_Read.l0 k2 t194 (wrap64 (x6_1 + (wrap64 (4 + t205)))) (wrap64 (4 + t205)) t199 t202 t205 (x199003_1 ++ [(⟨x211000_2, strOfNums ((t194.take ((wrap64 (x6_1 + (wrap64 (4 + t205)))) : Int).toNat).drop ((ji52) : Int).toNat)⟩ : S44)])) else (none)) else (none)) else (none)) else (none)) = some (r1, r2, r3, r4, r5) := by first | (rw [hji52] at H; exact H) | (simp only [hji52] at H ⊢; exact H)
              have hji52w : (IntKind.i64.wrap (x6_1 + 4)) = ji52 := (i64_w _).trans hji52
              by_cases c53 : 0 ≤ (ji52)
              ·rw [if_pos c53] at H
               have c53b0 := eq_true c53
               have c53b1 : decide (0 ≤ (ji52)) = true := zd1 c53
               clear c53
               by_cases c54 : (ji52) ≤ (wrap64 (x6_1 + (wrap64 (4 + t205))))
               ·rw [if_pos c54] at H
                have c54b0 := eq_true c54
                have c54b1 : decide ((ji52) ≤ (wrap64 (x6_1 + (wrap64 (4 + t205))))) = true := zd1 c54
                by_cases c55 : (wrap64 (x6_1 + (wrap64 (4 + t205)))) ≤ (t194.length : Int)
                ·rw [if_pos c55] at H
                 have c55b0 := eq_true c55
                 have c55b1 : decide ((wrap64 (x6_1 + (wrap64 (4 + t205)))) ≤ (t194.length : Int)) = true := zd1 c55
                 obtain ⟨y212, hy212⟩ : ∃ y_ : List Int, y_ = ((t194.take ((wrap64 (x6_1 + (wrap64 (4 + t205)))) : Int).toNat).drop ((ji52) : Int).toNat) := ⟨_, rfl⟩
                 replace H : (if x199003_1.length < 5864062014805 then (sig_Read.l0 k2 t194 (wrap64 (x6_1 + (wrap64 (4 + t205)))) (wrap64 (4 + t205)) t199 t202 t205 (x199003_1 ++ [(⟨x211000_2, strOfNums y212⟩ : S44)])) else (none)) = some (r1, r2, r3, r4, r5) := by first | (rw [hy212]; with_reducible exact H) | (have H2_ := (Option.bind_some _ _).symm.trans H; rw [hy212]; with_reducible exact H2_) | (have H2_ := (Option.bind_some _ _).symm.trans H; with_reducible exact H2_) | with_reducible exact H | (rw [hy212]; exact H) | exact H
                 have Ny212 := zA hy212
                 clear hy212
                 by_cases c56 : x199003_1.length < 5864062014805
                 ·rw [if_pos c56] at H
                  have LMc56 := zA c56
                  clear c56
                  obtain ⟨y216, hy216⟩ : ∃ y_ : List (S44), y_ = (x199003_1 ++ [(⟨x211000_2, strOfNums y212⟩ : S44)]) := ⟨_, rfl⟩
                  replace H : (sig_Read.l0 k2 t194 (wrap64 (x6_1 + (wrap64 (4 + t205)))) (wrap64 (4 + t205)) t199 t202 t205 y216) = some (r1, r2, r3, r4, r5) := by first | (rw [hy216]; with_reducible exact H) | (have H2_ := (Option.bind_some _ _).symm.trans H; rw [hy216]; with_reducible exact H2_) | (have H2_ := (Option.bind_some _ _).symm.trans H; with_reducible exact H2_) | with_reducible exact H | (rw [hy216]; exact H) | exact H
                  have Ny216 := zA hy216
                  clear hy216
                  have H' := zA H
                  clear H
                  have q57 : ((wrap64 (x6_1 + (wrap64 (4 + t205)))) : Int) ≤ ((t194.length : Int) : Int) := zd3 (by first | (with_reducible assumption) | assumption)
                  obtain ⟨i057, hi057, _, hsz57, _⟩ := info_parts info5
                  have hroom57 : t194.length ≤ co36 := (Kd.R_reads' HO_0.out).2.1
                  have hC57 : Kd.C (Kd.int .u8) _ Ao36 t194.length t194 := (Kd.R_reads' HO_0.out).2.2
                  have ql57 : ((ji52) : Int) ≤ ((wrap64 (x6_1 + (wrap64 (4 + t205)))) : Int) := zd3 (by first | (with_reducible assumption) | assumption)
                  have q057 : (0 : Int) ≤ ((ji52) : Int) := zd3 (by first | (with_reducible assumption) | assumption)
                  have hcut57 := cut_mid (P := Tryd.prog) 22 5 .i64 .i64 Tryd.underlying22 hi057 1 hsz57 Ao36 t194.length co36 (ji52) (wrap64 (x6_1 + (wrap64 (4 + t205)))) q057 ql57 q57 hroom57
                  have hr57 := Kd.C_mid (lo := ((ji52) : Int).toNat) (hi := ((wrap64 (x6_1 + (wrap64 (4 + t205)))) : Int).toNat) (c := co36) hC57 (by omega) (by omega) hroom57
                  obtain ⟨A57, hA57⟩ : ∃ A1, A1 = (if co36 = ((ji52) : Int).toNat then Ao36 else (Ao36 : Option Addr).map (·.add (((ji52) : Int).toNat * 1))) := ⟨_, rfl⟩
                  obtain ⟨c57, hc57⟩ : ∃ c1, c1 = co36 - ((ji52) : Int).toNat := ⟨_, rfl⟩
                  have hy57 : y212.length = ((wrap64 (x6_1 + (wrap64 (4 + t205)))) : Int).toNat - ((ji52) : Int).toNat := (by rw [Ny212.out, List.length_drop, List.length_take] <;> omega)
                  rw [show ((t194).take ((wrap64 (x6_1 + (wrap64 (4 + t205)))) : Int).toNat).drop ((ji52) : Int).toNat = y212 from Ny212.out.symm] at hr57
                  replace hr57 : Kd.C (Kd.int .u8) _ A57 y212.length y212 := (by rw [hA57]; exact hr57)
                  rw [← hy57, ← hA57, ← hc57] at hcut57
                  have HR215 := zA hr57
                  have HC215 := zA (show y212.length ≤ c57 from by rw [hy57, hc57]; exact Nat.sub_le_sub_right (Nat.le_trans (by omega) hroom57) _)
                  clear hr57 hC57 hroom57 hi057 hsz57 hc57
                  have KY57 := zA hy57
                  have KA57 := zA hA57
                  clear hy57 hA57
                  have KL57 := zA (show ((wrap64 (x6_1 + (wrap64 (4 + t205)))) : Int).toNat ≤ t194.length from by omega)
                  have KM57 := zA (show ((ji52) : Int).toNat ≤ ((wrap64 (x6_1 + (wrap64 (4 + t205)))) : Int).toNat from by omega)
                  replace q57 := eq_true q57
                  have hcv58 := Kd.C_string (P := Tryd.prog) (A := A57) (c := c57) Tryd.underlying22 Tryd.underlying5 Tryd.underlying9 (by repeat (first | (with_reducible exact HR215.out) | (with_reducible refine Kd.C_alloc ?_ _) | (with_reducible refine Kd.C_drewN ?_ _) | (with_reducible refine Kd.C_drew ?_) | exact HR215.out))
                  have hcv58d := fun (n_ : Nat) => Kd.C_string (P := Tryd.prog) (A := A57) (c := c57) Tryd.underlying22 Tryd.underlying5 Tryd.underlying9 (Kd.C_drewN (by repeat (first | (with_reducible exact HR215.out) | (with_reducible refine Kd.C_alloc ?_ _) | (with_reducible refine Kd.C_drewN ?_ _) | (with_reducible refine Kd.C_drew ?_) | exact HR215.out)) n_)
                  have hnb59 := NB210_193.out
                  have hnc59 := NB193_210.out
                  have hnb60 := NB210_198.out
                  have hnc60 := NB198_210.out
                  have hcz61_0 : wr.cell? ⟨gb210, 0, none⟩ = some (.int .u32 x211000_2) := (zc1 BK210.out 0).trans rfl
                  have hcz61_1 : wr.cell? ⟨gb210, 1, none⟩ = some (.string (⟨#[]⟩ : ByteArray)) := (zc1 BK210.out 1).trans rfl
                  have hfz61_0 := zc5 BK210.out 0
                  have hfz61_1 := zc5 BK210.out 1
                  have hnb62 := NB198_193.out
                  have hnc62 := NB193_198.out
                  have hcz63_0 : wr.cell? ⟨gb198, 0, none⟩ = some (.int .i64 t199) := (zc1 BK198.out 0).trans rfl
                  have hcz63_1 : wr.cell? ⟨gb198, 1, none⟩ = some (.int .i64 t202) := (zc1 BK198.out 1).trans rfl
                  have hcz63_2 : wr.cell? ⟨gb198, 2, none⟩ = some (.int .i64 t205) := (zc1 BK198.out 2).trans rfl
                  have hcz63_3 : wr.cell? ⟨gb198, 3, none⟩ = some (u199003) := (zc1 BK198.out 3).trans rfl
                  have hfz63_0 := zc5 BK198.out 0
                  have hfz63_1 := zc5 BK198.out 1
                  have hfz63_2 := zc5 BK198.out 2
                  have hfz63_3 := zc5 BK198.out 3
                  go_wp2_with (first | ((with_reducible refine gate_builtin (b := .append) (xs := #[.tmp 114, .tmp 116]) rfl ?_); at_builtin; refine Kd.R_append k44 (w0 := w) w.heap.size rfl (.tmp 114) (.tmp 116) 24 44 (.agg #[(.int .u32 0), (.string ⟨#[]⟩)]) 24 rfl Tryd.underlying24 info44 rfl (by decide) (by omega) u199003 x199003_1 (⟨x211000_2, strOfNums y212⟩ : S44) [.int .u32 x211000_2, .string (strOfNums y212)] (fun k_ => k_ ≠ gb210) (fun _ => False) rfl (by first | (go_simp; done) | (go_simp; rfl)) ?aP (fun _ hk => hk.elim) ?aF ?aO ?aB ?aS ?aL ?_; (case aP => exact k44_mkM _ _ _ (⟨x211000_2, strOfNums y212⟩ : S44)); (case aB => exact (by repeat (first | (with_reducible first | exact HB.out | apply zb3 | apply zb1 | apply zb2 | refine zb4 ?_ GE193.out | refine zb4 ?_ GE198.out | refine zb4 ?_ GE210.out) | exact HB.out))); (case aF => exact (fun k_ hk => Kd.freshB (g := gb210) (o := .cells #[.int .u32 x211000_2, .string (strOfNums y212)] 44 (0, 0)) (by (with_reducible repeat (first | refine zc3 ?_ _ | refine zc4 ?_ | refine zc2 ?_ _)); refine blk_put (cs := #[.int .u32 x211000_2, .string (⟨#[]⟩ : ByteArray)]) ?_ 1 _ rfl; (with_reducible repeat (first | refine zc3 ?_ _ | refine zc4 ?_ | refine zc2 ?_ _)); exact BK210.out) k_ hk)); (case aO => exact (by (with_reducible repeat (first | apply Kd.R_alloc | apply Kd.R_drewN | apply Kd.R_drew)); exact Kd.R_mono (Kd.R_far (p := ⟨gb210, 1, none⟩) (Kd.R_mono HO_199003.out (fun k_ hk => (⟨hk, hk⟩ : _ ∧ k_ ≠ gb210))) (fun _ hk => hk.2) (.string (strOfNums y212))) (fun _ hk => hk.1))); (case aS => exact (zb6 (by repeat (first | (with_reducible first | exact HB.out | apply zb3 | apply zb1 | apply zb2 | refine zb4 ?_ GE193.out | refine zb4 ?_ GE198.out | refine zb4 ?_ GE210.out) | exact HB.out)))); (case aL => have := LMc56.out; omega); intro v217 w64 ho hb hg hat; rw [← Ny216.out] at ho; have n0_ := zA (Kd.R_over' (by (with_reducible repeat (first | apply Kd.R_alloc | apply Kd.R_drewN | apply Kd.R_drew)); exact (Kd.R_mono (Kd.R_far (p := ⟨gb210, 1, none⟩) (Kd.R_types HO_0.out BK210.out (by decide)) (fun _ hk => hk.2) (.string (strOfNums y212))) (fun _ h_ => h_.1))) (Kd.R_typed (by (with_reducible repeat (first | apply Kd.R_alloc | apply Kd.R_drewN | apply Kd.R_drew)); exact (Kd.R_mono (Kd.R_far (p := ⟨gb210, 1, none⟩) (Kd.R_mono HO_199003.out (fun k_ hk => (⟨hk, hk⟩ : _ ∧ k_ ≠ gb210))) (fun _ hk => hk.2) (.string (strOfNums y212))) (fun _ h_ => h_.1)))) (by decide) hg); have n1_ := zA (blk_grown (g := gb193) (o := .cells #[.int .i64 0, .int .i64 0, .int .i64 0, .slice none 0 0] 26 (0, 0)) (by (with_reducible repeat (first | refine zc3 ?_ _ | refine zc4 ?_ | refine zc2 ?_ _)); refine zc7 ?_ NB193_210.out _; (with_reducible repeat (first | refine zc3 ?_ _ | refine zc4 ?_ | refine zc2 ?_ _)); exact BK193.out) hg (Kd.R_ne HO_199003.out BK193.out (by decide))); have n2_ := zA (blk_grown (g := gb198) (o := .cells #[.int .i64 t199, .int .i64 t202, .int .i64 t205, u199003] 26 (0, 0)) (by (with_reducible repeat (first | refine zc3 ?_ _ | refine zc4 ?_ | refine zc2 ?_ _)); refine zc7 ?_ NB198_210.out _; (with_reducible repeat (first | refine zc3 ?_ _ | refine zc4 ?_ | refine zc2 ?_ _)); exact BK198.out) hg (Kd.R_ne HO_199003.out BK198.out (by decide))); have n3_ := zA (blk_grown (g := gb210) (o := .cells #[.int .u32 x211000_2, .string (strOfNums y212)] 44 (0, 0)) (by (with_reducible repeat (first | refine zc3 ?_ _ | refine zc4 ?_ | refine zc2 ?_ _)); refine blk_put (cs := #[.int .u32 x211000_2, .string (⟨#[]⟩ : ByteArray)]) ?_ 1 _ rfl; (with_reducible repeat (first | refine zc3 ?_ _ | refine zc4 ?_ | refine zc2 ?_ _)); exact BK210.out) hg (Kd.R_away HO_199003.out (fun _ hk => hk))); have n4_ := zA (hb); have n5_ := zA ((show Kd.C (Kd.int .u8) w64 A57 y212.length y212 from by rw [Ny212.out, KA57.out]; exact Kd.C_mid (lo := ((ji52) : Int).toNat) (hi := ((wrap64 (x6_1 + (wrap64 (4 + t205)))) : Int).toNat) (c := co36) ((Kd.R_reads' (Kd.R_over' (by (with_reducible repeat (first | apply Kd.R_alloc | apply Kd.R_drewN | apply Kd.R_drew)); exact (Kd.R_mono (Kd.R_far (p := ⟨gb210, 1, none⟩) (Kd.R_types HO_0.out BK210.out (by decide)) (fun _ hk => hk.2) (.string (strOfNums y212))) (fun _ h_ => h_.1))) (Kd.R_typed (by (with_reducible repeat (first | apply Kd.R_alloc | apply Kd.R_drewN | apply Kd.R_drew)); exact (Kd.R_mono (Kd.R_far (p := ⟨gb210, 1, none⟩) (Kd.R_mono HO_199003.out (fun k_ hk => (⟨hk, hk⟩ : _ ∧ k_ ≠ gb210))) (fun _ hk => hk.2) (.string (strOfNums y212))) (fun _ h_ => h_.1)))) (by decide) hg)).2.2) KM57.out KL57.out ((Kd.R_reads' (Kd.R_over' (by (with_reducible repeat (first | apply Kd.R_alloc | apply Kd.R_drewN | apply Kd.R_drew)); exact (Kd.R_mono (Kd.R_far (p := ⟨gb210, 1, none⟩) (Kd.R_types HO_0.out BK210.out (by decide)) (fun _ hk => hk.2) (.string (strOfNums y212))) (fun _ h_ => h_.1))) (Kd.R_typed (by (with_reducible repeat (first | apply Kd.R_alloc | apply Kd.R_drewN | apply Kd.R_drew)); exact (Kd.R_mono (Kd.R_far (p := ⟨gb210, 1, none⟩) (Kd.R_mono HO_199003.out (fun k_ hk => (⟨hk, hk⟩ : _ ∧ k_ ≠ gb210))) (fun _ hk => hk.2) (.string (strOfNums y212))) (fun _ h_ => h_.1)))) (by decide) hg)).2.1))); have n6_ := zA (ho); clear HO_0; clear BK193; clear BK198; clear BK210; clear HB; clear HR215; clear HO_199003; have HO_0 := n0_; have BK193 := n1_; have BK198 := n2_; have BK210 := n3_; have HB := n4_; have HR215 := n5_; have HO218 := n6_; clear n0_ n1_ n2_ n3_ n4_ n5_ n6_; clear ho hb hg hat; obtain ⟨Ao65, co65, eo65⟩ := Kd.R_slice HO218.out; subst eo65; have hcz66_0 : w64.cell? ⟨gb198, 0, none⟩ = some (.int .i64 t199) := (zc1 BK198.out 0).trans rfl; have hcz66_1 : w64.cell? ⟨gb198, 1, none⟩ = some (.int .i64 t202) := (zc1 BK198.out 1).trans rfl; have hcz66_2 : w64.cell? ⟨gb198, 2, none⟩ = some (.int .i64 t205) := (zc1 BK198.out 2).trans rfl; have hcz66_3 : w64.cell? ⟨gb198, 3, none⟩ = some (u199003) := (zc1 BK198.out 3).trans rfl; have hfz66_0 := zc5 BK198.out 0; have hfz66_1 := zc5 BK198.out 1; have hfz66_2 := zc5 BK198.out 2; have hfz66_3 := zc5 BK198.out 3))
                  go_roundg k2
                  case measure => have := HK1.out; have := HK2.out; omega
                  case rel => exact ⟨(wrap64 (x6_1 + (wrap64 (4 + t205)))), (y216), (.slice Ao65 y216.length co65), (by first | rfl | (simp; done) | (simp [*]; done)), H', ⟨by have := HK1.out; have := HK2.out; omega⟩, ⟨by (with_reducible repeat (first | apply Kd.R_alloc | apply Kd.R_drewN | apply Kd.R_drew)); exact Kd.R_mono (Kd.R_far (p := ⟨gb198, 3, none⟩) (Kd.R_types HO_0.out BK198.out (by decide)) (fun _ hk => hk.2) (.slice Ao65 y216.length co65)) (fun _ hk => trivial)⟩, ⟨by (with_reducible repeat (first | apply Kd.R_alloc | apply Kd.R_drewN | apply Kd.R_drew)); exact Kd.R_mono (Kd.R_far (p := ⟨gb198, 3, none⟩) (Kd.R_types HO218.out BK198.out (by decide)) (fun _ hk => hk.2) (.slice Ao65 y216.length co65)) (fun _ hk => trivial)⟩, ⟨by (with_reducible repeat (first | refine zc3 ?_ _ | refine zc4 ?_ | refine zc2 ?_ _)); refine zc7 ?_ NB193_198.out _; (with_reducible repeat (first | refine zc3 ?_ _ | refine zc4 ?_ | refine zc2 ?_ _)); exact BK193.out⟩, ⟨by (with_reducible repeat (first | refine zc3 ?_ _ | refine zc4 ?_ | refine zc2 ?_ _)); refine blk_put (cs := #[.int .i64 t199, .int .i64 t202, .int .i64 t205, u199003]) ?_ 3 _ rfl; (with_reducible repeat (first | refine zc3 ?_ _ | refine zc4 ?_ | refine zc2 ?_ _)); exact BK198.out⟩, ⟨by repeat (first | (with_reducible first | exact HB.out | apply zb3 | apply zb1 | apply zb2 | refine zb4 ?_ GE193.out | refine zb4 ?_ GE198.out | refine zb4 ?_ GE210.out) | exact HB.out)⟩⟩
                 ·rw [if_neg c56] at H
                  exact absurd H (by simp)
                ·rw [if_neg c55] at H
                 exact absurd H (by simp)
               ·rw [if_neg c54] at H
                exact absurd H (by simp)
              ·rw [if_neg c53] at H
               exact absurd H (by simp)
          ·rw [if_neg c41] at H
           have c41b0 : decide (x6_1 < (t194.length : Int)) = false := zd2 c41
           clear c41
           simp only [Option.some.injEq, Prod.mk.injEq] at H
           obtain ⟨rfl, rfl, rfl, rfl, rfl⟩ := H
           have hnb67 := NB198_193.out
           have hnc67 := NB193_198.out
           have hcz68_0 : wr.cell? ⟨gb198, 0, none⟩ = some (.int .i64 t199) := (zc1 BK198.out 0).trans rfl
           have hcz68_1 : wr.cell? ⟨gb198, 1, none⟩ = some (.int .i64 t202) := (zc1 BK198.out 1).trans rfl
           have hcz68_2 : wr.cell? ⟨gb198, 2, none⟩ = some (.int .i64 t205) := (zc1 BK198.out 2).trans rfl
           have hcz68_3 : wr.cell? ⟨gb198, 3, none⟩ = some (u199003) := (zc1 BK198.out 3).trans rfl
           have hfz68_0 := zc5 BK198.out 0
           have hfz68_1 := zc5 BK198.out 1
           have hfz68_2 := zc5 BK198.out 2
           have hfz68_3 := zc5 BK198.out 3
           have hcz69_0 : wr.cell? ⟨gb193, 0, none⟩ = some (.int .i64 0) := (zc1 BK193.out 0).trans rfl
           have hcz69_1 : wr.cell? ⟨gb193, 1, none⟩ = some (.int .i64 0) := (zc1 BK193.out 1).trans rfl
           have hcz69_2 : wr.cell? ⟨gb193, 2, none⟩ = some (.int .i64 0) := (zc1 BK193.out 2).trans rfl
           have hcz69_3 : wr.cell? ⟨gb193, 3, none⟩ = some (.slice none 0 0) := (zc1 BK193.out 3).trans rfl
           have hfz69_0 := zc5 BK193.out 0
           have hfz69_1 := zc5 BK193.out 1
           have hfz69_2 := zc5 BK193.out 2
           have hfz69_3 := zc5 BK193.out 3
           obtain ⟨Ao70, co70, eo70⟩ := Kd.R_slice HO_199003.out
           subst eo70
           go_wp2
           refine bodyPost_ret (results_ct rfl _ _ gb193 26 #[.int .i64 t199, .int .i64 t202, .int .i64 t205, .slice Ao70 x199003_1.length co70] (0, 0) _ rfl (by (with_reducible repeat (first | refine zc3 ?_ _ | refine zc4 ?_ | refine zc2 ?_ _)); refine blk_put (cs := #[.int .i64 t199, .int .i64 t202, .int .i64 t205, .slice none 0 0]) ?_ 3 _ rfl; (with_reducible repeat (first | refine zc3 ?_ _ | refine zc4 ?_ | refine zc2 ?_ _)); refine blk_put (cs := #[.int .i64 t199, .int .i64 t202, .int .i64 0, .slice none 0 0]) ?_ 2 _ rfl; (with_reducible repeat (first | refine zc3 ?_ _ | refine zc4 ?_ | refine zc2 ?_ _)); refine blk_put (cs := #[.int .i64 t199, .int .i64 0, .int .i64 0, .slice none 0 0]) ?_ 1 _ rfl; (with_reducible repeat (first | refine zc3 ?_ _ | refine zc4 ?_ | refine zc2 ?_ _)); refine blk_put (cs := #[.int .i64 0, .int .i64 0, .int .i64 0, .slice none 0 0]) ?_ 0 _ rfl; (with_reducible repeat (first | refine zc3 ?_ _ | refine zc4 ?_ | refine zc2 ?_ _)); exact BK193.out) Tryd.underlying26 rfl (by kernel_rfl)) rfl ?_
           exact ⟨_, by first | rfl | (simp [*] <;> rfl), by (with_reducible repeat (first | apply Kd.R_alloc | apply Kd.R_drewN | apply Kd.R_drew)); exact Kd.R_mono (Kd.R_far (p := ⟨gb193, 3, none⟩) (Kd.R_far (p := ⟨gb193, 2, none⟩) (Kd.R_far (p := ⟨gb193, 1, none⟩) (Kd.R_far (p := ⟨gb193, 0, none⟩) (Kd.R_types HO_199003.out BK193.out (by decide)) (fun _ hk => hk.2) (.int .i64 t199)) (fun _ hk => hk.2) (.int .i64 t202)) (fun _ hk => hk.2) (.int .i64 t205)) (fun _ hk => hk.2) (.slice Ao70 x199003_1.length co70)) (fun _ hk => trivial), by repeat (first | (with_reducible first | exact HB.out | apply zb3 | apply zb1 | apply zb2 | refine zb4 ?_ GE193.out | refine zb4 ?_ GE198.out) | exact HB.out)⟩
     ·rw [if_neg c11] at H
      have c11b0 : (t208 == 0) = false := beq_eq_false_iff_ne.mpr c11
      have c11b1 : (t208 != 0) = true := bne_iff_ne.mpr c11
      simp only [Option.some.injEq, Prod.mk.injEq] at H
      obtain ⟨rfl, rfl, rfl, rfl, rfl⟩ := H
      go_enter Tryd.func27, Tryd.ntmps27
      go_wp2_with (first | ((with_reducible refine gate_dst (N := 2) rfl ?_); refine box_event ?hg (N := 2) ?hd (cs := #[.int .i64 0, .int .i64 0, .int .i64 0, .slice none 0 0]) (t := 26) ?hr ?_; (case hd => rfl); (case hg => rfl); (case hr => first | (go_simp; done) | (go_simp; rfl)); intro gb193 hg w71 hbox hb; have n0_ := zA (zb5 (by repeat (first | (with_reducible first | exact HB.out | apply zb3 | apply zb1 | apply zb2) | exact HB.out)) hb); have n1_ := zA (hbox); have n2_ := zA ((by rw [hg]; exact (zb6 (by repeat (first | (with_reducible first | exact HB.out | apply zb3 | apply zb1 | apply zb2) | exact HB.out))) : w.heap.size ≤ gb193)); have n3_ := zA ((by rw [hg]; exact (zb6 (by repeat (first | (with_reducible first | exact HB.out | apply zb3 | apply zb1 | apply zb2) | exact HB.out))) : w.heap.size ≤ gb193)); clear HB; have HB := n0_; have BK193 := n1_; have GW193 := n2_; have GE193 := n3_; clear n0_ n1_ n2_ n3_; clear hb hbox hg) | ((with_reducible refine gate_callee (f := 25) rfl ?_); refine goesL_ (some 17) rfl rfl Tryd.func25 (by kernel_rfl) rfl #[.slice A0 l0.length c0] rfl (by (try simp only [zm1, zm2, zm3]); first | done | rfl | (simp only [List.length_drop, List.length_take]; rfl) | (simp only [Int.emod_add_emod, Int.add_emod_emod]; rfl)) ?_; (with_reducible refine (crc_Open.calls _ _ l0 t194 t195 _ ?side1 ?side2 A2.out ?sideG).mono ?_); (case sideG => first | exact hG.below (by repeat (first | (with_reducible first | exact HB.out | apply zb3 | apply zb1 | apply zb2 | refine zb4 ?_ GE193.out | refine zb4 ?_ GE198.out | refine zb4 ?_ GE210.out) | exact HB.out | exact Below.refl _ _)) | exact hG); (case side1 => repeat (first | exact (Kd.C_below HR0.out HB.out) | (with_reducible refine Kd.C_alloc ?_ _) | (with_reducible refine Kd.C_drewN ?_ _) | (with_reducible refine Kd.C_drew ?_))); (case side2 => exact HC0.out); rintro e w72 ⟨v196, rfl, ho0, hb⟩; refine ⟨_, rfl, ?_⟩; have n0_ := zA (Kd.R_lower ho0 (zb6 (by repeat (first | (with_reducible first | exact HB.out | apply zb3 | apply zb1 | apply zb2 | refine zb4 ?_ GE193.out) | exact HB.out)))); have n1_ := zA (zc6 (g := gb193) (o := .cells #[.int .i64 0, .int .i64 0, .int .i64 0, .slice none 0 0] 26 (0, 0)) (by (with_reducible repeat (first | refine zc3 ?_ _ | refine zc4 ?_ | refine zc2 ?_ _)); exact BK193.out) hb); have n2_ := zA (zb5 (by repeat (first | (with_reducible first | exact HB.out | apply zb3 | apply zb1 | apply zb2 | refine zb4 ?_ GE193.out) | exact HB.out)) hb); clear BK193; clear HB; have HO197 := n0_; have BK193 := n1_; have HB := n2_; clear n0_ n1_ n2_; (try clear hb); (try clear hb2); (try clear hk); (try clear hi); (try clear ho0)) | ((with_reducible refine gate_dst (N := 5) rfl ?_); refine box_event ?hg (N := 5) ?hd (cs := #[.int .i64 0, .int .i64 0, .int .i64 0, .slice none 0 0]) (t := 26) ?hr ?_; (case hd => rfl); (case hg => rfl); (case hr => first | (go_simp; done) | (go_simp; rfl)); intro gb198 hg wq_ hbox hb; have n0_ := zA (Kd.R_below (by (with_reducible repeat (first | apply Kd.R_alloc | apply Kd.R_drewN | apply Kd.R_drew)); exact HO197.out) hb); have n1_ := zA (zc6 (g := gb193) (o := .cells #[.int .i64 0, .int .i64 0, .int .i64 0, .slice none 0 0] 26 (0, 0)) (by (with_reducible repeat (first | refine zc3 ?_ _ | refine zc4 ?_ | refine zc2 ?_ _)); exact BK193.out) hb); have n2_ := zA (zb5 (by repeat (first | (with_reducible first | exact HB.out | apply zb3 | apply zb1 | apply zb2 | refine zb4 ?_ GE193.out) | exact HB.out)) hb); have n3_ := zA (hbox); have n4_ := zA ((by rw [hg]; exact (zb6 (by repeat (first | (with_reducible first | exact HB.out | apply zb3 | apply zb1 | apply zb2 | refine zb4 ?_ GE193.out) | exact HB.out))) : w.heap.size ≤ gb198)); have n5_ := zA ((by rw [hg]; exact (zb6 (by repeat (first | (with_reducible first | exact HB.out | apply zb3 | apply zb1 | apply zb2 | refine zb4 ?_ GE193.out) | exact HB.out))) : w.heap.size ≤ gb198)); have n6_ := zA ((by rw [hg]; exact Nat.ne_of_lt (blk_lt (g := gb193) (o := .cells #[.int .i64 0, .int .i64 0, .int .i64 0, .slice none 0 0] 26 (0, 0)) (by (with_reducible repeat (first | refine zc3 ?_ _ | refine zc4 ?_ | refine zc2 ?_ _)); exact BK193.out)) : gb193 ≠ gb198)); have n7_ := zA ((by rw [hg]; exact Nat.ne_of_gt (blk_lt (g := gb193) (o := .cells #[.int .i64 0, .int .i64 0, .int .i64 0, .slice none 0 0] 26 (0, 0)) (by (with_reducible repeat (first | refine zc3 ?_ _ | refine zc4 ?_ | refine zc2 ?_ _)); exact BK193.out)) : gb198 ≠ gb193)); clear HO197; clear BK193; clear HB; have HO197 := n0_; have BK193 := n1_; have HB := n2_; have BK198 := n3_; have GW198 := n4_; have GE198 := n5_; have NB193_198 := n6_; have NB198_193 := n7_; clear n0_ n1_ n2_ n3_ n4_ n5_ n6_ n7_; clear hb hbox hg; obtain ⟨Ao74, co74, eo74⟩ := Kd.R_slice HO197.out; subst eo74) | ((with_reducible refine gate_dst (N := 27) rfl ?_); refine row_event ?hg (N := 27) ?hd (cs := #[.pointer (some ⟨gb198, 0, none⟩), .pointer (some ⟨gb198, 1, none⟩), .pointer (some ⟨gb198, 2, none⟩)]) (t := 72) (n := 3) ?hr ?_; (case hd => rfl); (case hg => rfl); (case hr => first | (go_simp; done) | (go_simp; rfl)); intro gp_ hgp_ w73 hbp_ hbp2_; have n0_ := zA (Kd.R_below HO197.out hbp2_); have n1_ := zA (zc6 BK193.out hbp2_); have n2_ := zA (zc6 BK198.out hbp2_); have n3_ := zA (zb5 HB.out hbp2_); have hgn_ : gp_ ≠ gb198 := (by rw [hgp_]; exact Nat.ne_of_gt (blk_lt BK198.out)); have hgm_ : gb198 ≠ gp_ := hgn_.symm; have hbp0_ := zA hbp_; clear HO197 BK193 BK198 HB; have HO197 := n0_; have BK193 := n1_; have BK198 := n2_; have HB := n3_; clear n0_ n1_ n2_ n3_ hbp_ hbp2_ hgp_; have hp0_ : w73.cell? ⟨gp_, 0, none⟩ = some (.pointer (some ⟨gb198, 0, none⟩)) := (zc1 hbp0_.out 0).trans rfl; have hp1_ : w73.cell? ⟨gp_, 1, none⟩ = some (.pointer (some ⟨gb198, 1, none⟩)) := (zc1 hbp0_.out 1).trans rfl; have hp2_ : w73.cell? ⟨gp_, 2, none⟩ = some (.pointer (some ⟨gb198, 2, none⟩)) := (zc1 hbp0_.out 2).trans rfl))
      refine wp_loop_rounds 4 ?_
      rw [rounds_succ]
      go_wp2_with (first | ((with_reducible refine gate_callee (f := 26) rfl ?_); refine goesL_ (some 37) rfl rfl Tryd.func26 (by kernel_rfl) rfl #[.slice Ao74 t194.length co74, .int .i64 0] rfl (by (try simp only [zm1, zm2, zm3]); first | done | rfl | (simp only [List.length_drop, List.length_take]; rfl) | (simp only [Int.emod_add_emod, Int.add_emod_emod]; rfl)) ?_; (with_reducible refine (num_Get.calls k _ _ t194 0 t199 t200 t201 _ ?side1 ?side2 A4.out).mono ?_); (case side1 => repeat (first | exact (Kd.R_reads' HO197.out).2.2 | (with_reducible refine Kd.C_alloc ?_ _) | (with_reducible refine Kd.C_drewN ?_ _) | (with_reducible refine Kd.C_drew ?_))); (case side2 => exact (Kd.R_reads' HO197.out).2.1); rintro e w' ⟨rfl, ⟨nd, rfl⟩⟩; refine ⟨_, rfl, ?_⟩; (try (rw [drewN_self w73]; generalize hq_ : World.drewN w73 _ = w73; have n0_ : Aside0 (Kd.R (Kd.int .u8) 5 w73 w.heap.size (fun _ => True) (.slice Ao74 t194.length co74) t194) := ⟨by rw [← hq_]; exact (by (with_reducible repeat (first | apply Kd.R_alloc | apply Kd.R_drewN | apply Kd.R_drew)); exact HO197.out)⟩; have n1_ : Aside0 (w73.heap[gb193]? = some (.cells #[.int .i64 0, .int .i64 0, .int .i64 0, .slice none 0 0] 26 (0, 0))) := ⟨by rw [← hq_]; exact (by (with_reducible repeat (first | refine zc3 ?_ _ | refine zc4 ?_ | refine zc2 ?_ _)); exact BK193.out)⟩; have n2_ : Aside0 (w73.heap[gb198]? = some (.cells #[.int .i64 0, .int .i64 0, .int .i64 0, .slice none 0 0] 26 (0, 0))) := ⟨by rw [← hq_]; exact (by (with_reducible repeat (first | refine zc3 ?_ _ | refine zc4 ?_ | refine zc2 ?_ _)); exact BK198.out)⟩; have n3_ : Aside0 (Below w.heap.size w w73) := ⟨by rw [← hq_]; exact (by repeat (first | (with_reducible first | exact HB.out | apply zb3 | apply zb1 | apply zb2 | refine zb4 ?_ GE193.out | refine zb4 ?_ GE198.out) | exact HB.out))⟩; have n9_ : Aside0 (w73.heap[gp_]? = some (.cells #[.pointer (some ⟨gb198, 0, none⟩), .pointer (some ⟨gb198, 1, none⟩), .pointer (some ⟨gb198, 2, none⟩)] 72 (0, 0))) := ⟨by rw [← hq_]; exact (by (with_reducible repeat (first | refine zc3 ?_ _ | refine zc4 ?_ | refine zc2 ?_ _)); exact hbp0_.out)⟩; clear hbp0_; clear HO197 BK193 BK198 HB hq_; have hbp0_ := n9_; clear n9_; have HO197 := n0_; have BK193 := n1_; have BK198 := n2_; have HB := n3_; clear n0_ n1_ n2_ n3_)); have hnb75 := NB198_193.out; have hnc75 := NB193_198.out; have hcz76_0 : w73.cell? ⟨gb198, 0, none⟩ = some (.int .i64 0) := (zc1 BK198.out 0).trans rfl; have hcz76_1 : w73.cell? ⟨gb198, 1, none⟩ = some (.int .i64 0) := (zc1 BK198.out 1).trans rfl; have hcz76_2 : w73.cell? ⟨gb198, 2, none⟩ = some (.int .i64 0) := (zc1 BK198.out 2).trans rfl; have hcz76_3 : w73.cell? ⟨gb198, 3, none⟩ = some (.slice none 0 0) := (zc1 BK198.out 3).trans rfl; have hfz76_0 := zc5 BK198.out 0; have hfz76_1 := zc5 BK198.out 1; have hfz76_2 := zc5 BK198.out 2; have hfz76_3 := zc5 BK198.out 3; (try (have hp0_ : w73.cell? ⟨gp_, 0, none⟩ = some (.pointer (some ⟨gb198, 0, none⟩)) := (zc1 hbp0_.out 0).trans rfl; have hp1_ : w73.cell? ⟨gp_, 1, none⟩ = some (.pointer (some ⟨gb198, 1, none⟩)) := (zc1 hbp0_.out 1).trans rfl; have hp2_ : w73.cell? ⟨gp_, 2, none⟩ = some (.pointer (some ⟨gb198, 2, none⟩)) := (zc1 hbp0_.out 2).trans rfl))))
      (try rw [show wrap64 (0 + 1) = 1 by unfold wrap64; omega])
      rw [rounds_succ]
      go_wp2_with (first | ((with_reducible refine gate_callee (f := 26) rfl ?_); refine goesL_ (some 37) rfl rfl Tryd.func26 (by kernel_rfl) rfl #[.slice Ao74 t194.length co74, .int .i64 t200] rfl (by (try simp only [zm1, zm2, zm3]); first | done | rfl | (simp only [List.length_drop, List.length_take]; rfl) | (simp only [Int.emod_add_emod, Int.add_emod_emod]; rfl)) ?_; (with_reducible refine (num_Get.calls k _ _ t194 t200 t202 t203 t204 _ ?side1 ?side2 A6.out).mono ?_); (case side1 => refine (Kd.R_reads' (e := 5) (base := w.heap.size) (ok := fun k_ => True) (n := t194.length) (c := co74) ?_).2.2; exact (by (with_reducible repeat (first | apply Kd.R_alloc | apply Kd.R_drewN | apply Kd.R_drew)); exact (Kd.R_mono (Kd.R_far (p := ⟨gb198, 0, none⟩) (Kd.R_types HO197.out BK198.out (by decide)) (fun _ hk => hk.2) (.int .i64 t199)) (fun _ h_ => h_.1)))); (case side2 => exact (Kd.R_reads' HO197.out).2.1); rintro e w' ⟨rfl, ⟨nd, rfl⟩⟩; refine ⟨_, rfl, ?_⟩))
      (try rw [show wrap64 (1 + 1) = 2 by unfold wrap64; omega])
      rw [rounds_succ]
      go_wp2_with (first | ((with_reducible refine gate_callee (f := 26) rfl ?_); refine goesL_ (some 37) rfl rfl Tryd.func26 (by kernel_rfl) rfl #[.slice Ao74 t194.length co74, .int .i64 t203] rfl (by (try simp only [zm1, zm2, zm3]); first | done | rfl | (simp only [List.length_drop, List.length_take]; rfl) | (simp only [Int.emod_add_emod, Int.add_emod_emod]; rfl)) ?_; (with_reducible refine (num_Get.calls k _ _ t194 t203 t205 t206 t207 _ ?side1 ?side2 A8.out).mono ?_); (case side1 => refine (Kd.R_reads' (e := 5) (base := w.heap.size) (ok := fun k_ => True) (n := t194.length) (c := co74) ?_).2.2; exact (by (with_reducible repeat (first | apply Kd.R_alloc | apply Kd.R_drewN | apply Kd.R_drew)); exact (Kd.R_mono (Kd.R_far (p := ⟨gb198, 1, none⟩) (Kd.R_far (p := ⟨gb198, 0, none⟩) (Kd.R_types HO197.out BK198.out (by decide)) (fun _ hk => hk.2) (.int .i64 t199)) (fun _ hk => hk.2) (.int .i64 t202)) (fun _ h_ => h_.1)))); (case side2 => exact (Kd.R_reads' HO197.out).2.1); rintro e w' ⟨rfl, ⟨nd, rfl⟩⟩; refine ⟨_, rfl, ?_⟩))
      (try rw [show wrap64 (2 + 1) = 3 by unfold wrap64; omega])
      rw [rounds_succ]
      go_wp2_with (first | ((with_reducible refine gate_callee (f := 44) rfl ?_); refine goesL_ (some 48) rfl rfl Tryd.func44 (by kernel_rfl) rfl #[.agg #[.int .i64 t199, .int .i64 t202, .int .i64 t205, .slice none 0 0]] rfl (by (try simp only [zm1, zm2, zm3]); first | done | rfl | (simp only [List.length_drop, List.length_take]; rfl) | (simp only [Int.emod_add_emod, Int.add_emod_emod]; rfl)) ?_; (refine (sig_front.calls t199 t202 t205 _ _ ([] : List (S44)) t208 _ ?side1 ?side2 A10.out).mono ?_); (case side1 => exact Kd.C_nil _ _); (case side2 => exact Nat.le_refl _); rintro e w77 ⟨rfl, hb⟩; refine ⟨_, rfl, ?_⟩; have n0_ := zA (Kd.R_below (by (with_reducible repeat (first | apply Kd.R_alloc | apply Kd.R_drewN | apply Kd.R_drew)); exact (Kd.R_mono (Kd.R_far (p := ⟨gb198, 2, none⟩) (Kd.R_far (p := ⟨gb198, 1, none⟩) (Kd.R_far (p := ⟨gb198, 0, none⟩) (Kd.R_types HO197.out BK198.out (by decide)) (fun _ hk => hk.2) (.int .i64 t199)) (fun _ hk => hk.2) (.int .i64 t202)) (fun _ hk => hk.2) (.int .i64 t205)) (fun _ h_ => h_.1))) hb); have n1_ := zA (zc6 (g := gb193) (o := .cells #[.int .i64 0, .int .i64 0, .int .i64 0, .slice none 0 0] 26 (0, 0)) (by (with_reducible repeat (first | refine zc3 ?_ _ | refine zc4 ?_ | refine zc2 ?_ _)); refine zc7 ?_ NB193_198.out _; (with_reducible repeat (first | refine zc3 ?_ _ | refine zc4 ?_ | refine zc2 ?_ _)); refine zc7 ?_ NB193_198.out _; (with_reducible repeat (first | refine zc3 ?_ _ | refine zc4 ?_ | refine zc2 ?_ _)); refine zc7 ?_ NB193_198.out _; (with_reducible repeat (first | refine zc3 ?_ _ | refine zc4 ?_ | refine zc2 ?_ _)); exact BK193.out) hb); have n2_ := zA (zc6 (g := gb198) (o := .cells #[.int .i64 t199, .int .i64 t202, .int .i64 t205, .slice none 0 0] 26 (0, 0)) (by (with_reducible repeat (first | refine zc3 ?_ _ | refine zc4 ?_ | refine zc2 ?_ _)); refine blk_put (cs := #[.int .i64 t199, .int .i64 t202, .int .i64 0, .slice none 0 0]) ?_ 2 _ rfl; (with_reducible repeat (first | refine zc3 ?_ _ | refine zc4 ?_ | refine zc2 ?_ _)); refine blk_put (cs := #[.int .i64 t199, .int .i64 0, .int .i64 0, .slice none 0 0]) ?_ 1 _ rfl; (with_reducible repeat (first | refine zc3 ?_ _ | refine zc4 ?_ | refine zc2 ?_ _)); refine blk_put (cs := #[.int .i64 0, .int .i64 0, .int .i64 0, .slice none 0 0]) ?_ 0 _ rfl; (with_reducible repeat (first | refine zc3 ?_ _ | refine zc4 ?_ | refine zc2 ?_ _)); exact BK198.out) hb); have n3_ := zA (zb5 (by repeat (first | (with_reducible first | exact HB.out | apply zb3 | apply zb1 | apply zb2 | refine zb4 ?_ GE193.out | refine zb4 ?_ GE198.out) | exact HB.out)) hb); clear HO197; clear BK193; clear BK198; clear HB; have HO197 := n0_; have BK193 := n1_; have BK198 := n2_; have HB := n3_; clear n0_ n1_ n2_ n3_; (try clear hb); (try clear hb2); (try clear hk); (try clear hi); have hcz78_0 : w77.cell? ⟨gb193, 0, none⟩ = some (.int .i64 0) := (zc1 BK193.out 0).trans rfl; have hcz78_1 : w77.cell? ⟨gb193, 1, none⟩ = some (.int .i64 0) := (zc1 BK193.out 1).trans rfl; have hcz78_2 : w77.cell? ⟨gb193, 2, none⟩ = some (.int .i64 0) := (zc1 BK193.out 2).trans rfl; have hcz78_3 : w77.cell? ⟨gb193, 3, none⟩ = some (.slice none 0 0) := (zc1 BK193.out 3).trans rfl; have hfz78_0 := zc5 BK193.out 0; have hfz78_1 := zc5 BK193.out 1; have hfz78_2 := zc5 BK193.out 2; have hfz78_3 := zc5 BK193.out 3))
      refine bodyPost_ret (results_ct rfl _ _ gb193 26 #[.int .i64 0, .int .i64 0, .int .i64 0, .slice none 0 0] (0, 0) _ rfl (by (with_reducible repeat (first | refine zc3 ?_ _ | refine zc4 ?_ | refine zc2 ?_ _)); refine blk_put (cs := #[.int .i64 0, .int .i64 0, .int .i64 0, .slice none 0 0]) ?_ 3 _ rfl; (with_reducible repeat (first | refine zc3 ?_ _ | refine zc4 ?_ | refine zc2 ?_ _)); refine blk_put (cs := #[.int .i64 0, .int .i64 0, .int .i64 0, .slice none 0 0]) ?_ 2 _ rfl; (with_reducible repeat (first | refine zc3 ?_ _ | refine zc4 ?_ | refine zc2 ?_ _)); refine blk_put (cs := #[.int .i64 0, .int .i64 0, .int .i64 0, .slice none 0 0]) ?_ 1 _ rfl; (with_reducible repeat (first | refine zc3 ?_ _ | refine zc4 ?_ | refine zc2 ?_ _)); refine blk_put (cs := #[.int .i64 0, .int .i64 0, .int .i64 0, .slice none 0 0]) ?_ 0 _ rfl; (with_reducible repeat (first | refine zc3 ?_ _ | refine zc4 ?_ | refine zc2 ?_ _)); exact BK193.out) Tryd.underlying26 rfl (by kernel_rfl)) rfl ?_
      exact ⟨_, by first | rfl | (simp [*] <;> rfl), by first | exact Kd.R_nil _ _ _ _ _ | exact Kd.N_nil _ _ _ _ _ | exact Kd.V_nil _ _ _ _ _ | exact Kd.Q_nil _ _ _ _ _ | exact Kd.S_nil _ _ _ _ _, by repeat (first | (with_reducible first | exact HB.out | apply zb3 | apply zb1 | apply zb2 | refine zb4 ?_ GE193.out | refine zb4 ?_ GE198.out) | exact HB.out)⟩
    ·rw [if_neg c9] at H
     have c9b0 : (t207 == 0) = false := beq_eq_false_iff_ne.mpr c9
     have c9b1 : (t207 != 0) = true := bne_iff_ne.mpr c9
     simp only [Option.some.injEq, Prod.mk.injEq] at H
     obtain ⟨rfl, rfl, rfl, rfl, rfl⟩ := H
     go_enter Tryd.func27, Tryd.ntmps27
     go_wp2_with (first | ((with_reducible refine gate_dst (N := 2) rfl ?_); refine box_event ?hg (N := 2) ?hd (cs := #[.int .i64 0, .int .i64 0, .int .i64 0, .slice none 0 0]) (t := 26) ?hr ?_; (case hd => rfl); (case hg => rfl); (case hr => first | (go_simp; done) | (go_simp; rfl)); intro gb193 hg w79 hbox hb; have n0_ := zA (zb5 (by repeat (first | (with_reducible first | exact HB.out | apply zb3 | apply zb1 | apply zb2) | exact HB.out)) hb); have n1_ := zA (hbox); have n2_ := zA ((by rw [hg]; exact (zb6 (by repeat (first | (with_reducible first | exact HB.out | apply zb3 | apply zb1 | apply zb2) | exact HB.out))) : w.heap.size ≤ gb193)); have n3_ := zA ((by rw [hg]; exact (zb6 (by repeat (first | (with_reducible first | exact HB.out | apply zb3 | apply zb1 | apply zb2) | exact HB.out))) : w.heap.size ≤ gb193)); clear HB; have HB := n0_; have BK193 := n1_; have GW193 := n2_; have GE193 := n3_; clear n0_ n1_ n2_ n3_; clear hb hbox hg) | ((with_reducible refine gate_callee (f := 25) rfl ?_); refine goesL_ (some 17) rfl rfl Tryd.func25 (by kernel_rfl) rfl #[.slice A0 l0.length c0] rfl (by (try simp only [zm1, zm2, zm3]); first | done | rfl | (simp only [List.length_drop, List.length_take]; rfl) | (simp only [Int.emod_add_emod, Int.add_emod_emod]; rfl)) ?_; (with_reducible refine (crc_Open.calls _ _ l0 t194 t195 _ ?side1 ?side2 A2.out ?sideG).mono ?_); (case sideG => first | exact hG.below (by repeat (first | (with_reducible first | exact HB.out | apply zb3 | apply zb1 | apply zb2 | refine zb4 ?_ GE193.out | refine zb4 ?_ GE198.out | refine zb4 ?_ GE210.out) | exact HB.out | exact Below.refl _ _)) | exact hG); (case side1 => repeat (first | exact (Kd.C_below HR0.out HB.out) | (with_reducible refine Kd.C_alloc ?_ _) | (with_reducible refine Kd.C_drewN ?_ _) | (with_reducible refine Kd.C_drew ?_))); (case side2 => exact HC0.out); rintro e w80 ⟨v196, rfl, ho0, hb⟩; refine ⟨_, rfl, ?_⟩; have n0_ := zA (Kd.R_lower ho0 (zb6 (by repeat (first | (with_reducible first | exact HB.out | apply zb3 | apply zb1 | apply zb2 | refine zb4 ?_ GE193.out) | exact HB.out)))); have n1_ := zA (zc6 (g := gb193) (o := .cells #[.int .i64 0, .int .i64 0, .int .i64 0, .slice none 0 0] 26 (0, 0)) (by (with_reducible repeat (first | refine zc3 ?_ _ | refine zc4 ?_ | refine zc2 ?_ _)); exact BK193.out) hb); have n2_ := zA (zb5 (by repeat (first | (with_reducible first | exact HB.out | apply zb3 | apply zb1 | apply zb2 | refine zb4 ?_ GE193.out) | exact HB.out)) hb); clear BK193; clear HB; have HO197 := n0_; have BK193 := n1_; have HB := n2_; clear n0_ n1_ n2_; (try clear hb); (try clear hb2); (try clear hk); (try clear hi); (try clear ho0)) | ((with_reducible refine gate_dst (N := 5) rfl ?_); refine box_event ?hg (N := 5) ?hd (cs := #[.int .i64 0, .int .i64 0, .int .i64 0, .slice none 0 0]) (t := 26) ?hr ?_; (case hd => rfl); (case hg => rfl); (case hr => first | (go_simp; done) | (go_simp; rfl)); intro gb198 hg wq_ hbox hb; have n0_ := zA (Kd.R_below (by (with_reducible repeat (first | apply Kd.R_alloc | apply Kd.R_drewN | apply Kd.R_drew)); exact HO197.out) hb); have n1_ := zA (zc6 (g := gb193) (o := .cells #[.int .i64 0, .int .i64 0, .int .i64 0, .slice none 0 0] 26 (0, 0)) (by (with_reducible repeat (first | refine zc3 ?_ _ | refine zc4 ?_ | refine zc2 ?_ _)); exact BK193.out) hb); have n2_ := zA (zb5 (by repeat (first | (with_reducible first | exact HB.out | apply zb3 | apply zb1 | apply zb2 | refine zb4 ?_ GE193.out) | exact HB.out)) hb); have n3_ := zA (hbox); have n4_ := zA ((by rw [hg]; exact (zb6 (by repeat (first | (with_reducible first | exact HB.out | apply zb3 | apply zb1 | apply zb2 | refine zb4 ?_ GE193.out) | exact HB.out))) : w.heap.size ≤ gb198)); have n5_ := zA ((by rw [hg]; exact (zb6 (by repeat (first | (with_reducible first | exact HB.out | apply zb3 | apply zb1 | apply zb2 | refine zb4 ?_ GE193.out) | exact HB.out))) : w.heap.size ≤ gb198)); have n6_ := zA ((by rw [hg]; exact Nat.ne_of_lt (blk_lt (g := gb193) (o := .cells #[.int .i64 0, .int .i64 0, .int .i64 0, .slice none 0 0] 26 (0, 0)) (by (with_reducible repeat (first | refine zc3 ?_ _ | refine zc4 ?_ | refine zc2 ?_ _)); exact BK193.out)) : gb193 ≠ gb198)); have n7_ := zA ((by rw [hg]; exact Nat.ne_of_gt (blk_lt (g := gb193) (o := .cells #[.int .i64 0, .int .i64 0, .int .i64 0, .slice none 0 0] 26 (0, 0)) (by (with_reducible repeat (first | refine zc3 ?_ _ | refine zc4 ?_ | refine zc2 ?_ _)); exact BK193.out)) : gb198 ≠ gb193)); clear HO197; clear BK193; clear HB; have HO197 := n0_; have BK193 := n1_; have HB := n2_; have BK198 := n3_; have GW198 := n4_; have GE198 := n5_; have NB193_198 := n6_; have NB198_193 := n7_; clear n0_ n1_ n2_ n3_ n4_ n5_ n6_ n7_; clear hb hbox hg; obtain ⟨Ao82, co82, eo82⟩ := Kd.R_slice HO197.out; subst eo82) | ((with_reducible refine gate_dst (N := 27) rfl ?_); refine row_event ?hg (N := 27) ?hd (cs := #[.pointer (some ⟨gb198, 0, none⟩), .pointer (some ⟨gb198, 1, none⟩), .pointer (some ⟨gb198, 2, none⟩)]) (t := 72) (n := 3) ?hr ?_; (case hd => rfl); (case hg => rfl); (case hr => first | (go_simp; done) | (go_simp; rfl)); intro gp_ hgp_ w81 hbp_ hbp2_; have n0_ := zA (Kd.R_below HO197.out hbp2_); have n1_ := zA (zc6 BK193.out hbp2_); have n2_ := zA (zc6 BK198.out hbp2_); have n3_ := zA (zb5 HB.out hbp2_); have hgn_ : gp_ ≠ gb198 := (by rw [hgp_]; exact Nat.ne_of_gt (blk_lt BK198.out)); have hgm_ : gb198 ≠ gp_ := hgn_.symm; have hbp0_ := zA hbp_; clear HO197 BK193 BK198 HB; have HO197 := n0_; have BK193 := n1_; have BK198 := n2_; have HB := n3_; clear n0_ n1_ n2_ n3_ hbp_ hbp2_ hgp_; have hp0_ : w81.cell? ⟨gp_, 0, none⟩ = some (.pointer (some ⟨gb198, 0, none⟩)) := (zc1 hbp0_.out 0).trans rfl; have hp1_ : w81.cell? ⟨gp_, 1, none⟩ = some (.pointer (some ⟨gb198, 1, none⟩)) := (zc1 hbp0_.out 1).trans rfl; have hp2_ : w81.cell? ⟨gp_, 2, none⟩ = some (.pointer (some ⟨gb198, 2, none⟩)) := (zc1 hbp0_.out 2).trans rfl))
     refine wp_loop_rounds 4 ?_
     rw [rounds_succ]
     go_wp2_with (first | ((with_reducible refine gate_callee (f := 26) rfl ?_); refine goesL_ (some 37) rfl rfl Tryd.func26 (by kernel_rfl) rfl #[.slice Ao82 t194.length co82, .int .i64 0] rfl (by (try simp only [zm1, zm2, zm3]); first | done | rfl | (simp only [List.length_drop, List.length_take]; rfl) | (simp only [Int.emod_add_emod, Int.add_emod_emod]; rfl)) ?_; (with_reducible refine (num_Get.calls k _ _ t194 0 t199 t200 t201 _ ?side1 ?side2 A4.out).mono ?_); (case side1 => repeat (first | exact (Kd.R_reads' HO197.out).2.2 | (with_reducible refine Kd.C_alloc ?_ _) | (with_reducible refine Kd.C_drewN ?_ _) | (with_reducible refine Kd.C_drew ?_))); (case side2 => exact (Kd.R_reads' HO197.out).2.1); rintro e w' ⟨rfl, ⟨nd, rfl⟩⟩; refine ⟨_, rfl, ?_⟩; (try (rw [drewN_self w81]; generalize hq_ : World.drewN w81 _ = w81; have n0_ : Aside0 (Kd.R (Kd.int .u8) 5 w81 w.heap.size (fun _ => True) (.slice Ao82 t194.length co82) t194) := ⟨by rw [← hq_]; exact (by (with_reducible repeat (first | apply Kd.R_alloc | apply Kd.R_drewN | apply Kd.R_drew)); exact HO197.out)⟩; have n1_ : Aside0 (w81.heap[gb193]? = some (.cells #[.int .i64 0, .int .i64 0, .int .i64 0, .slice none 0 0] 26 (0, 0))) := ⟨by rw [← hq_]; exact (by (with_reducible repeat (first | refine zc3 ?_ _ | refine zc4 ?_ | refine zc2 ?_ _)); exact BK193.out)⟩; have n2_ : Aside0 (w81.heap[gb198]? = some (.cells #[.int .i64 0, .int .i64 0, .int .i64 0, .slice none 0 0] 26 (0, 0))) := ⟨by rw [← hq_]; exact (by (with_reducible repeat (first | refine zc3 ?_ _ | refine zc4 ?_ | refine zc2 ?_ _)); exact BK198.out)⟩; have n3_ : Aside0 (Below w.heap.size w w81) := ⟨by rw [← hq_]; exact (by repeat (first | (with_reducible first | exact HB.out | apply zb3 | apply zb1 | apply zb2 | refine zb4 ?_ GE193.out | refine zb4 ?_ GE198.out) | exact HB.out))⟩; have n9_ : Aside0 (w81.heap[gp_]? = some (.cells #[.pointer (some ⟨gb198, 0, none⟩), .pointer (some ⟨gb198, 1, none⟩), .pointer (some ⟨gb198, 2, none⟩)] 72 (0, 0))) := ⟨by rw [← hq_]; exact (by (with_reducible repeat (first | refine zc3 ?_ _ | refine zc4 ?_ | refine zc2 ?_ _)); exact hbp0_.out)⟩; clear hbp0_; clear HO197 BK193 BK198 HB hq_; have hbp0_ := n9_; clear n9_; have HO197 := n0_; have BK193 := n1_; have BK198 := n2_; have HB := n3_; clear n0_ n1_ n2_ n3_)); have hnb83 := NB198_193.out; have hnc83 := NB193_198.out; have hcz84_0 : w81.cell? ⟨gb198, 0, none⟩ = some (.int .i64 0) := (zc1 BK198.out 0).trans rfl; have hcz84_1 : w81.cell? ⟨gb198, 1, none⟩ = some (.int .i64 0) := (zc1 BK198.out 1).trans rfl; have hcz84_2 : w81.cell? ⟨gb198, 2, none⟩ = some (.int .i64 0) := (zc1 BK198.out 2).trans rfl; have hcz84_3 : w81.cell? ⟨gb198, 3, none⟩ = some (.slice none 0 0) := (zc1 BK198.out 3).trans rfl; have hfz84_0 := zc5 BK198.out 0; have hfz84_1 := zc5 BK198.out 1; have hfz84_2 := zc5 BK198.out 2; have hfz84_3 := zc5 BK198.out 3; (try (have hp0_ : w81.cell? ⟨gp_, 0, none⟩ = some (.pointer (some ⟨gb198, 0, none⟩)) := (zc1 hbp0_.out 0).trans rfl; have hp1_ : w81.cell? ⟨gp_, 1, none⟩ = some (.pointer (some ⟨gb198, 1, none⟩)) := (zc1 hbp0_.out 1).trans rfl; have hp2_ : w81.cell? ⟨gp_, 2, none⟩ = some (.pointer (some ⟨gb198, 2, none⟩)) := (zc1 hbp0_.out 2).trans rfl))))
     (try rw [show wrap64 (0 + 1) = 1 by unfold wrap64; omega])
     rw [rounds_succ]
     go_wp2_with (first | ((with_reducible refine gate_callee (f := 26) rfl ?_); refine goesL_ (some 37) rfl rfl Tryd.func26 (by kernel_rfl) rfl #[.slice Ao82 t194.length co82, .int .i64 t200] rfl (by (try simp only [zm1, zm2, zm3]); first | done | rfl | (simp only [List.length_drop, List.length_take]; rfl) | (simp only [Int.emod_add_emod, Int.add_emod_emod]; rfl)) ?_; (with_reducible refine (num_Get.calls k _ _ t194 t200 t202 t203 t204 _ ?side1 ?side2 A6.out).mono ?_); (case side1 => refine (Kd.R_reads' (e := 5) (base := w.heap.size) (ok := fun k_ => True) (n := t194.length) (c := co82) ?_).2.2; exact (by (with_reducible repeat (first | apply Kd.R_alloc | apply Kd.R_drewN | apply Kd.R_drew)); exact (Kd.R_mono (Kd.R_far (p := ⟨gb198, 0, none⟩) (Kd.R_types HO197.out BK198.out (by decide)) (fun _ hk => hk.2) (.int .i64 t199)) (fun _ h_ => h_.1)))); (case side2 => exact (Kd.R_reads' HO197.out).2.1); rintro e w' ⟨rfl, ⟨nd, rfl⟩⟩; refine ⟨_, rfl, ?_⟩))
     (try rw [show wrap64 (1 + 1) = 2 by unfold wrap64; omega])
     rw [rounds_succ]
     go_wp2_with (first | ((with_reducible refine gate_callee (f := 26) rfl ?_); refine goesL_ (some 37) rfl rfl Tryd.func26 (by kernel_rfl) rfl #[.slice Ao82 t194.length co82, .int .i64 t203] rfl (by (try simp only [zm1, zm2, zm3]); first | done | rfl | (simp only [List.length_drop, List.length_take]; rfl) | (simp only [Int.emod_add_emod, Int.add_emod_emod]; rfl)) ?_; (with_reducible refine (num_Get.calls k _ _ t194 t203 t205 t206 t207 _ ?side1 ?side2 A8.out).mono ?_); (case side1 => refine (Kd.R_reads' (e := 5) (base := w.heap.size) (ok := fun k_ => True) (n := t194.length) (c := co82) ?_).2.2; exact (by (with_reducible repeat (first | apply Kd.R_alloc | apply Kd.R_drewN | apply Kd.R_drew)); exact (Kd.R_mono (Kd.R_far (p := ⟨gb198, 1, none⟩) (Kd.R_far (p := ⟨gb198, 0, none⟩) (Kd.R_types HO197.out BK198.out (by decide)) (fun _ hk => hk.2) (.int .i64 t199)) (fun _ hk => hk.2) (.int .i64 t202)) (fun _ h_ => h_.1)))); (case side2 => exact (Kd.R_reads' HO197.out).2.1); rintro e w' ⟨rfl, ⟨nd, rfl⟩⟩; refine ⟨_, rfl, ?_⟩; have hcz85_0 : w81.cell? ⟨gb193, 0, none⟩ = some (.int .i64 0) := (zc1 BK193.out 0).trans rfl; have hcz85_1 : w81.cell? ⟨gb193, 1, none⟩ = some (.int .i64 0) := (zc1 BK193.out 1).trans rfl; have hcz85_2 : w81.cell? ⟨gb193, 2, none⟩ = some (.int .i64 0) := (zc1 BK193.out 2).trans rfl; have hcz85_3 : w81.cell? ⟨gb193, 3, none⟩ = some (.slice none 0 0) := (zc1 BK193.out 3).trans rfl; have hfz85_0 := zc5 BK193.out 0; have hfz85_1 := zc5 BK193.out 1; have hfz85_2 := zc5 BK193.out 2; have hfz85_3 := zc5 BK193.out 3))
     refine bodyPost_ret (results_ct rfl _ _ gb193 26 #[.int .i64 0, .int .i64 0, .int .i64 0, .slice none 0 0] (0, 0) _ rfl (by (with_reducible repeat (first | refine zc3 ?_ _ | refine zc4 ?_ | refine zc2 ?_ _)); refine blk_put (cs := #[.int .i64 0, .int .i64 0, .int .i64 0, .slice none 0 0]) ?_ 3 _ rfl; (with_reducible repeat (first | refine zc3 ?_ _ | refine zc4 ?_ | refine zc2 ?_ _)); refine blk_put (cs := #[.int .i64 0, .int .i64 0, .int .i64 0, .slice none 0 0]) ?_ 2 _ rfl; (with_reducible repeat (first | refine zc3 ?_ _ | refine zc4 ?_ | refine zc2 ?_ _)); refine blk_put (cs := #[.int .i64 0, .int .i64 0, .int .i64 0, .slice none 0 0]) ?_ 1 _ rfl; (with_reducible repeat (first | refine zc3 ?_ _ | refine zc4 ?_ | refine zc2 ?_ _)); refine blk_put (cs := #[.int .i64 0, .int .i64 0, .int .i64 0, .slice none 0 0]) ?_ 0 _ rfl; (with_reducible repeat (first | refine zc3 ?_ _ | refine zc4 ?_ | refine zc2 ?_ _)); refine zc7 ?_ NB193_198.out _; (with_reducible repeat (first | refine zc3 ?_ _ | refine zc4 ?_ | refine zc2 ?_ _)); refine zc7 ?_ NB193_198.out _; (with_reducible repeat (first | refine zc3 ?_ _ | refine zc4 ?_ | refine zc2 ?_ _)); refine zc7 ?_ NB193_198.out _; (with_reducible repeat (first | refine zc3 ?_ _ | refine zc4 ?_ | refine zc2 ?_ _)); exact BK193.out) Tryd.underlying26 rfl (by kernel_rfl)) rfl ?_
     exact ⟨_, by first | rfl | (simp [*] <;> rfl), by first | exact Kd.R_nil _ _ _ _ _ | exact Kd.N_nil _ _ _ _ _ | exact Kd.V_nil _ _ _ _ _ | exact Kd.Q_nil _ _ _ _ _ | exact Kd.S_nil _ _ _ _ _, by repeat (first | (with_reducible first | exact HB.out | apply zb3 | apply zb1 | apply zb2 | refine zb4 ?_ GE193.out | refine zb4 ?_ GE198.out) | exact HB.out)⟩
   ·rw [if_neg c7] at H
    have c7b0 : (t204 == 0) = false := beq_eq_false_iff_ne.mpr c7
    have c7b1 : (t204 != 0) = true := bne_iff_ne.mpr c7
    simp only [Option.some.injEq, Prod.mk.injEq] at H
    obtain ⟨rfl, rfl, rfl, rfl, rfl⟩ := H
    go_enter Tryd.func27, Tryd.ntmps27
    go_wp2_with (first | ((with_reducible refine gate_dst (N := 2) rfl ?_); refine box_event ?hg (N := 2) ?hd (cs := #[.int .i64 0, .int .i64 0, .int .i64 0, .slice none 0 0]) (t := 26) ?hr ?_; (case hd => rfl); (case hg => rfl); (case hr => first | (go_simp; done) | (go_simp; rfl)); intro gb193 hg w86 hbox hb; have n0_ := zA (zb5 (by repeat (first | (with_reducible first | exact HB.out | apply zb3 | apply zb1 | apply zb2) | exact HB.out)) hb); have n1_ := zA (hbox); have n2_ := zA ((by rw [hg]; exact (zb6 (by repeat (first | (with_reducible first | exact HB.out | apply zb3 | apply zb1 | apply zb2) | exact HB.out))) : w.heap.size ≤ gb193)); have n3_ := zA ((by rw [hg]; exact (zb6 (by repeat (first | (with_reducible first | exact HB.out | apply zb3 | apply zb1 | apply zb2) | exact HB.out))) : w.heap.size ≤ gb193)); clear HB; have HB := n0_; have BK193 := n1_; have GW193 := n2_; have GE193 := n3_; clear n0_ n1_ n2_ n3_; clear hb hbox hg) | ((with_reducible refine gate_callee (f := 25) rfl ?_); refine goesL_ (some 17) rfl rfl Tryd.func25 (by kernel_rfl) rfl #[.slice A0 l0.length c0] rfl (by (try simp only [zm1, zm2, zm3]); first | done | rfl | (simp only [List.length_drop, List.length_take]; rfl) | (simp only [Int.emod_add_emod, Int.add_emod_emod]; rfl)) ?_; (with_reducible refine (crc_Open.calls _ _ l0 t194 t195 _ ?side1 ?side2 A2.out ?sideG).mono ?_); (case sideG => first | exact hG.below (by repeat (first | (with_reducible first | exact HB.out | apply zb3 | apply zb1 | apply zb2 | refine zb4 ?_ GE193.out | refine zb4 ?_ GE198.out | refine zb4 ?_ GE210.out) | exact HB.out | exact Below.refl _ _)) | exact hG); (case side1 => repeat (first | exact (Kd.C_below HR0.out HB.out) | (with_reducible refine Kd.C_alloc ?_ _) | (with_reducible refine Kd.C_drewN ?_ _) | (with_reducible refine Kd.C_drew ?_))); (case side2 => exact HC0.out); rintro e w87 ⟨v196, rfl, ho0, hb⟩; refine ⟨_, rfl, ?_⟩; have n0_ := zA (Kd.R_lower ho0 (zb6 (by repeat (first | (with_reducible first | exact HB.out | apply zb3 | apply zb1 | apply zb2 | refine zb4 ?_ GE193.out) | exact HB.out)))); have n1_ := zA (zc6 (g := gb193) (o := .cells #[.int .i64 0, .int .i64 0, .int .i64 0, .slice none 0 0] 26 (0, 0)) (by (with_reducible repeat (first | refine zc3 ?_ _ | refine zc4 ?_ | refine zc2 ?_ _)); exact BK193.out) hb); have n2_ := zA (zb5 (by repeat (first | (with_reducible first | exact HB.out | apply zb3 | apply zb1 | apply zb2 | refine zb4 ?_ GE193.out) | exact HB.out)) hb); clear BK193; clear HB; have HO197 := n0_; have BK193 := n1_; have HB := n2_; clear n0_ n1_ n2_; (try clear hb); (try clear hb2); (try clear hk); (try clear hi); (try clear ho0)) | ((with_reducible refine gate_dst (N := 5) rfl ?_); refine box_event ?hg (N := 5) ?hd (cs := #[.int .i64 0, .int .i64 0, .int .i64 0, .slice none 0 0]) (t := 26) ?hr ?_; (case hd => rfl); (case hg => rfl); (case hr => first | (go_simp; done) | (go_simp; rfl)); intro gb198 hg wq_ hbox hb; have n0_ := zA (Kd.R_below (by (with_reducible repeat (first | apply Kd.R_alloc | apply Kd.R_drewN | apply Kd.R_drew)); exact HO197.out) hb); have n1_ := zA (zc6 (g := gb193) (o := .cells #[.int .i64 0, .int .i64 0, .int .i64 0, .slice none 0 0] 26 (0, 0)) (by (with_reducible repeat (first | refine zc3 ?_ _ | refine zc4 ?_ | refine zc2 ?_ _)); exact BK193.out) hb); have n2_ := zA (zb5 (by repeat (first | (with_reducible first | exact HB.out | apply zb3 | apply zb1 | apply zb2 | refine zb4 ?_ GE193.out) | exact HB.out)) hb); have n3_ := zA (hbox); have n4_ := zA ((by rw [hg]; exact (zb6 (by repeat (first | (with_reducible first | exact HB.out | apply zb3 | apply zb1 | apply zb2 | refine zb4 ?_ GE193.out) | exact HB.out))) : w.heap.size ≤ gb198)); have n5_ := zA ((by rw [hg]; exact (zb6 (by repeat (first | (with_reducible first | exact HB.out | apply zb3 | apply zb1 | apply zb2 | refine zb4 ?_ GE193.out) | exact HB.out))) : w.heap.size ≤ gb198)); have n6_ := zA ((by rw [hg]; exact Nat.ne_of_lt (blk_lt (g := gb193) (o := .cells #[.int .i64 0, .int .i64 0, .int .i64 0, .slice none 0 0] 26 (0, 0)) (by (with_reducible repeat (first | refine zc3 ?_ _ | refine zc4 ?_ | refine zc2 ?_ _)); exact BK193.out)) : gb193 ≠ gb198)); have n7_ := zA ((by rw [hg]; exact Nat.ne_of_gt (blk_lt (g := gb193) (o := .cells #[.int .i64 0, .int .i64 0, .int .i64 0, .slice none 0 0] 26 (0, 0)) (by (with_reducible repeat (first | refine zc3 ?_ _ | refine zc4 ?_ | refine zc2 ?_ _)); exact BK193.out)) : gb198 ≠ gb193)); clear HO197; clear BK193; clear HB; have HO197 := n0_; have BK193 := n1_; have HB := n2_; have BK198 := n3_; have GW198 := n4_; have GE198 := n5_; have NB193_198 := n6_; have NB198_193 := n7_; clear n0_ n1_ n2_ n3_ n4_ n5_ n6_ n7_; clear hb hbox hg; obtain ⟨Ao89, co89, eo89⟩ := Kd.R_slice HO197.out; subst eo89) | ((with_reducible refine gate_dst (N := 27) rfl ?_); refine row_event ?hg (N := 27) ?hd (cs := #[.pointer (some ⟨gb198, 0, none⟩), .pointer (some ⟨gb198, 1, none⟩), .pointer (some ⟨gb198, 2, none⟩)]) (t := 72) (n := 3) ?hr ?_; (case hd => rfl); (case hg => rfl); (case hr => first | (go_simp; done) | (go_simp; rfl)); intro gp_ hgp_ w88 hbp_ hbp2_; have n0_ := zA (Kd.R_below HO197.out hbp2_); have n1_ := zA (zc6 BK193.out hbp2_); have n2_ := zA (zc6 BK198.out hbp2_); have n3_ := zA (zb5 HB.out hbp2_); have hgn_ : gp_ ≠ gb198 := (by rw [hgp_]; exact Nat.ne_of_gt (blk_lt BK198.out)); have hgm_ : gb198 ≠ gp_ := hgn_.symm; have hbp0_ := zA hbp_; clear HO197 BK193 BK198 HB; have HO197 := n0_; have BK193 := n1_; have BK198 := n2_; have HB := n3_; clear n0_ n1_ n2_ n3_ hbp_ hbp2_ hgp_; have hp0_ : w88.cell? ⟨gp_, 0, none⟩ = some (.pointer (some ⟨gb198, 0, none⟩)) := (zc1 hbp0_.out 0).trans rfl; have hp1_ : w88.cell? ⟨gp_, 1, none⟩ = some (.pointer (some ⟨gb198, 1, none⟩)) := (zc1 hbp0_.out 1).trans rfl; have hp2_ : w88.cell? ⟨gp_, 2, none⟩ = some (.pointer (some ⟨gb198, 2, none⟩)) := (zc1 hbp0_.out 2).trans rfl))
    refine wp_loop_rounds 4 ?_
    rw [rounds_succ]
    go_wp2_with (first | ((with_reducible refine gate_callee (f := 26) rfl ?_); refine goesL_ (some 37) rfl rfl Tryd.func26 (by kernel_rfl) rfl #[.slice Ao89 t194.length co89, .int .i64 0] rfl (by (try simp only [zm1, zm2, zm3]); first | done | rfl | (simp only [List.length_drop, List.length_take]; rfl) | (simp only [Int.emod_add_emod, Int.add_emod_emod]; rfl)) ?_; (with_reducible refine (num_Get.calls k _ _ t194 0 t199 t200 t201 _ ?side1 ?side2 A4.out).mono ?_); (case side1 => repeat (first | exact (Kd.R_reads' HO197.out).2.2 | (with_reducible refine Kd.C_alloc ?_ _) | (with_reducible refine Kd.C_drewN ?_ _) | (with_reducible refine Kd.C_drew ?_))); (case side2 => exact (Kd.R_reads' HO197.out).2.1); rintro e w' ⟨rfl, ⟨nd, rfl⟩⟩; refine ⟨_, rfl, ?_⟩; (try (rw [drewN_self w88]; generalize hq_ : World.drewN w88 _ = w88; have n0_ : Aside0 (Kd.R (Kd.int .u8) 5 w88 w.heap.size (fun _ => True) (.slice Ao89 t194.length co89) t194) := ⟨by rw [← hq_]; exact (by (with_reducible repeat (first | apply Kd.R_alloc | apply Kd.R_drewN | apply Kd.R_drew)); exact HO197.out)⟩; have n1_ : Aside0 (w88.heap[gb193]? = some (.cells #[.int .i64 0, .int .i64 0, .int .i64 0, .slice none 0 0] 26 (0, 0))) := ⟨by rw [← hq_]; exact (by (with_reducible repeat (first | refine zc3 ?_ _ | refine zc4 ?_ | refine zc2 ?_ _)); exact BK193.out)⟩; have n2_ : Aside0 (w88.heap[gb198]? = some (.cells #[.int .i64 0, .int .i64 0, .int .i64 0, .slice none 0 0] 26 (0, 0))) := ⟨by rw [← hq_]; exact (by (with_reducible repeat (first | refine zc3 ?_ _ | refine zc4 ?_ | refine zc2 ?_ _)); exact BK198.out)⟩; have n3_ : Aside0 (Below w.heap.size w w88) := ⟨by rw [← hq_]; exact (by repeat (first | (with_reducible first | exact HB.out | apply zb3 | apply zb1 | apply zb2 | refine zb4 ?_ GE193.out | refine zb4 ?_ GE198.out) | exact HB.out))⟩; have n9_ : Aside0 (w88.heap[gp_]? = some (.cells #[.pointer (some ⟨gb198, 0, none⟩), .pointer (some ⟨gb198, 1, none⟩), .pointer (some ⟨gb198, 2, none⟩)] 72 (0, 0))) := ⟨by rw [← hq_]; exact (by (with_reducible repeat (first | refine zc3 ?_ _ | refine zc4 ?_ | refine zc2 ?_ _)); exact hbp0_.out)⟩; clear hbp0_; clear HO197 BK193 BK198 HB hq_; have hbp0_ := n9_; clear n9_; have HO197 := n0_; have BK193 := n1_; have BK198 := n2_; have HB := n3_; clear n0_ n1_ n2_ n3_)); have hnb90 := NB198_193.out; have hnc90 := NB193_198.out; have hcz91_0 : w88.cell? ⟨gb198, 0, none⟩ = some (.int .i64 0) := (zc1 BK198.out 0).trans rfl; have hcz91_1 : w88.cell? ⟨gb198, 1, none⟩ = some (.int .i64 0) := (zc1 BK198.out 1).trans rfl; have hcz91_2 : w88.cell? ⟨gb198, 2, none⟩ = some (.int .i64 0) := (zc1 BK198.out 2).trans rfl; have hcz91_3 : w88.cell? ⟨gb198, 3, none⟩ = some (.slice none 0 0) := (zc1 BK198.out 3).trans rfl; have hfz91_0 := zc5 BK198.out 0; have hfz91_1 := zc5 BK198.out 1; have hfz91_2 := zc5 BK198.out 2; have hfz91_3 := zc5 BK198.out 3; (try (have hp0_ : w88.cell? ⟨gp_, 0, none⟩ = some (.pointer (some ⟨gb198, 0, none⟩)) := (zc1 hbp0_.out 0).trans rfl; have hp1_ : w88.cell? ⟨gp_, 1, none⟩ = some (.pointer (some ⟨gb198, 1, none⟩)) := (zc1 hbp0_.out 1).trans rfl; have hp2_ : w88.cell? ⟨gp_, 2, none⟩ = some (.pointer (some ⟨gb198, 2, none⟩)) := (zc1 hbp0_.out 2).trans rfl))))
    (try rw [show wrap64 (0 + 1) = 1 by unfold wrap64; omega])
    rw [rounds_succ]
    go_wp2_with (first | ((with_reducible refine gate_callee (f := 26) rfl ?_); refine goesL_ (some 37) rfl rfl Tryd.func26 (by kernel_rfl) rfl #[.slice Ao89 t194.length co89, .int .i64 t200] rfl (by (try simp only [zm1, zm2, zm3]); first | done | rfl | (simp only [List.length_drop, List.length_take]; rfl) | (simp only [Int.emod_add_emod, Int.add_emod_emod]; rfl)) ?_; (with_reducible refine (num_Get.calls k _ _ t194 t200 t202 t203 t204 _ ?side1 ?side2 A6.out).mono ?_); (case side1 => refine (Kd.R_reads' (e := 5) (base := w.heap.size) (ok := fun k_ => True) (n := t194.length) (c := co89) ?_).2.2; exact (by (with_reducible repeat (first | apply Kd.R_alloc | apply Kd.R_drewN | apply Kd.R_drew)); exact (Kd.R_mono (Kd.R_far (p := ⟨gb198, 0, none⟩) (Kd.R_types HO197.out BK198.out (by decide)) (fun _ hk => hk.2) (.int .i64 t199)) (fun _ h_ => h_.1)))); (case side2 => exact (Kd.R_reads' HO197.out).2.1); rintro e w' ⟨rfl, ⟨nd, rfl⟩⟩; refine ⟨_, rfl, ?_⟩; have hcz92_0 : w88.cell? ⟨gb193, 0, none⟩ = some (.int .i64 0) := (zc1 BK193.out 0).trans rfl; have hcz92_1 : w88.cell? ⟨gb193, 1, none⟩ = some (.int .i64 0) := (zc1 BK193.out 1).trans rfl; have hcz92_2 : w88.cell? ⟨gb193, 2, none⟩ = some (.int .i64 0) := (zc1 BK193.out 2).trans rfl; have hcz92_3 : w88.cell? ⟨gb193, 3, none⟩ = some (.slice none 0 0) := (zc1 BK193.out 3).trans rfl; have hfz92_0 := zc5 BK193.out 0; have hfz92_1 := zc5 BK193.out 1; have hfz92_2 := zc5 BK193.out 2; have hfz92_3 := zc5 BK193.out 3))
    refine bodyPost_ret (results_ct rfl _ _ gb193 26 #[.int .i64 0, .int .i64 0, .int .i64 0, .slice none 0 0] (0, 0) _ rfl (by (with_reducible repeat (first | refine zc3 ?_ _ | refine zc4 ?_ | refine zc2 ?_ _)); refine blk_put (cs := #[.int .i64 0, .int .i64 0, .int .i64 0, .slice none 0 0]) ?_ 3 _ rfl; (with_reducible repeat (first | refine zc3 ?_ _ | refine zc4 ?_ | refine zc2 ?_ _)); refine blk_put (cs := #[.int .i64 0, .int .i64 0, .int .i64 0, .slice none 0 0]) ?_ 2 _ rfl; (with_reducible repeat (first | refine zc3 ?_ _ | refine zc4 ?_ | refine zc2 ?_ _)); refine blk_put (cs := #[.int .i64 0, .int .i64 0, .int .i64 0, .slice none 0 0]) ?_ 1 _ rfl; (with_reducible repeat (first | refine zc3 ?_ _ | refine zc4 ?_ | refine zc2 ?_ _)); refine blk_put (cs := #[.int .i64 0, .int .i64 0, .int .i64 0, .slice none 0 0]) ?_ 0 _ rfl; (with_reducible repeat (first | refine zc3 ?_ _ | refine zc4 ?_ | refine zc2 ?_ _)); refine zc7 ?_ NB193_198.out _; (with_reducible repeat (first | refine zc3 ?_ _ | refine zc4 ?_ | refine zc2 ?_ _)); refine zc7 ?_ NB193_198.out _; (with_reducible repeat (first | refine zc3 ?_ _ | refine zc4 ?_ | refine zc2 ?_ _)); exact BK193.out) Tryd.underlying26 rfl (by kernel_rfl)) rfl ?_
    exact ⟨_, by first | rfl | (simp [*] <;> rfl), by first | exact Kd.R_nil _ _ _ _ _ | exact Kd.N_nil _ _ _ _ _ | exact Kd.V_nil _ _ _ _ _ | exact Kd.Q_nil _ _ _ _ _ | exact Kd.S_nil _ _ _ _ _, by repeat (first | (with_reducible first | exact HB.out | apply zb3 | apply zb1 | apply zb2 | refine zb4 ?_ GE193.out | refine zb4 ?_ GE198.out) | exact HB.out)⟩
  ·rw [if_neg c5] at H
   have c5b0 : (t201 == 0) = false := beq_eq_false_iff_ne.mpr c5
   have c5b1 : (t201 != 0) = true := bne_iff_ne.mpr c5
   simp only [Option.some.injEq, Prod.mk.injEq] at H
   obtain ⟨rfl, rfl, rfl, rfl, rfl⟩ := H
   go_enter Tryd.func27, Tryd.ntmps27
   go_wp2_with (first | ((with_reducible refine gate_dst (N := 2) rfl ?_); refine box_event ?hg (N := 2) ?hd (cs := #[.int .i64 0, .int .i64 0, .int .i64 0, .slice none 0 0]) (t := 26) ?hr ?_; (case hd => rfl); (case hg => rfl); (case hr => first | (go_simp; done) | (go_simp; rfl)); intro gb193 hg w93 hbox hb; have n0_ := zA (zb5 (by repeat (first | (with_reducible first | exact HB.out | apply zb3 | apply zb1 | apply zb2) | exact HB.out)) hb); have n1_ := zA (hbox); have n2_ := zA ((by rw [hg]; exact (zb6 (by repeat (first | (with_reducible first | exact HB.out | apply zb3 | apply zb1 | apply zb2) | exact HB.out))) : w.heap.size ≤ gb193)); have n3_ := zA ((by rw [hg]; exact (zb6 (by repeat (first | (with_reducible first | exact HB.out | apply zb3 | apply zb1 | apply zb2) | exact HB.out))) : w.heap.size ≤ gb193)); clear HB; have HB := n0_; have BK193 := n1_; have GW193 := n2_; have GE193 := n3_; clear n0_ n1_ n2_ n3_; clear hb hbox hg) | ((with_reducible refine gate_callee (f := 25) rfl ?_); refine goesL_ (some 17) rfl rfl Tryd.func25 (by kernel_rfl) rfl #[.slice A0 l0.length c0] rfl (by (try simp only [zm1, zm2, zm3]); first | done | rfl | (simp only [List.length_drop, List.length_take]; rfl) | (simp only [Int.emod_add_emod, Int.add_emod_emod]; rfl)) ?_; (with_reducible refine (crc_Open.calls _ _ l0 t194 t195 _ ?side1 ?side2 A2.out ?sideG).mono ?_); (case sideG => first | exact hG.below (by repeat (first | (with_reducible first | exact HB.out | apply zb3 | apply zb1 | apply zb2 | refine zb4 ?_ GE193.out | refine zb4 ?_ GE198.out | refine zb4 ?_ GE210.out) | exact HB.out | exact Below.refl _ _)) | exact hG); (case side1 => repeat (first | exact (Kd.C_below HR0.out HB.out) | (with_reducible refine Kd.C_alloc ?_ _) | (with_reducible refine Kd.C_drewN ?_ _) | (with_reducible refine Kd.C_drew ?_))); (case side2 => exact HC0.out); rintro e w94 ⟨v196, rfl, ho0, hb⟩; refine ⟨_, rfl, ?_⟩; have n0_ := zA (Kd.R_lower ho0 (zb6 (by repeat (first | (with_reducible first | exact HB.out | apply zb3 | apply zb1 | apply zb2 | refine zb4 ?_ GE193.out) | exact HB.out)))); have n1_ := zA (zc6 (g := gb193) (o := .cells #[.int .i64 0, .int .i64 0, .int .i64 0, .slice none 0 0] 26 (0, 0)) (by (with_reducible repeat (first | refine zc3 ?_ _ | refine zc4 ?_ | refine zc2 ?_ _)); exact BK193.out) hb); have n2_ := zA (zb5 (by repeat (first | (with_reducible first | exact HB.out | apply zb3 | apply zb1 | apply zb2 | refine zb4 ?_ GE193.out) | exact HB.out)) hb); clear BK193; clear HB; have HO197 := n0_; have BK193 := n1_; have HB := n2_; clear n0_ n1_ n2_; (try clear hb); (try clear hb2); (try clear hk); (try clear hi); (try clear ho0)) | ((with_reducible refine gate_dst (N := 5) rfl ?_); refine box_event ?hg (N := 5) ?hd (cs := #[.int .i64 0, .int .i64 0, .int .i64 0, .slice none 0 0]) (t := 26) ?hr ?_; (case hd => rfl); (case hg => rfl); (case hr => first | (go_simp; done) | (go_simp; rfl)); intro gb198 hg wq_ hbox hb; have n0_ := zA (Kd.R_below (by (with_reducible repeat (first | apply Kd.R_alloc | apply Kd.R_drewN | apply Kd.R_drew)); exact HO197.out) hb); have n1_ := zA (zc6 (g := gb193) (o := .cells #[.int .i64 0, .int .i64 0, .int .i64 0, .slice none 0 0] 26 (0, 0)) (by (with_reducible repeat (first | refine zc3 ?_ _ | refine zc4 ?_ | refine zc2 ?_ _)); exact BK193.out) hb); have n2_ := zA (zb5 (by repeat (first | (with_reducible first | exact HB.out | apply zb3 | apply zb1 | apply zb2 | refine zb4 ?_ GE193.out) | exact HB.out)) hb); have n3_ := zA (hbox); have n4_ := zA ((by rw [hg]; exact (zb6 (by repeat (first | (with_reducible first | exact HB.out | apply zb3 | apply zb1 | apply zb2 | refine zb4 ?_ GE193.out) | exact HB.out))) : w.heap.size ≤ gb198)); have n5_ := zA ((by rw [hg]; exact (zb6 (by repeat (first | (with_reducible first | exact HB.out | apply zb3 | apply zb1 | apply zb2 | refine zb4 ?_ GE193.out) | exact HB.out))) : w.heap.size ≤ gb198)); have n6_ := zA ((by rw [hg]; exact Nat.ne_of_lt (blk_lt (g := gb193) (o := .cells #[.int .i64 0, .int .i64 0, .int .i64 0, .slice none 0 0] 26 (0, 0)) (by (with_reducible repeat (first | refine zc3 ?_ _ | refine zc4 ?_ | refine zc2 ?_ _)); exact BK193.out)) : gb193 ≠ gb198)); have n7_ := zA ((by rw [hg]; exact Nat.ne_of_gt (blk_lt (g := gb193) (o := .cells #[.int .i64 0, .int .i64 0, .int .i64 0, .slice none 0 0] 26 (0, 0)) (by (with_reducible repeat (first | refine zc3 ?_ _ | refine zc4 ?_ | refine zc2 ?_ _)); exact BK193.out)) : gb198 ≠ gb193)); clear HO197; clear BK193; clear HB; have HO197 := n0_; have BK193 := n1_; have HB := n2_; have BK198 := n3_; have GW198 := n4_; have GE198 := n5_; have NB193_198 := n6_; have NB198_193 := n7_; clear n0_ n1_ n2_ n3_ n4_ n5_ n6_ n7_; clear hb hbox hg; obtain ⟨Ao96, co96, eo96⟩ := Kd.R_slice HO197.out; subst eo96) | ((with_reducible refine gate_dst (N := 27) rfl ?_); refine row_event ?hg (N := 27) ?hd (cs := #[.pointer (some ⟨gb198, 0, none⟩), .pointer (some ⟨gb198, 1, none⟩), .pointer (some ⟨gb198, 2, none⟩)]) (t := 72) (n := 3) ?hr ?_; (case hd => rfl); (case hg => rfl); (case hr => first | (go_simp; done) | (go_simp; rfl)); intro gp_ hgp_ w95 hbp_ hbp2_; have n0_ := zA (Kd.R_below HO197.out hbp2_); have n1_ := zA (zc6 BK193.out hbp2_); have n2_ := zA (zc6 BK198.out hbp2_); have n3_ := zA (zb5 HB.out hbp2_); have hgn_ : gp_ ≠ gb198 := (by rw [hgp_]; exact Nat.ne_of_gt (blk_lt BK198.out)); have hgm_ : gb198 ≠ gp_ := hgn_.symm; have hbp0_ := zA hbp_; clear HO197 BK193 BK198 HB; have HO197 := n0_; have BK193 := n1_; have BK198 := n2_; have HB := n3_; clear n0_ n1_ n2_ n3_ hbp_ hbp2_ hgp_; have hp0_ : w95.cell? ⟨gp_, 0, none⟩ = some (.pointer (some ⟨gb198, 0, none⟩)) := (zc1 hbp0_.out 0).trans rfl; have hp1_ : w95.cell? ⟨gp_, 1, none⟩ = some (.pointer (some ⟨gb198, 1, none⟩)) := (zc1 hbp0_.out 1).trans rfl; have hp2_ : w95.cell? ⟨gp_, 2, none⟩ = some (.pointer (some ⟨gb198, 2, none⟩)) := (zc1 hbp0_.out 2).trans rfl))
   refine wp_loop_rounds 4 ?_
   rw [rounds_succ]
   go_wp2_with (first | ((with_reducible refine gate_callee (f := 26) rfl ?_); refine goesL_ (some 37) rfl rfl Tryd.func26 (by kernel_rfl) rfl #[.slice Ao96 t194.length co96, .int .i64 0] rfl (by (try simp only [zm1, zm2, zm3]); first | done | rfl | (simp only [List.length_drop, List.length_take]; rfl) | (simp only [Int.emod_add_emod, Int.add_emod_emod]; rfl)) ?_; (with_reducible refine (num_Get.calls k _ _ t194 0 t199 t200 t201 _ ?side1 ?side2 A4.out).mono ?_); (case side1 => repeat (first | exact (Kd.R_reads' HO197.out).2.2 | (with_reducible refine Kd.C_alloc ?_ _) | (with_reducible refine Kd.C_drewN ?_ _) | (with_reducible refine Kd.C_drew ?_))); (case side2 => exact (Kd.R_reads' HO197.out).2.1); rintro e w' ⟨rfl, ⟨nd, rfl⟩⟩; refine ⟨_, rfl, ?_⟩; (try (rw [drewN_self w95]; generalize hq_ : World.drewN w95 _ = w95; have n0_ : Aside0 (Kd.R (Kd.int .u8) 5 w95 w.heap.size (fun _ => True) (.slice Ao96 t194.length co96) t194) := ⟨by rw [← hq_]; exact (by (with_reducible repeat (first | apply Kd.R_alloc | apply Kd.R_drewN | apply Kd.R_drew)); exact HO197.out)⟩; have n1_ : Aside0 (w95.heap[gb193]? = some (.cells #[.int .i64 0, .int .i64 0, .int .i64 0, .slice none 0 0] 26 (0, 0))) := ⟨by rw [← hq_]; exact (by (with_reducible repeat (first | refine zc3 ?_ _ | refine zc4 ?_ | refine zc2 ?_ _)); exact BK193.out)⟩; have n2_ : Aside0 (w95.heap[gb198]? = some (.cells #[.int .i64 0, .int .i64 0, .int .i64 0, .slice none 0 0] 26 (0, 0))) := ⟨by rw [← hq_]; exact (by (with_reducible repeat (first | refine zc3 ?_ _ | refine zc4 ?_ | refine zc2 ?_ _)); exact BK198.out)⟩; have n3_ : Aside0 (Below w.heap.size w w95) := ⟨by rw [← hq_]; exact (by repeat (first | (with_reducible first | exact HB.out | apply zb3 | apply zb1 | apply zb2 | refine zb4 ?_ GE193.out | refine zb4 ?_ GE198.out) | exact HB.out))⟩; have n9_ : Aside0 (w95.heap[gp_]? = some (.cells #[.pointer (some ⟨gb198, 0, none⟩), .pointer (some ⟨gb198, 1, none⟩), .pointer (some ⟨gb198, 2, none⟩)] 72 (0, 0))) := ⟨by rw [← hq_]; exact (by (with_reducible repeat (first | refine zc3 ?_ _ | refine zc4 ?_ | refine zc2 ?_ _)); exact hbp0_.out)⟩; clear hbp0_; clear HO197 BK193 BK198 HB hq_; have hbp0_ := n9_; clear n9_; have HO197 := n0_; have BK193 := n1_; have BK198 := n2_; have HB := n3_; clear n0_ n1_ n2_ n3_)); have hnb97 := NB198_193.out; have hnc97 := NB193_198.out; have hcz98_0 : w95.cell? ⟨gb198, 0, none⟩ = some (.int .i64 0) := (zc1 BK198.out 0).trans rfl; have hcz98_1 : w95.cell? ⟨gb198, 1, none⟩ = some (.int .i64 0) := (zc1 BK198.out 1).trans rfl; have hcz98_2 : w95.cell? ⟨gb198, 2, none⟩ = some (.int .i64 0) := (zc1 BK198.out 2).trans rfl; have hcz98_3 : w95.cell? ⟨gb198, 3, none⟩ = some (.slice none 0 0) := (zc1 BK198.out 3).trans rfl; have hfz98_0 := zc5 BK198.out 0; have hfz98_1 := zc5 BK198.out 1; have hfz98_2 := zc5 BK198.out 2; have hfz98_3 := zc5 BK198.out 3; have hcz99_0 : w95.cell? ⟨gb193, 0, none⟩ = some (.int .i64 0) := (zc1 BK193.out 0).trans rfl; have hcz99_1 : w95.cell? ⟨gb193, 1, none⟩ = some (.int .i64 0) := (zc1 BK193.out 1).trans rfl; have hcz99_2 : w95.cell? ⟨gb193, 2, none⟩ = some (.int .i64 0) := (zc1 BK193.out 2).trans rfl; have hcz99_3 : w95.cell? ⟨gb193, 3, none⟩ = some (.slice none 0 0) := (zc1 BK193.out 3).trans rfl; have hfz99_0 := zc5 BK193.out 0; have hfz99_1 := zc5 BK193.out 1; have hfz99_2 := zc5 BK193.out 2; have hfz99_3 := zc5 BK193.out 3; (try (have hp0_ : w95.cell? ⟨gp_, 0, none⟩ = some (.pointer (some ⟨gb198, 0, none⟩)) := (zc1 hbp0_.out 0).trans rfl; have hp1_ : w95.cell? ⟨gp_, 1, none⟩ = some (.pointer (some ⟨gb198, 1, none⟩)) := (zc1 hbp0_.out 1).trans rfl; have hp2_ : w95.cell? ⟨gp_, 2, none⟩ = some (.pointer (some ⟨gb198, 2, none⟩)) := (zc1 hbp0_.out 2).trans rfl))))
   refine bodyPost_ret (results_ct rfl _ _ gb193 26 #[.int .i64 0, .int .i64 0, .int .i64 0, .slice none 0 0] (0, 0) _ rfl (by (with_reducible repeat (first | refine zc3 ?_ _ | refine zc4 ?_ | refine zc2 ?_ _)); refine blk_put (cs := #[.int .i64 0, .int .i64 0, .int .i64 0, .slice none 0 0]) ?_ 3 _ rfl; (with_reducible repeat (first | refine zc3 ?_ _ | refine zc4 ?_ | refine zc2 ?_ _)); refine blk_put (cs := #[.int .i64 0, .int .i64 0, .int .i64 0, .slice none 0 0]) ?_ 2 _ rfl; (with_reducible repeat (first | refine zc3 ?_ _ | refine zc4 ?_ | refine zc2 ?_ _)); refine blk_put (cs := #[.int .i64 0, .int .i64 0, .int .i64 0, .slice none 0 0]) ?_ 1 _ rfl; (with_reducible repeat (first | refine zc3 ?_ _ | refine zc4 ?_ | refine zc2 ?_ _)); refine blk_put (cs := #[.int .i64 0, .int .i64 0, .int .i64 0, .slice none 0 0]) ?_ 0 _ rfl; (with_reducible repeat (first | refine zc3 ?_ _ | refine zc4 ?_ | refine zc2 ?_ _)); refine zc7 ?_ NB193_198.out _; (with_reducible repeat (first | refine zc3 ?_ _ | refine zc4 ?_ | refine zc2 ?_ _)); exact BK193.out) Tryd.underlying26 rfl (by kernel_rfl)) rfl ?_
   exact ⟨_, by first | rfl | (simp [*] <;> rfl), by first | exact Kd.R_nil _ _ _ _ _ | exact Kd.N_nil _ _ _ _ _ | exact Kd.V_nil _ _ _ _ _ | exact Kd.Q_nil _ _ _ _ _ | exact Kd.S_nil _ _ _ _ _, by repeat (first | (with_reducible first | exact HB.out | apply zb3 | apply zb1 | apply zb2 | refine zb4 ?_ GE193.out | refine zb4 ?_ GE198.out) | exact HB.out)⟩
 ·rw [if_neg c3] at H
  have c3b0 : (t195 == 0) = false := beq_eq_false_iff_ne.mpr c3
  have c3b1 : (t195 != 0) = true := bne_iff_ne.mpr c3
  simp only [Option.some.injEq, Prod.mk.injEq] at H
  obtain ⟨rfl, rfl, rfl, rfl, rfl⟩ := H
  go_enter Tryd.func27, Tryd.ntmps27
  go_wp2_with (first | ((with_reducible refine gate_dst (N := 2) rfl ?_); refine box_event ?hg (N := 2) ?hd (cs := #[.int .i64 0, .int .i64 0, .int .i64 0, .slice none 0 0]) (t := 26) ?hr ?_; (case hd => rfl); (case hg => rfl); (case hr => first | (go_simp; done) | (go_simp; rfl)); intro gb193 hg w100 hbox hb; have n0_ := zA (zb5 (by repeat (first | (with_reducible first | exact HB.out | apply zb3 | apply zb1 | apply zb2) | exact HB.out)) hb); have n1_ := zA (hbox); have n2_ := zA ((by rw [hg]; exact (zb6 (by repeat (first | (with_reducible first | exact HB.out | apply zb3 | apply zb1 | apply zb2) | exact HB.out))) : w.heap.size ≤ gb193)); have n3_ := zA ((by rw [hg]; exact (zb6 (by repeat (first | (with_reducible first | exact HB.out | apply zb3 | apply zb1 | apply zb2) | exact HB.out))) : w.heap.size ≤ gb193)); clear HB; have HB := n0_; have BK193 := n1_; have GW193 := n2_; have GE193 := n3_; clear n0_ n1_ n2_ n3_; clear hb hbox hg) | ((with_reducible refine gate_callee (f := 25) rfl ?_); refine goesL_ (some 17) rfl rfl Tryd.func25 (by kernel_rfl) rfl #[.slice A0 l0.length c0] rfl (by (try simp only [zm1, zm2, zm3]); first | done | rfl | (simp only [List.length_drop, List.length_take]; rfl) | (simp only [Int.emod_add_emod, Int.add_emod_emod]; rfl)) ?_; (with_reducible refine (crc_Open.calls _ _ l0 t194 t195 _ ?side1 ?side2 A2.out ?sideG).mono ?_); (case sideG => first | exact hG.below (by repeat (first | (with_reducible first | exact HB.out | apply zb3 | apply zb1 | apply zb2 | refine zb4 ?_ GE193.out | refine zb4 ?_ GE198.out | refine zb4 ?_ GE210.out) | exact HB.out | exact Below.refl _ _)) | exact hG); (case side1 => repeat (first | exact (Kd.C_below HR0.out HB.out) | (with_reducible refine Kd.C_alloc ?_ _) | (with_reducible refine Kd.C_drewN ?_ _) | (with_reducible refine Kd.C_drew ?_))); (case side2 => exact HC0.out); rintro e w101 ⟨v196, rfl, ho0, hb⟩; refine ⟨_, rfl, ?_⟩; have n0_ := zA (Kd.R_lower ho0 (zb6 (by repeat (first | (with_reducible first | exact HB.out | apply zb3 | apply zb1 | apply zb2 | refine zb4 ?_ GE193.out) | exact HB.out)))); have n1_ := zA (zc6 (g := gb193) (o := .cells #[.int .i64 0, .int .i64 0, .int .i64 0, .slice none 0 0] 26 (0, 0)) (by (with_reducible repeat (first | refine zc3 ?_ _ | refine zc4 ?_ | refine zc2 ?_ _)); exact BK193.out) hb); have n2_ := zA (zb5 (by repeat (first | (with_reducible first | exact HB.out | apply zb3 | apply zb1 | apply zb2 | refine zb4 ?_ GE193.out) | exact HB.out)) hb); clear BK193; clear HB; have HO197 := n0_; have BK193 := n1_; have HB := n2_; clear n0_ n1_ n2_; (try clear hb); (try clear hb2); (try clear hk); (try clear hi); (try clear ho0); have hcz102_0 : w101.cell? ⟨gb193, 0, none⟩ = some (.int .i64 0) := (zc1 BK193.out 0).trans rfl; have hcz102_1 : w101.cell? ⟨gb193, 1, none⟩ = some (.int .i64 0) := (zc1 BK193.out 1).trans rfl; have hcz102_2 : w101.cell? ⟨gb193, 2, none⟩ = some (.int .i64 0) := (zc1 BK193.out 2).trans rfl; have hcz102_3 : w101.cell? ⟨gb193, 3, none⟩ = some (.slice none 0 0) := (zc1 BK193.out 3).trans rfl; have hfz102_0 := zc5 BK193.out 0; have hfz102_1 := zc5 BK193.out 1; have hfz102_2 := zc5 BK193.out 2; have hfz102_3 := zc5 BK193.out 3))
  refine bodyPost_ret (results_ct rfl _ _ gb193 26 #[.int .i64 0, .int .i64 0, .int .i64 0, .slice none 0 0] (0, 0) _ rfl (by (with_reducible repeat (first | refine zc3 ?_ _ | refine zc4 ?_ | refine zc2 ?_ _)); refine blk_put (cs := #[.int .i64 0, .int .i64 0, .int .i64 0, .slice none 0 0]) ?_ 3 _ rfl; (with_reducible repeat (first | refine zc3 ?_ _ | refine zc4 ?_ | refine zc2 ?_ _)); refine blk_put (cs := #[.int .i64 0, .int .i64 0, .int .i64 0, .slice none 0 0]) ?_ 2 _ rfl; (with_reducible repeat (first | refine zc3 ?_ _ | refine zc4 ?_ | refine zc2 ?_ _)); refine blk_put (cs := #[.int .i64 0, .int .i64 0, .int .i64 0, .slice none 0 0]) ?_ 1 _ rfl; (with_reducible repeat (first | refine zc3 ?_ _ | refine zc4 ?_ | refine zc2 ?_ _)); refine blk_put (cs := #[.int .i64 0, .int .i64 0, .int .i64 0, .slice none 0 0]) ?_ 0 _ rfl; (with_reducible repeat (first | refine zc3 ?_ _ | refine zc4 ?_ | refine zc2 ?_ _)); exact BK193.out) Tryd.underlying26 rfl (by kernel_rfl)) rfl ?_
  exact ⟨_, by first | rfl | (simp [*] <;> rfl), by first | exact Kd.R_nil _ _ _ _ _ | exact Kd.N_nil _ _ _ _ _ | exact Kd.V_nil _ _ _ _ _ | exact Kd.Q_nil _ _ _ _ _ | exact Kd.S_nil _ _ _ _ _, by repeat (first | (with_reducible first | exact HB.out | apply zb3 | apply zb1 | apply zb2 | refine zb4 ?_ GE193.out) | exact HB.out)⟩

end Go.Proofs.YtjhgeppjpofjpaaDoor.PSigReads
