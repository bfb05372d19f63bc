-- Written by a program of this session (the kit's printer with hand-written contracts among its functions).
-- squeezed
import Derived.Test.YtjhgeppjpofjpaaDoorPSigReadsx0
import Derived.Test.YtjhgeppjpofjpaaDoorPSigReadsx10
import Derived.Test.YtjhgeppjpofjpaaDoorPSigReadsx11
import Derived.Test.YtjhgeppjpofjpaaDoorPSigReadsx12
namespace Go.Proofs.YtjhgeppjpofjpaaDoor.PSigReads
open Go.RowKit Go.Proofs.YtjhgeppjpofjpaaDoorW.PrintWords Go.Proofs.YtjhgeppjpofjpaaDoorW.PrintLast Go.Proofs.YtjhgeppjpofjpaaDoorW.PrintMore
attribute [local go_sem] max2_int min2_int max_two min_two max_three min_three max_four min_four   -- for this text's walks alone
set_option linter.unusedVariables false
set_option linter.unusedSimpArgs false

def remoraref06_Read.l0 : Nat → List Int → Int → Int → Int → Int → Int → List (S44) → Option (Int × Int × Int × (List (S44)) × Int)
 | 0, _, _, _, _, _, _, _ => none
 | k + 1, x0, x6, x8, x273000, x273001, x273002, x273003 => if (x273003.length : Int) < x8 then (if 0 ≤ x6 then (if x6 < (x0.length : Int) then (if 0 ≤ (wrap64 (x6 + 1)) then (if (wrap64 (x6 + 1)) < (x0.length : Int) then (if 0 ≤ (wrap64 (x6 + 2)) then (if (wrap64 (x6 + 2)) < (x0.length : Int) then (if 0 ≤ (wrap64 (x6 + 3)) then (if (wrap64 (x6 + 3)) < (x0.length : Int) then (if 0 ≤ (wrap64 (x6 + 4)) then (if (wrap64 (x6 + 4)) ≤ (wrap64 ((wrap64 (x6 + 4)) + x273002)) then (if (wrap64 ((wrap64 (x6 + 4)) + x273002)) ≤ (x0.length : Int) then (if x273003.length < 5864062014805 then (remoraref06_Read.l0 k x0 (wrap64 (x6 + (wrap64 (4 + x273002)))) x8 x273000 x273001 x273002 (x273003 ++ [(⟨Go.bits .or .u32 (Go.bits .or .u32 (Go.bits .or .u32 ((rd x0 x6) % 4294967296) ((((rd x0 (wrap64 (x6 + 1))) % 4294967296) * 256) % 4294967296)) ((((rd x0 (wrap64 (x6 + 2))) % 4294967296) * 65536) % 4294967296)) ((((rd x0 (wrap64 (x6 + 3))) % 4294967296) * 16777216) % 4294967296), strOfNums ((x0.take ((wrap64 ((wrap64 (x6 + 4)) + x273002)) : Int).toNat).drop ((wrap64 (x6 + 4)) : Int).toNat)⟩ : S44)])) else (none)) else (none)) else (none)) else (none)) else (none)) else (none)) else (none)) else (none)) else (none)) else (none)) else (none)) else (none)) else (some (x273000, x273001, x273002, x273003, 0))
def remoraref06_Read.f (k : Nat) (l0 : List Int) : Option (Int × Int × Int × (List (S44)) × Int) := (remoraref02_Open.f k l0).bind fun bt260 => (if bt260.2 = 0 then ((remoraref06_three.f k bt260.1).bind fun bt264 => (if bt264.2.2 = 0 then (if 0 < (bt264.1.length : Int) then (if 1 < (bt264.1.length : Int) then (if 2 < (bt264.1.length : Int) then ((remoraref06_head.f (rd bt264.1 0) (rd bt264.1 1) (rd bt264.1 2) ([] : List (S44))).bind fun t273 => (if t273 = 0 then ((remoraref05_Count.f k (rd bt264.1 0) (rd bt264.1 1)).bind fun t274 => (if (wrap64 ((bt260.1.length : Int) - bt264.2.1)) < (wrap64 (t274 * (wrap64 (4 + (rd bt264.1 2))))) then (some (0, 0, 0, ([] : List (S44)), 4)) else (if (wrap64 ((bt260.1.length : Int) - bt264.2.1)) > (wrap64 (t274 * (wrap64 (4 + (rd bt264.1 2))))) then (some (0, 0, 0, ([] : List (S44)), 5)) else (remoraref06_Read.l0 k bt260.1 bt264.2.1 t274 (rd bt264.1 0) (rd bt264.1 1) (rd bt264.1 2) ([] : List (S44)))))) else (some (0, 0, 0, ([] : List (S44)), t273)))) else (none)) else (none)) else (none)) else (some (0, 0, 0, ([] : List (S44)), bt264.2.2)))) else (some (0, 0, 0, ([] : List (S44)), bt260.2)))
theorem remoraref06_Read.mono_l : ∀ k, (∀ y0 y1 y2 y3 y4 y5 y6, LeO (remoraref06_Read.l0 k y0 y1 y2 y3 y4 y5 y6) (remoraref06_Read.l0 (k + 1) y0 y1 y2 y3 y4 y5 y6))
 | 0 => fun _ _ _ _ _ _ _ r h => by simp [remoraref06_Read.l0] at h
 | k + 1 => by
  have ih0 := remoraref06_Read.mono_l k
  ·intro y0 y1 y2 y3 y4 y5 y6
   unfold remoraref06_Read.l0
   repeat' first
   | (with_reducible exact ih0 _ _ _ _ _ _ _)
   | (with_reducible exact remoraref02_Open.mono _ _)
   | (with_reducible exact remoraref05_Count.mono _ _ _)
   | (with_reducible exact remoraref06_three.mono _ _)
   | (with_reducible exact LeO.refl _)
   | (with_reducible exact LeO.none _)
   | (with_reducible refine LeO.ite ?_ ?_)
   | (with_reducible refine LeO.bind ?_ (fun _ => ?_))
   | exact ih0 _ _ _ _ _ _ _
   | exact remoraref02_Open.mono _ _
   | exact remoraref05_Count.mono _ _ _
   | exact remoraref06_three.mono _ _
   | exact LeO.none _
   | refine LeO.ite ?_ ?_
   | refine LeO.bind ?_ (fun _ => ?_)
theorem remoraref06_Read.mono : ∀ a0 k, LeO (remoraref06_Read.f k a0) (remoraref06_Read.f (k + 1) a0) := by
 intro a0 k
 have ih0 := remoraref06_Read.mono_l k
 unfold remoraref06_Read.f
 repeat' first
     | (with_reducible exact ih0 _ _ _ _ _ _ _)
     | (with_reducible exact remoraref02_Open.mono _ _)
     | (with_reducible exact remoraref05_Count.mono _ _ _)
     | (with_reducible exact remoraref06_three.mono _ _)
     | (with_reducible exact LeO.refl _)
     | (with_reducible exact LeO.none _)
     | (with_reducible refine LeO.ite ?_ ?_)
     | (with_reducible refine LeO.bind ?_ (fun _ => ?_))
     | exact ih0 _ _ _ _ _ _ _
     | exact remoraref02_Open.mono _ _
     | exact remoraref05_Count.mono _ _ _
     | exact remoraref06_three.mono _ _
     | exact LeO.none _
     | refine LeO.ite ?_ ?_
     | refine LeO.bind ?_ (fun _ => ?_)
def remoraref06_Read.T7 : Bool × List (List Nat × List Nat) := (true, [([], []), ([0], [0]), ([1], [1]), ([], []), ([3], [3]), ([4], [4]), ([], []), ([6], [6]), ([7], [7]), ([2, 5, 8], [2, 5, 8]), ([], []), ([10, 9, 0, 1, 2, 3, 4, 5, 6, 7, 8, 9, 10], [9, 10])])
def remoraref06_Read.B7 : List Nat := [0, 1, 3, 0, 8, 24, 0, 64, 192, 511, 0, 2047]
theorem remoraref06_Read.tab7 : rtab .any (opsOf Tryd.f28 7) = remoraref06_Read.T7 := by kernel_rfl
theorem remoraref06_Read.bits7 : waitsOk remoraref06_Read.T7.2 remoraref06_Read.B7 = true := by kernel_rfl
def remoraref06_Read.T17 : Bool × List (List Nat × List Nat) := (true, [([], []), ([], []), ([0, 1], [0, 1]), ([2], [2]), ([3], [3]), ([], []), ([], []), ([6], [6]), ([5, 7], [5, 7]), ([8], [8]), ([9], [9]), ([10], [10]), ([4, 11], [4, 11]), ([], []), ([], []), ([14], [14]), ([13, 15], [13, 15]), ([16], [16]), ([17], [17]), ([18], [18]), ([12, 19], [12, 19]), ([], []), ([], []), ([22], [22]), ([21, 23], [21, 23]), ([24], [24]), ([25], [25]), ([26], [26]), ([20, 27], [20, 27]), ([28, 0, 1, 2, 3, 4, 5, 6, 7, 8, 9, 10, 11, 12, 13, 14, 15, 16, 17, 18, 19, 20, 21, 22, 23, 24, 25, 26, 27, 28], [28])])
def remoraref06_Read.B17 : List Nat := [0, 0, 3, 7, 15, 0, 0, 64, 224, 480, 992, 2016, 4095, 0, 0, 16384, 57344, 122880, 253952, 516096, 1048575, 0, 0, 4194304, 14680064, 31457280, 65011712, 132120576, 268435455, 536870911]
theorem remoraref06_Read.tab17 : rtab .any (opsOf Tryd.f28 17) = remoraref06_Read.T17 := by kernel_rfl
theorem remoraref06_Read.bits17 : waitsOk remoraref06_Read.T17.2 remoraref06_Read.B17 = true := by kernel_rfl
def remoraref06_Read.T18 : Bool × List (List Nat × List Nat) := (true, [([], []), ([0], [0]), ([], []), ([], []), ([], []), ([4], [4]), ([], []), ([6], [6]), ([], []), ([8], [8]), ([7, 9], [7, 9]), ([3, 5, 10], [3, 5, 10]), ([11], [11]), ([2, 12], [2, 12]), ([13], [13]), ([1, 14], [1, 14]), ([0, 1, 2, 3, 4, 5, 6, 7, 8, 9, 10, 11, 12, 13, 14, 15], []), ([16, 15, 15, 0, 1, 2, 3, 4, 5, 6, 7, 8, 9, 10, 11, 12, 13, 14, 15], [15, 16])])
def remoraref06_Read.B18 : List Nat := [0, 1, 0, 0, 0, 16, 0, 64, 0, 256, 960, 2040, 4088, 8188, 16380, 32767, 65535, 131071]
theorem remoraref06_Read.tab18 : rtab .any (opsOf Tryd.f28 18) = remoraref06_Read.T18 := by kernel_rfl
theorem remoraref06_Read.bits18 : waitsOk remoraref06_Read.T18.2 remoraref06_Read.B18 = true := by kernel_rfl
set_option maxHeartbeats 8000000 in
set_option maxRecDepth 100000 in
theorem remoraref06_Read.calls (k : Nat) (A0 : Option Addr) (c0 : Nat) (l0 : List Int) (r1 : Int) (r2 : Int) (r3 : Int) (r4 : List (S44)) (r5 : Int) (w : World) (hr0 : Kd.C (Kd.int .u8) w A0 l0.length l0) (hc0 : l0.length ≤ c0) (h : remoraref06_Read.f k l0 = some (r1, r2, r3, r4, r5)) :
    Calls Tryd.prog 28 #[.slice A0 l0.length c0] w fun e w' => ∃ v3_ : Value, e = .returned (.tuple #[.agg #[.int .i64 r1, .int .i64 r2, .int .i64 r3, v3_], .int .i64 r5]) ∧ Kd.R k44 44 w' w.heap.size (fun _ => True) v3_ r4 ∧ Below w.heap.size w w' := by
 have hu26 := Tryd.underlying26
 have hu44 := Tryd.underlying44
 have HR0 := zA hr0
 have HC0 := zA hc0
 clear hr0 hc0
 have HB := zA (Below.refl w.heap.size w)
 have H : ((remoraref02_Open.f k l0).bind fun bt260 => (if bt260.2 = 0 then ((remoraref06_three.f k bt260.1).bind fun bt264 => (if bt264.2.2 = 0 then (if 0 < (bt264.1.length : Int) then (if 1 < (bt264.1.length : Int) then (if 2 < (bt264.1.length : Int) then ((remoraref06_head.f (rd bt264.1 0) (rd bt264.1 1) (rd bt264.1 2) ([] : List (S44))).bind fun t273 => (if t273 = 0 then ((remoraref05_Count.f k (rd bt264.1 0) (rd bt264.1 1)).bind fun t274 => (if (wrap64 ((bt260.1.length : Int) - bt264.2.1)) < (wrap64 (t274 * (wrap64 (4 + (rd bt264.1 2))))) then (some (0, 0, 0, ([] : List (S44)), 4)) else (if (wrap64 ((bt260.1.length : Int) - bt264.2.1)) > (wrap64 (t274 * (wrap64 (4 + (rd bt264.1 2))))) then (some (0, 0, 0, ([] : List (S44)), 5)) else (remoraref06_Read.l0 k bt260.1 bt264.2.1 t274 (rd bt264.1 0) (rd bt264.1 1) (rd bt264.1 2) ([] : List (S44)))))) else (some (0, 0, 0, ([] : List (S44)), t273)))) else (none)) else (none)) else (none)) else (some (0, 0, 0, ([] : List (S44)), bt264.2.2)))) else (some (0, 0, 0, ([] : List (S44)), bt260.2)))) = some (r1, r2, r3, r4, r5) := h
 clear h
 replace H := Option.bind_eq_some_iff.mp H
 obtain ⟨⟨t260, t261⟩, A20, H⟩ := H
 replace H : (if t261 = 0 then ((remoraref06_three.f k t260).bind fun bt264 => (if bt264.2.2 = 0 then (if 0 < (bt264.1.length : Int) then (if 1 < (bt264.1.length : Int) then (if 2 < (bt264.1.length : Int) then ((remoraref06_head.f (rd bt264.1 0) (rd bt264.1 1) (rd bt264.1 2) ([] : List (S44))).bind fun t273 => (if t273 = 0 then ((remoraref05_Count.f k (rd bt264.1 0) (rd bt264.1 1)).bind fun t274 => (if (wrap64 ((t260.length : Int) - bt264.2.1)) < (wrap64 (t274 * (wrap64 (4 + (rd bt264.1 2))))) then (some (0, 0, 0, ([] : List (S44)), 4)) else (if (wrap64 ((t260.length : Int) - bt264.2.1)) > (wrap64 (t274 * (wrap64 (4 + (rd bt264.1 2))))) then (some (0, 0, 0, ([] : List (S44)), 5)) else (remoraref06_Read.l0 k t260 bt264.2.1 t274 (rd bt264.1 0) (rd bt264.1 1) (rd bt264.1 2) ([] : List (S44)))))) else (some (0, 0, 0, ([] : List (S44)), t273)))) else (none)) else (none)) else (none)) else (some (0, 0, 0, ([] : List (S44)), bt264.2.2)))) else (some (0, 0, 0, ([] : List (S44)), t261))) = some (r1, r2, r3, r4, r5) := H
 have A2 := zA A20
 clear A20
 by_cases c3 : t261 = 0
 ·rw [if_pos c3] at H
  have c3b0 : (t261 == 0) = true := beq_iff_eq.mpr c3
  have c3b1 : (t261 != 0) = false := bne_eq_false_iff_eq.mpr c3
  clear c3
  replace H := Option.bind_eq_some_iff.mp H
  obtain ⟨⟨t264, t265, t266⟩, A40, H⟩ := H
  replace H : (if t266 = 0 then (if 0 < (t264.length : Int) then (if 1 < (t264.length : Int) then (if 2 < (t264.length : Int) then ((remoraref06_head.f (rd t264 0) (rd t264 1) (rd t264 2) ([] : List (S44))).bind fun t273 => (if t273 = 0 then ((remoraref05_Count.f k (rd t264 0) (rd t264 1)).bind fun t274 => (if (wrap64 ((t260.length : Int) - t265)) < (wrap64 (t274 * (wrap64 (4 + (rd t264 2))))) then (some (0, 0, 0, ([] : List (S44)), 4)) else (if (wrap64 ((t260.length : Int) - t265)) > (wrap64 (t274 * (wrap64 (4 + (rd t264 2))))) then (some (0, 0, 0, ([] : List (S44)), 5)) else (remoraref06_Read.l0 k t260 t265 t274 (rd t264 0) (rd t264 1) (rd t264 2) ([] : List (S44)))))) else (some (0, 0, 0, ([] : List (S44)), t273)))) else (none)) else (none)) else (none)) else (some (0, 0, 0, ([] : List (S44)), t266))) = some (r1, r2, r3, r4, r5) := H
  have A4 := zA A40
  clear A40
  by_cases c5 : t266 = 0
  ·rw [if_pos c5] at H
   have c5b0 : (t266 == 0) = true := beq_iff_eq.mpr c5
   have c5b1 : (t266 != 0) = false := bne_eq_false_iff_eq.mpr c5
   clear c5
   by_cases c6 : 0 < (t264.length : Int)
   ·rw [if_pos c6] at H
    have c6b0 : decide (0 < (t264.length : Int)) = true := zd1 c6
    have c6b1 : decide (0 < t264.length) = true := zd1 (by omega)
    clear c6
    by_cases c7 : 1 < (t264.length : Int)
    ·rw [if_pos c7] at H
     have c7b0 : decide (1 < (t264.length : Int)) = true := zd1 c7
     have c7b1 : decide (1 < t264.length) = true := zd1 (by omega)
     clear c7
     by_cases c8 : 2 < (t264.length : Int)
     ·rw [if_pos c8] at H
      have c8b0 : decide (2 < (t264.length : Int)) = true := zd1 c8
      have c8b1 : decide (2 < t264.length) = true := zd1 (by omega)
      clear c8
      replace H := Option.bind_eq_some_iff.mp H
      obtain ⟨t273, A90, H⟩ := H
      replace H : (if t273 = 0 then ((remoraref05_Count.f k (rd t264 0) (rd t264 1)).bind fun t274 => (if (wrap64 ((t260.length : Int) - t265)) < (wrap64 (t274 * (wrap64 (4 + (rd t264 2))))) then (some (0, 0, 0, ([] : List (S44)), 4)) else (if (wrap64 ((t260.length : Int) - t265)) > (wrap64 (t274 * (wrap64 (4 + (rd t264 2))))) then (some (0, 0, 0, ([] : List (S44)), 5)) else (remoraref06_Read.l0 k t260 t265 t274 (rd t264 0) (rd t264 1) (rd t264 2) ([] : List (S44)))))) else (some (0, 0, 0, ([] : List (S44)), t273))) = some (r1, r2, r3, r4, r5) := H
      have A9 := zA A90
      clear A90
      by_cases c10 : t273 = 0
      ·rw [if_pos c10] at H
       have c10b0 : (t273 == 0) = true := beq_iff_eq.mpr c10
       have c10b1 : (t273 != 0) = false := bne_eq_false_iff_eq.mpr c10
       clear c10
       replace H := Option.bind_eq_some_iff.mp H
       obtain ⟨t274, A110, H⟩ := H
       replace H : (if (wrap64 ((t260.length : Int) - t265)) < (wrap64 (t274 * (wrap64 (4 + (rd t264 2))))) then (some (0, 0, 0, ([] : List (S44)), 4)) else (if (wrap64 ((t260.length : Int) - t265)) > (wrap64 (t274 * (wrap64 (4 + (rd t264 2))))) then (some (0, 0, 0, ([] : List (S44)), 5)) else (remoraref06_Read.l0 k t260 t265 t274 (rd t264 0) (rd t264 1) (rd t264 2) ([] : List (S44))))) = some (r1, r2, r3, r4, r5) := H
       have A11 := zA A110
       clear A110
       by_cases c12 : (wrap64 ((t260.length : Int) - t265)) < (wrap64 (t274 * (wrap64 (4 + (rd t264 2)))))
       ·rw [if_pos c12] at H
        have c12b0 : decide ((wrap64 ((t260.length : Int) - t265)) < (wrap64 (t274 * (wrap64 (4 + (rd t264 2)))))) = true := zd1 c12
        clear c12
        simp only [Option.some.injEq, Prod.mk.injEq] at H
        obtain ⟨rfl, rfl, rfl, rfl, rfl⟩ := H
        go_enter Tryd.func28, Tryd.ntmps28
        try go_wp2_with (first | ((with_reducible refine gate_dst (N := 2) rfl ?_); refine box_event ?hg (N := 2) ?hd (cs := #[.int .i64 0, .int .i64 0, .int .i64 0, .slice none 0 0]) (t := 26) ?hr ?_; (case hd => rfl); (case hg => rfl); (case hr => first | (go_simp; done) | (go_simp; rfl)); intro gb259 hg w13 hbox hb; have n0_ := zA (zb5 (by repeat (first | (with_reducible first | exact HB.out | apply zb3 | apply zb1 | apply zb2) | exact HB.out)) hb); have n1_ := zA (hbox); have n2_ := zA ((by rw [hg]; exact (zb6 (by repeat (first | (with_reducible first | exact HB.out | apply zb3 | apply zb1 | apply zb2) | exact HB.out))) : w.heap.size ≤ gb259)); have n3_ := zA ((by rw [hg]; exact (zb6 (by repeat (first | (with_reducible first | exact HB.out | apply zb3 | apply zb1 | apply zb2) | exact HB.out))) : w.heap.size ≤ gb259)); clear HB; have HB := n0_; have BK259 := n1_; have GW259 := n2_; have GE259 := n3_; clear n0_ n1_ n2_ n3_; clear hb hbox hg) | ((with_reducible refine gate_callee (f := 55) rfl ?_); refine goesL_ (some 12) rfl rfl Tryd.func55 (by kernel_rfl) rfl #[.slice A0 l0.length c0] rfl (by (try simp only [zm1, zm2, zm3]); first | done | rfl | (simp only [List.length_drop, List.length_take]; rfl) | (simp only [Int.emod_add_emod, Int.add_emod_emod]; rfl)) ?_; (with_reducible refine (remoraref02_Open.calls k _ _ l0 t260 t261 _ ?side1 ?side2 A2.out).mono ?_); (case side1 => repeat (first | exact (Kd.C_below HR0.out HB.out) | (with_reducible refine Kd.C_alloc ?_ _) | (with_reducible refine Kd.C_drewN ?_ _) | (with_reducible refine Kd.C_drew ?_))); (case side2 => exact HC0.out); rintro e w14 ⟨v262, rfl, ho0, hb⟩; refine ⟨_, rfl, ?_⟩; have n0_ := zA (Kd.R_lower ho0 (zb6 (by repeat (first | (with_reducible first | exact HB.out | apply zb3 | apply zb1 | apply zb2 | refine zb4 ?_ GE259.out) | exact HB.out)))); have n1_ := zA (zc6 (g := gb259) (o := .cells #[.int .i64 0, .int .i64 0, .int .i64 0, .slice none 0 0] 26 (0, 0)) (by (with_reducible repeat (first | refine zc3 ?_ _ | refine zc4 ?_ | refine zc2 ?_ _)); exact BK259.out) hb); have n2_ := zA (zb5 (by repeat (first | (with_reducible first | exact HB.out | apply zb3 | apply zb1 | apply zb2 | refine zb4 ?_ GE259.out) | exact HB.out)) hb); clear BK259; clear HB; have HO263 := n0_; have BK259 := n1_; have HB := n2_; clear n0_ n1_ n2_; (try clear hb); (try clear hb2); (try clear hk); (try clear hi); (try clear ho0); obtain ⟨Ao15, co15, eo15⟩ := Kd.R_slice HO263.out; subst eo15) | ((with_reducible refine gate_callee (f := 56) rfl ?_); refine goesL_ (some 21) rfl rfl Tryd.func56 (by kernel_rfl) rfl #[.slice Ao15 t260.length co15] rfl (by (try simp only [zm1, zm2, zm3]); first | done | rfl | (simp only [List.length_drop, List.length_take]; rfl) | (simp only [Int.emod_add_emod, Int.add_emod_emod]; rfl)) ?_; (with_reducible refine (remoraref06_three.calls k _ _ t260 t264 t265 t266 _ ?side1 ?side2 A4.out).mono ?_); (case side1 => repeat (first | exact (Kd.R_reads' HO263.out).2.2 | (with_reducible refine Kd.C_alloc ?_ _) | (with_reducible refine Kd.C_drewN ?_ _) | (with_reducible refine Kd.C_drew ?_))); (case side2 => exact (Kd.R_reads' HO263.out).2.1); rintro e w16 ⟨v267, rfl, ho0, hb⟩; refine ⟨_, rfl, ?_⟩; have n0_ := zA (Kd.R_below (by (with_reducible repeat (first | apply Kd.R_alloc | apply Kd.R_drewN | apply Kd.R_drew)); exact HO263.out) hb); have n1_ := zA (Kd.R_lower ho0 (zb6 (by repeat (first | (with_reducible first | exact HB.out | apply zb3 | apply zb1 | apply zb2 | refine zb4 ?_ GE259.out) | exact HB.out)))); have n2_ := zA (zc6 (g := gb259) (o := .cells #[.int .i64 0, .int .i64 0, .int .i64 0, .slice none 0 0] 26 (0, 0)) (by (with_reducible repeat (first | refine zc3 ?_ _ | refine zc4 ?_ | refine zc2 ?_ _)); exact BK259.out) hb); have n3_ := zA (zb5 (by repeat (first | (with_reducible first | exact HB.out | apply zb3 | apply zb1 | apply zb2 | refine zb4 ?_ GE259.out) | exact HB.out)) hb); clear HO263; clear BK259; clear HB; have HO263 := n0_; have HO268 := n1_; have BK259 := n2_; have HB := n3_; clear n0_ n1_ n2_ n3_; (try clear hb); (try clear hb2); (try clear hk); (try clear hi); (try clear ho0)))
        have n0_ := zA (Kd.R_drew HO263.out)
        have n1_ := zA (Kd.R_drew HO268.out)
        have n2_ := zA (zc4 BK259.out)
        have n3_ := zA (zb2 HB.out)
        clear HO263
        clear HO268
        clear BK259
        clear HB
        have HO263 := n0_
        have HO268 := n1_
        have BK259 := n2_
        have HB := n3_
        clear n0_ n1_ n2_ n3_
        obtain ⟨Ao18, co18, eo18⟩ := Kd.R_slice HO268.out
        (first | subst eo18 | (injection eo18 with f1_ f2_ f3_; have f4_ := f1_.symm; have f5_ := f3_.symm; clear f1_ f2_ f3_; subst f4_; subst f5_))
        have p269 : 0 ≤ (0 : Int) := (by omega)
        have q269 : 0 < (t264.length : Int) := zd3 (by first | (with_reducible assumption) | assumption)
        obtain ⟨ad269, e269, hx269_0⟩ := Kd.at_int (Kd.R_reads' HO268.out).2.2 0 p269 q269
        cases e269
        have qi269 : (0 < t264.length) = True := eq_true (by omega)
        (try rw [show ((0 : Int)).toNat = 0 from rfl] at hx269_0)
        (try rw [Addr.add_zero'] at hx269_0)
        replace p269 := eq_true p269
        replace q269 := eq_true q269
        have p270 : 0 ≤ (1 : Int) := (by omega)
        have q270 : 1 < (t264.length : Int) := zd3 (by first | (with_reducible assumption) | assumption)
        obtain ⟨ad270, e270, hx270_0⟩ := Kd.at_int (Kd.R_reads' HO268.out).2.2 1 p270 q270
        obtain rfl : ad269 = ad270 := (by injection e270)
        (try simp only [show (1 : Int).toNat = 1 from rfl, Nat.reduceMul, Nat.reduceEqDiff, Go.Addr.add, ↓reduceIte] at hx270_0)
        have qi270 : (1 < t264.length) = True := eq_true (by omega)
        (try rw [show ((1 : Int)).toNat = 1 from rfl] at hx270_0)
        replace p270 := eq_true p270
        replace q270 := eq_true q270
        have p271 : 0 ≤ (2 : Int) := (by omega)
        have q271 : 2 < (t264.length : Int) := zd3 (by first | (with_reducible assumption) | assumption)
        obtain ⟨ad271, e271, hx271_0⟩ := Kd.at_int (Kd.R_reads' HO268.out).2.2 2 p271 q271
        obtain rfl : ad269 = ad271 := (by injection e271)
        (try simp only [show (2 : Int).toNat = 2 from rfl, Nat.reduceMul, Nat.reduceEqDiff, Go.Addr.add, ↓reduceIte] at hx271_0)
        have qi271 : (2 < t264.length) = True := eq_true (by omega)
        (try rw [show ((2 : Int)).toNat = 2 from rfl] at hx271_0)
        replace p271 := eq_true p271
        replace q271 := eq_true q271
        refine start_ (n := 12) (S := fun w' => w'.cell? ad269 = some (.int .i64 (rd t264 0)) ∧ w'.cell? ⟨ad269.block, ad269.off + 1, none⟩ = some (.int .i64 (rd t264 1)) ∧ w'.cell? ⟨ad269.block, ad269.off + 2, none⟩ = some (.int .i64 (rd t264 2))) (ds := []) #[false, false, false, false, false, false, false, false, false, false, false, false] (by kernel_rfl) rfl rfl ⟨hx269_0, hx270_0, hx271_0⟩ (fun hHeld => ?_); refine with_tabW remoraref06_Read.tab7 remoraref06_Read.bits7 (fun HT_ HW_ => ?_)
        generalize w16.drew = w17 at HO263 HO268 BK259 HB hx269_0 hx270_0 hx271_0 hHeld ⊢
        refine pure_ (i := 0) (N := some 29) (v := ?_) (a' := ?_) #[true, false, false, false, false, false, false, false, false, false, false, false] rfl rfl (any_of HT_.out (by kernel_rfl)) (fun _ _ _ h => h) (Or.inl ⟨by rfl, ?_⟩) ?_ ?_
        rotate_left
        ·intro w'
         go_simp
         with_reducible rfl
        rotate_left
        ·simp only [Act.put, zs1, zs2, zs3, i64_w, i32_w]
         rfl
        refine pure_ (i := 1) (N := some 30) (v := ?_) (a' := ?_) #[true, true, false, false, false, false, false, false, false, false, false, false] rfl rfl (any_of HT_.out (by kernel_rfl)) (fun _ _ _ h => h) (Or.inl ⟨by rfl, ?_⟩) ?_ ?_
        rotate_left
        ·intro w'
         go_simp
         with_reducible rfl
        rotate_left
        ·simp only [Act.put, zs1, zs2, zs3, i64_w, i32_w]
         rfl
        refine pure_ (i := 3) (N := some 32) (v := ?_) (a' := ?_) #[true, true, false, true, false, false, false, false, false, false, false, false] rfl rfl (any_of HT_.out (by kernel_rfl)) (fun _ _ _ h => h) (Or.inl ⟨by rfl, ?_⟩) ?_ ?_
        rotate_left
        ·intro w'
         go_simp
         with_reducible rfl
        rotate_left
        ·simp only [Act.put, zs1, zs2, zs3, i64_w, i32_w]
         rfl
        refine pure_ (i := 4) (N := some 33) (v := ?_) (a' := ?_) #[true, true, false, true, true, false, false, false, false, false, false, false] rfl rfl (any_of HT_.out (by kernel_rfl)) (fun _ _ _ h => h) (Or.inl ⟨by rfl, ?_⟩) ?_ ?_
        rotate_left
        ·intro w'
         go_simp
         with_reducible rfl
        rotate_left
        ·simp only [Act.put, zs1, zs2, zs3, i64_w, i32_w]
         rfl
        refine pure_ (i := 6) (N := some 35) (v := ?_) (a' := ?_) #[true, true, false, true, true, false, true, false, false, false, false, false] rfl rfl (any_of HT_.out (by kernel_rfl)) (fun _ _ _ h => h) (Or.inl ⟨by rfl, ?_⟩) ?_ ?_
        rotate_left
        ·intro w'
         go_simp
         with_reducible rfl
        rotate_left
        ·simp only [Act.put, zs1, zs2, zs3, i64_w, i32_w]
         rfl
        refine pure_ (i := 7) (N := some 36) (v := ?_) (a' := ?_) #[true, true, false, true, true, false, true, true, false, false, false, false] rfl rfl (any_of HT_.out (by kernel_rfl)) (fun _ _ _ h => h) (Or.inl ⟨by rfl, ?_⟩) ?_ ?_
        rotate_left
        ·intro w'
         go_simp
         with_reducible rfl
        rotate_left
        ·simp only [Act.put, zs1, zs2, zs3, i64_w, i32_w]
         rfl
        refine take_ (i := 2) (N := some 31) (v := ?_) (a' := ?_) #[true, true, true, true, true, false, true, true, false, false, false, false] rfl rfl (take_ofW HT_.out HW_.out (by kernel_rfl)) (fun _ _ _ h => h) (Or.inl ⟨by rfl, ?_⟩) hHeld ?_ ?_
        rotate_left
        ·rintro w' ⟨s0, s1, s2⟩
         go_simp
         with_reducible rfl
        rotate_left
        ·simp only [Act.put, zs1, zs2, zs3, i64_w, i32_w]
         rfl
        refine take_ (i := 5) (N := some 34) (v := ?_) (a' := ?_) #[true, true, true, true, true, true, true, true, false, false, false, false] rfl rfl (take_ofW HT_.out HW_.out (by kernel_rfl)) (fun _ _ _ h => h) (Or.inl ⟨by rfl, ?_⟩) hHeld ?_ ?_
        rotate_left
        ·rintro w' ⟨s0, s1, s2⟩
         go_simp
         with_reducible rfl
        rotate_left
        ·simp only [Act.put, zs1, zs2, zs3, i64_w, i32_w]
         rfl
        refine take_ (i := 8) (N := some 37) (v := ?_) (a' := ?_) #[true, true, true, true, true, true, true, true, true, false, false, false] rfl rfl (take_ofW HT_.out HW_.out (by kernel_rfl)) (fun _ _ _ h => h) (Or.inl ⟨by rfl, ?_⟩) hHeld ?_ ?_
        rotate_left
        ·rintro w' ⟨s0, s1, s2⟩
         go_simp
         with_reducible rfl
        rotate_left
        ·simp only [Act.put, zs1, zs2, zs3, i64_w, i32_w]
         rfl
        refine pure_ (i := 9) (N := some 38) (v := ?_) (a' := ?_) #[true, true, true, true, true, true, true, true, true, true, false, false] rfl rfl (any_of HT_.out (by kernel_rfl)) (fun _ _ _ h => h) (Or.inl ⟨by rfl, ?_⟩) ?_ ?_
        rotate_left
        ·intro w'
         go_simp
         with_reducible rfl
        rotate_left
        ·simp only [Act.put, zs1, zs2, zs3, i64_w, i32_w]
         rfl
        refine one_ (i := 10) (N := some 7) #[true, true, true, true, true, true, true, true, true, true, true, false] rfl rfl (one_of HT_.out (by kernel_rfl)) (by decide) (fun K hK => ?_)
        refine box_step ?hg (N := 7) ?hd (cs := #[.int .i64 0, .int .i64 0, .int .i64 0, .slice none 0 0]) (t := 26) ?hr ?_; (case hd => rfl); (case hg => rfl); (case hr => first | (go_simp; done) | (go_simp; rfl))
        intro gb272 hg w19 hbox hb
        have HS0_ := (hb.cell (World.block_lt_of_cell? _ _ (hHeld.1))).trans (hHeld.1)
        have HS1_ := (hb.cell (World.block_lt_of_cell? _ _ (hHeld.2.1))).trans (hHeld.2.1)
        have HS2_ := (hb.cell (World.block_lt_of_cell? _ _ (hHeld.2.2))).trans (hHeld.2.2)
        have n0_ := zA (Kd.R_below (by (with_reducible repeat (first | apply Kd.R_alloc | apply Kd.R_drewN | apply Kd.R_drew)); exact HO263.out) hb)
        have n1_ := zA (Kd.R_below (by (with_reducible repeat (first | apply Kd.R_alloc | apply Kd.R_drewN | apply Kd.R_drew)); exact HO268.out) hb)
        have n2_ := zA (zc6 (g := gb259) (o := .cells #[.int .i64 0, .int .i64 0, .int .i64 0, .slice none 0 0] 26 (0, 0)) (by (with_reducible repeat (first | refine zc3 ?_ _ | refine zc4 ?_ | refine zc2 ?_ _)); exact BK259.out) hb)
        have n3_ := zA (zb5 (by repeat (first | (with_reducible first | exact HB.out | apply zb3 | apply zb1 | apply zb2 | refine zb4 ?_ GE259.out) | exact HB.out)) hb)
        have n4_ := zA (hbox)
        have n5_ := zA ((by rw [hg]; exact (zb6 (by repeat (first | (with_reducible first | exact HB.out | apply zb3 | apply zb1 | apply zb2 | refine zb4 ?_ GE259.out) | exact HB.out))) : w.heap.size ≤ gb272))
        have n6_ := zA ((by rw [hg]; exact (zb6 (by repeat (first | (with_reducible first | exact HB.out | apply zb3 | apply zb1 | apply zb2 | refine zb4 ?_ GE259.out) | exact HB.out))) : w.heap.size ≤ gb272))
        have n7_ := zA ((by rw [hg]; exact Nat.ne_of_lt (blk_lt (g := gb259) (o := .cells #[.int .i64 0, .int .i64 0, .int .i64 0, .slice none 0 0] 26 (0, 0)) (by (with_reducible repeat (first | refine zc3 ?_ _ | refine zc4 ?_ | refine zc2 ?_ _)); exact BK259.out)) : gb259 ≠ gb272))
        have n8_ := zA ((by rw [hg]; exact Nat.ne_of_gt (blk_lt (g := gb259) (o := .cells #[.int .i64 0, .int .i64 0, .int .i64 0, .slice none 0 0] 26 (0, 0)) (by (with_reducible repeat (first | refine zc3 ?_ _ | refine zc4 ?_ | refine zc2 ?_ _)); exact BK259.out)) : gb272 ≠ gb259))
        clear HO263
        clear HO268
        clear BK259
        clear HB
        have HO263 := n0_
        have HO268 := n1_
        have BK259 := n2_
        have HB := n3_
        have BK272 := n4_
        have GW272 := n5_
        have GE272 := n6_
        have NB259_272 := n7_
        have NB272_259 := n8_
        clear n0_ n1_ n2_ n3_ n4_ n5_ n6_ n7_ n8_
        clear hb hbox hg
        refine hK.out _ _ ⟨HS0_, HS1_, HS2_⟩ (fun hHeld => ?_)
        clear hK K
        refine norm_ (a' := ?_) ?_ ?_
        rotate_left
        ·show Act.put _ (some 7) _ = _
         simp only [Act.put, zs1, zs2, zs3, i64_w, i32_w]
         rfl
        refine one_ (i := 11) (N := none) #[true, true, true, true, true, true, true, true, true, true, true, true] rfl rfl (one_of HT_.out (by kernel_rfl)) (by decide) (fun K hK => ?_)
        have hs20 : w19.cell? ⟨gb272, 0, none⟩ = some (.int .i64 0) := (zc1 BK272.out 0).trans rfl
        have hfs20 := zc5 BK272.out 0
        have hns20_0 := NB259_272.out
        have hms20_0 := NB272_259.out
        have hs21 : w19.cell? ⟨gb272, 1, none⟩ = some (.int .i64 0) := (zc1 BK272.out 1).trans rfl
        have hfs21 := zc5 BK272.out 1
        have hns21_0 := NB259_272.out
        have hms21_0 := NB272_259.out
        have hs22 : w19.cell? ⟨gb272, 2, none⟩ = some (.int .i64 0) := (zc1 BK272.out 2).trans rfl
        have hfs22 := zc5 BK272.out 2
        have hns22_0 := NB259_272.out
        have hms22_0 := NB272_259.out
        have hs23 : w19.cell? ⟨gb272, 3, none⟩ = some (.slice none 0 0) := (zc1 BK272.out 3).trans rfl
        have hfs23 := zc5 BK272.out 3
        have hns23_0 := NB259_272.out
        have hms23_0 := NB272_259.out
        refine skip_ (w1 := ?_) (by rfl) rfl ?_ ?_
        rotate_left
        ·go_simp
         rfl
        have hfar0_ := Kd.own_blk (Kd.R_ne HO268.out BK272.out (by decide))
        refine hK.out _ _ ⟨((cell_far (p := ⟨gb272, _, none⟩) (by first | exact hfar0_ | (rw [add_block]; exact hfar0_) | (show (Addr.add _ _).block ≠ _; rw [add_block]; exact hfar0_) | (dsimp only; exact hfar0_)) _).trans (((cell_far (p := ⟨gb272, _, none⟩) (by first | exact hfar0_ | (rw [add_block]; exact hfar0_) | (show (Addr.add _ _).block ≠ _; rw [add_block]; exact hfar0_) | (dsimp only; exact hfar0_)) _).trans (((cell_far (p := ⟨gb272, _, none⟩) (by first | exact hfar0_ | (rw [add_block]; exact hfar0_) | (show (Addr.add _ _).block ≠ _; rw [add_block]; exact hfar0_) | (dsimp only; exact hfar0_)) _).trans (((cell_far (p := ⟨gb272, _, none⟩) (by first | exact hfar0_ | (rw [add_block]; exact hfar0_) | (show (Addr.add _ _).block ≠ _; rw [add_block]; exact hfar0_) | (dsimp only; exact hfar0_)) _).trans (hHeld.1)))))))), ((cell_far (p := ⟨gb272, _, none⟩) (by first | exact hfar0_ | (rw [add_block]; exact hfar0_) | (show (Addr.add _ _).block ≠ _; rw [add_block]; exact hfar0_) | (dsimp only; exact hfar0_)) _).trans (((cell_far (p := ⟨gb272, _, none⟩) (by first | exact hfar0_ | (rw [add_block]; exact hfar0_) | (show (Addr.add _ _).block ≠ _; rw [add_block]; exact hfar0_) | (dsimp only; exact hfar0_)) _).trans (((cell_far (p := ⟨gb272, _, none⟩) (by first | exact hfar0_ | (rw [add_block]; exact hfar0_) | (show (Addr.add _ _).block ≠ _; rw [add_block]; exact hfar0_) | (dsimp only; exact hfar0_)) _).trans (((cell_far (p := ⟨gb272, _, none⟩) (by first | exact hfar0_ | (rw [add_block]; exact hfar0_) | (show (Addr.add _ _).block ≠ _; rw [add_block]; exact hfar0_) | (dsimp only; exact hfar0_)) _).trans (hHeld.2.1)))))))), ((cell_far (p := ⟨gb272, _, none⟩) (by first | exact hfar0_ | (rw [add_block]; exact hfar0_) | (show (Addr.add _ _).block ≠ _; rw [add_block]; exact hfar0_) | (dsimp only; exact hfar0_)) _).trans (((cell_far (p := ⟨gb272, _, none⟩) (by first | exact hfar0_ | (rw [add_block]; exact hfar0_) | (show (Addr.add _ _).block ≠ _; rw [add_block]; exact hfar0_) | (dsimp only; exact hfar0_)) _).trans (((cell_far (p := ⟨gb272, _, none⟩) (by first | exact hfar0_ | (rw [add_block]; exact hfar0_) | (show (Addr.add _ _).block ≠ _; rw [add_block]; exact hfar0_) | (dsimp only; exact hfar0_)) _).trans (((cell_far (p := ⟨gb272, _, none⟩) (by first | exact hfar0_ | (rw [add_block]; exact hfar0_) | (show (Addr.add _ _).block ≠ _; rw [add_block]; exact hfar0_) | (dsimp only; exact hfar0_)) _).trans (hHeld.2.2))))))))⟩ (fun hHeld => ?_)
        clear hK K
        refine done_ (done_of HT_.out (by kernel_rfl)) ?_
        have hnb24 := NB272_259.out
        have hnc24 := NB259_272.out
        have hcz25_0 : w19.cell? ⟨gb272, 0, none⟩ = some (.int .i64 0) := (zc1 BK272.out 0).trans rfl
        have hcz25_1 : w19.cell? ⟨gb272, 1, none⟩ = some (.int .i64 0) := (zc1 BK272.out 1).trans rfl
        have hcz25_2 : w19.cell? ⟨gb272, 2, none⟩ = some (.int .i64 0) := (zc1 BK272.out 2).trans rfl
        have hcz25_3 : w19.cell? ⟨gb272, 3, none⟩ = some (.slice none 0 0) := (zc1 BK272.out 3).trans rfl
        have hfz25_0 := zc5 BK272.out 0
        have hfz25_1 := zc5 BK272.out 1
        have hfz25_2 := zc5 BK272.out 2
        have hfz25_3 := zc5 BK272.out 3
        try go_wp2_with (first | ((with_reducible refine gate_callee (f := 48) rfl ?_); refine goesL_ (some 40) rfl rfl Tryd.func48 (by kernel_rfl) rfl #[.agg #[.int .i64 (rd t264 0), .int .i64 (rd t264 1), .int .i64 (rd t264 2), .slice none 0 0]] rfl (by (try simp only [zm1, zm2, zm3]); first | done | rfl | (simp only [List.length_drop, List.length_take]; rfl) | (simp only [Int.emod_add_emod, Int.add_emod_emod]; rfl)) ?_; (refine (remoraref06_head.calls (rd t264 0) (rd t264 1) (rd t264 2) _ _ ([] : List (S44)) t273 _ ?side1 ?side2 A9.out).mono ?_); (case side1 => exact Kd.C_nil _ _); (case side2 => exact Nat.le_refl _); rintro e w26 ⟨rfl, hb⟩; refine ⟨_, rfl, ?_⟩; have n0_ := zA (Kd.R_below (by (with_reducible repeat (first | apply Kd.R_alloc | apply Kd.R_drewN | apply Kd.R_drew)); exact (Kd.R_mono (Kd.R_far (p := ⟨gb272, 3, none⟩) (Kd.R_far (p := ⟨gb272, 2, none⟩) (Kd.R_far (p := ⟨gb272, 1, none⟩) (Kd.R_far (p := ⟨gb272, 0, none⟩) (Kd.R_types HO263.out BK272.out (by decide)) (fun _ hk => hk.2) (.int .i64 (rd t264 0))) (fun _ hk => hk.2) (.int .i64 (rd t264 1))) (fun _ hk => hk.2) (.int .i64 (rd t264 2))) (fun _ hk => hk.2) (.slice none 0 0)) (fun _ h_ => h_.1))) hb); have n1_ := zA (Kd.R_below (by (with_reducible repeat (first | apply Kd.R_alloc | apply Kd.R_drewN | apply Kd.R_drew)); exact (Kd.R_mono (Kd.R_far (p := ⟨gb272, 3, none⟩) (Kd.R_far (p := ⟨gb272, 2, none⟩) (Kd.R_far (p := ⟨gb272, 1, none⟩) (Kd.R_far (p := ⟨gb272, 0, none⟩) (Kd.R_types HO268.out BK272.out (by decide)) (fun _ hk => hk.2) (.int .i64 (rd t264 0))) (fun _ hk => hk.2) (.int .i64 (rd t264 1))) (fun _ hk => hk.2) (.int .i64 (rd t264 2))) (fun _ hk => hk.2) (.slice none 0 0)) (fun _ h_ => h_.1))) hb); have n2_ := zA (zc6 (g := gb259) (o := .cells #[.int .i64 0, .int .i64 0, .int .i64 0, .slice none 0 0] 26 (0, 0)) (by (with_reducible repeat (first | refine zc3 ?_ _ | refine zc4 ?_ | refine zc2 ?_ _)); refine zc7 ?_ NB259_272.out _; (with_reducible repeat (first | refine zc3 ?_ _ | refine zc4 ?_ | refine zc2 ?_ _)); refine zc7 ?_ NB259_272.out _; (with_reducible repeat (first | refine zc3 ?_ _ | refine zc4 ?_ | refine zc2 ?_ _)); refine zc7 ?_ NB259_272.out _; (with_reducible repeat (first | refine zc3 ?_ _ | refine zc4 ?_ | refine zc2 ?_ _)); refine zc7 ?_ NB259_272.out _; (with_reducible repeat (first | refine zc3 ?_ _ | refine zc4 ?_ | refine zc2 ?_ _)); exact BK259.out) hb); have n3_ := zA (zc6 (g := gb272) (o := .cells #[.int .i64 (rd t264 0), .int .i64 (rd t264 1), .int .i64 (rd t264 2), .slice none 0 0] 26 (0, 0)) (by (with_reducible repeat (first | refine zc3 ?_ _ | refine zc4 ?_ | refine zc2 ?_ _)); refine blk_put (cs := #[.int .i64 (rd t264 0), .int .i64 (rd t264 1), .int .i64 (rd t264 2), .slice none 0 0]) ?_ 3 _ rfl; (with_reducible repeat (first | refine zc3 ?_ _ | refine zc4 ?_ | refine zc2 ?_ _)); refine blk_put (cs := #[.int .i64 (rd t264 0), .int .i64 (rd t264 1), .int .i64 0, .slice none 0 0]) ?_ 2 _ rfl; (with_reducible repeat (first | refine zc3 ?_ _ | refine zc4 ?_ | refine zc2 ?_ _)); refine blk_put (cs := #[.int .i64 (rd t264 0), .int .i64 0, .int .i64 0, .slice none 0 0]) ?_ 1 _ rfl; (with_reducible repeat (first | refine zc3 ?_ _ | refine zc4 ?_ | refine zc2 ?_ _)); refine blk_put (cs := #[.int .i64 0, .int .i64 0, .int .i64 0, .slice none 0 0]) ?_ 0 _ rfl; (with_reducible repeat (first | refine zc3 ?_ _ | refine zc4 ?_ | refine zc2 ?_ _)); exact BK272.out) hb); have n4_ := zA (zb5 (by repeat (first | (with_reducible first | exact HB.out | apply zb3 | apply zb1 | apply zb2 | refine zb4 ?_ GE259.out | refine zb4 ?_ GE272.out) | exact HB.out)) hb); clear HO263; clear HO268; clear BK259; clear BK272; clear HB; have HO263 := n0_; have HO268 := n1_; have BK259 := n2_; have BK272 := n3_; have HB := n4_; clear n0_ n1_ n2_ n3_ n4_; (try clear hb); (try clear hb2); (try clear hk); (try clear hi); have hcz27_0 : w26.cell? ⟨gb272, 0, none⟩ = some (.int .i64 (rd t264 0)) := (zc1 BK272.out 0).trans rfl; have hcz27_1 : w26.cell? ⟨gb272, 1, none⟩ = some (.int .i64 (rd t264 1)) := (zc1 BK272.out 1).trans rfl; have hcz27_2 : w26.cell? ⟨gb272, 2, none⟩ = some (.int .i64 (rd t264 2)) := (zc1 BK272.out 2).trans rfl; have hcz27_3 : w26.cell? ⟨gb272, 3, none⟩ = some (.slice none 0 0) := (zc1 BK272.out 3).trans rfl; have hfz27_0 := zc5 BK272.out 0; have hfz27_1 := zc5 BK272.out 1; have hfz27_2 := zc5 BK272.out 2; have hfz27_3 := zc5 BK272.out 3) | ((with_reducible refine gate_callee (f := 49) rfl ?_); refine goesL_ (some 49) rfl rfl Tryd.func49 (by kernel_rfl) rfl #[.int .i64 (rd t264 0), .int .i64 (rd t264 1)] rfl (by (try simp only [zm1, zm2, zm3]); first | done | rfl | (simp only [List.length_drop, List.length_take]; rfl) | (simp only [Int.emod_add_emod, Int.add_emod_emod]; rfl)) ?_; (with_reducible refine (remoraref05_Count.calls k (rd t264 0) (rd t264 1) t274 _ A11.out).mono ?_); rintro e w' ⟨rfl, ⟨nd, rfl⟩⟩; refine ⟨_, rfl, ?_⟩; (try (rw [drewN_self w26]; generalize hq_ : World.drewN w26 _ = w26; have n0_ : Aside0 (Kd.R (Kd.int .u8) 5 w26 w.heap.size (fun _ => True) (.slice Ao15 t260.length co15) t260) := ⟨by rw [← hq_]; exact (by (with_reducible repeat (first | apply Kd.R_alloc | apply Kd.R_drewN | apply Kd.R_drew)); exact HO263.out)⟩; have n1_ : Aside0 (Kd.R (Kd.int .i64) 3 w26 w.heap.size (fun _ => True) (.slice (some ad269) t264.length co18) t264) := ⟨by rw [← hq_]; exact (by (with_reducible repeat (first | apply Kd.R_alloc | apply Kd.R_drewN | apply Kd.R_drew)); exact HO268.out)⟩; have n2_ : Aside0 (w26.heap[gb259]? = some (.cells #[.int .i64 0, .int .i64 0, .int .i64 0, .slice none 0 0] 26 (0, 0))) := ⟨by rw [← hq_]; exact (by (with_reducible repeat (first | refine zc3 ?_ _ | refine zc4 ?_ | refine zc2 ?_ _)); exact BK259.out)⟩; have n3_ : Aside0 (w26.heap[gb272]? = some (.cells #[.int .i64 (rd t264 0), .int .i64 (rd t264 1), .int .i64 (rd t264 2), .slice none 0 0] 26 (0, 0))) := ⟨by rw [← hq_]; exact (by (with_reducible repeat (first | refine zc3 ?_ _ | refine zc4 ?_ | refine zc2 ?_ _)); exact BK272.out)⟩; have n4_ : Aside0 (Below w.heap.size w w26) := ⟨by rw [← hq_]; exact (by repeat (first | (with_reducible first | exact HB.out | apply zb3 | apply zb1 | apply zb2 | refine zb4 ?_ GE259.out | refine zb4 ?_ GE272.out) | exact HB.out))⟩; clear HO263 HO268 BK259 BK272 HB hq_; have HO263 := n0_; have HO268 := n1_; have BK259 := n2_; have BK272 := n3_; have HB := n4_; clear n0_ n1_ n2_ n3_ n4_)); have hcz28_0 : w26.cell? ⟨gb259, 0, none⟩ = some (.int .i64 0) := (zc1 BK259.out 0).trans rfl; have hcz28_1 : w26.cell? ⟨gb259, 1, none⟩ = some (.int .i64 0) := (zc1 BK259.out 1).trans rfl; have hcz28_2 : w26.cell? ⟨gb259, 2, none⟩ = some (.int .i64 0) := (zc1 BK259.out 2).trans rfl; have hcz28_3 : w26.cell? ⟨gb259, 3, none⟩ = some (.slice none 0 0) := (zc1 BK259.out 3).trans rfl; have hfz28_0 := zc5 BK259.out 0; have hfz28_1 := zc5 BK259.out 1; have hfz28_2 := zc5 BK259.out 2; have hfz28_3 := zc5 BK259.out 3; (try have hcy259_0 : w26.cell? ⟨gb259, 0, none⟩ = some (.int .i64 0) := (zc1 BK259.out 0).trans rfl); (try have hcy259_1 : w26.cell? ⟨gb259, 1, none⟩ = some (.int .i64 0) := (zc1 BK259.out 1).trans rfl); (try have hcy259_2 : w26.cell? ⟨gb259, 2, none⟩ = some (.int .i64 0) := (zc1 BK259.out 2).trans rfl); (try have hcy259_3 : w26.cell? ⟨gb259, 3, none⟩ = some (.slice none 0 0) := (zc1 BK259.out 3).trans rfl); (try have hcy272_0 : w26.cell? ⟨gb272, 0, none⟩ = some (.int .i64 (rd t264 0)) := (zc1 BK272.out 0).trans rfl); (try have hcy272_1 : w26.cell? ⟨gb272, 1, none⟩ = some (.int .i64 (rd t264 1)) := (zc1 BK272.out 1).trans rfl); (try have hcy272_2 : w26.cell? ⟨gb272, 2, none⟩ = some (.int .i64 (rd t264 2)) := (zc1 BK272.out 2).trans rfl); (try have hcy272_3 : w26.cell? ⟨gb272, 3, none⟩ = some (.slice none 0 0) := (zc1 BK272.out 3).trans rfl)))
        refine bodyPost_ret (results_ct rfl _ _ gb259 26 #[.int .i64 0, .int .i64 0, .int .i64 0, .slice none 0 0] (0, 0) _ rfl (by (with_reducible repeat (first | refine zc3 ?_ _ | refine zc4 ?_ | refine zc2 ?_ _)); refine blk_put (cs := #[.int .i64 0, .int .i64 0, .int .i64 0, .slice none 0 0]) ?_ 3 _ rfl; (with_reducible repeat (first | refine zc3 ?_ _ | refine zc4 ?_ | refine zc2 ?_ _)); refine blk_put (cs := #[.int .i64 0, .int .i64 0, .int .i64 0, .slice none 0 0]) ?_ 2 _ rfl; (with_reducible repeat (first | refine zc3 ?_ _ | refine zc4 ?_ | refine zc2 ?_ _)); refine blk_put (cs := #[.int .i64 0, .int .i64 0, .int .i64 0, .slice none 0 0]) ?_ 1 _ rfl; (with_reducible repeat (first | refine zc3 ?_ _ | refine zc4 ?_ | refine zc2 ?_ _)); refine blk_put (cs := #[.int .i64 0, .int .i64 0, .int .i64 0, .slice none 0 0]) ?_ 0 _ rfl; (with_reducible repeat (first | refine zc3 ?_ _ | refine zc4 ?_ | refine zc2 ?_ _)); exact BK259.out) Tryd.underlying26 rfl (by kernel_rfl)) rfl ?_
        exact ⟨_, by first | rfl | (simp [*] <;> rfl), by first | exact Kd.R_nil _ _ _ _ _ | exact Kd.N_nil _ _ _ _ _ | exact Kd.V_nil _ _ _ _ _ | exact Kd.Q_nil _ _ _ _ _ | exact Kd.S_nil _ _ _ _ _, by repeat (first | (with_reducible first | exact HB.out | apply zb3 | apply zb1 | apply zb2 | refine zb4 ?_ GE259.out | refine zb4 ?_ GE272.out) | exact HB.out)⟩
       ·rw [if_neg c12] at H
        have c12b0 : decide ((wrap64 ((t260.length : Int) - t265)) < (wrap64 (t274 * (wrap64 (4 + (rd t264 2)))))) = false := zd2 c12
        clear c12
        by_cases c29 : (wrap64 ((t260.length : Int) - t265)) > (wrap64 (t274 * (wrap64 (4 + (rd t264 2)))))
        ·rw [if_pos c29] at H
         have c29b0 : decide ((wrap64 (t274 * (wrap64 (4 + (rd t264 2))))) < (wrap64 ((t260.length : Int) - t265))) = true := zd1 c29
         clear c29
         simp only [Option.some.injEq, Prod.mk.injEq] at H
         obtain ⟨rfl, rfl, rfl, rfl, rfl⟩ := H
         go_enter Tryd.func28, Tryd.ntmps28
         try go_wp2_with (first | ((with_reducible refine gate_dst (N := 2) rfl ?_); refine box_event ?hg (N := 2) ?hd (cs := #[.int .i64 0, .int .i64 0, .int .i64 0, .slice none 0 0]) (t := 26) ?hr ?_; (case hd => rfl); (case hg => rfl); (case hr => first | (go_simp; done) | (go_simp; rfl)); intro gb259 hg w30 hbox hb; have n0_ := zA (zb5 (by repeat (first | (with_reducible first | exact HB.out | apply zb3 | apply zb1 | apply zb2) | exact HB.out)) hb); have n1_ := zA (hbox); have n2_ := zA ((by rw [hg]; exact (zb6 (by repeat (first | (with_reducible first | exact HB.out | apply zb3 | apply zb1 | apply zb2) | exact HB.out))) : w.heap.size ≤ gb259)); have n3_ := zA ((by rw [hg]; exact (zb6 (by repeat (first | (with_reducible first | exact HB.out | apply zb3 | apply zb1 | apply zb2) | exact HB.out))) : w.heap.size ≤ gb259)); clear HB; have HB := n0_; have BK259 := n1_; have GW259 := n2_; have GE259 := n3_; clear n0_ n1_ n2_ n3_; clear hb hbox hg) | ((with_reducible refine gate_callee (f := 55) rfl ?_); refine goesL_ (some 12) rfl rfl Tryd.func55 (by kernel_rfl) rfl #[.slice A0 l0.length c0] rfl (by (try simp only [zm1, zm2, zm3]); first | done | rfl | (simp only [List.length_drop, List.length_take]; rfl) | (simp only [Int.emod_add_emod, Int.add_emod_emod]; rfl)) ?_; (with_reducible refine (remoraref02_Open.calls k _ _ l0 t260 t261 _ ?side1 ?side2 A2.out).mono ?_); (case side1 => repeat (first | exact (Kd.C_below HR0.out HB.out) | (with_reducible refine Kd.C_alloc ?_ _) | (with_reducible refine Kd.C_drewN ?_ _) | (with_reducible refine Kd.C_drew ?_))); (case side2 => exact HC0.out); rintro e w31 ⟨v262, rfl, ho0, hb⟩; refine ⟨_, rfl, ?_⟩; have n0_ := zA (Kd.R_lower ho0 (zb6 (by repeat (first | (with_reducible first | exact HB.out | apply zb3 | apply zb1 | apply zb2 | refine zb4 ?_ GE259.out) | exact HB.out)))); have n1_ := zA (zc6 (g := gb259) (o := .cells #[.int .i64 0, .int .i64 0, .int .i64 0, .slice none 0 0] 26 (0, 0)) (by (with_reducible repeat (first | refine zc3 ?_ _ | refine zc4 ?_ | refine zc2 ?_ _)); exact BK259.out) hb); have n2_ := zA (zb5 (by repeat (first | (with_reducible first | exact HB.out | apply zb3 | apply zb1 | apply zb2 | refine zb4 ?_ GE259.out) | exact HB.out)) hb); clear BK259; clear HB; have HO263 := n0_; have BK259 := n1_; have HB := n2_; clear n0_ n1_ n2_; (try clear hb); (try clear hb2); (try clear hk); (try clear hi); (try clear ho0); obtain ⟨Ao32, co32, eo32⟩ := Kd.R_slice HO263.out; subst eo32) | ((with_reducible refine gate_callee (f := 56) rfl ?_); refine goesL_ (some 21) rfl rfl Tryd.func56 (by kernel_rfl) rfl #[.slice Ao32 t260.length co32] rfl (by (try simp only [zm1, zm2, zm3]); first | done | rfl | (simp only [List.length_drop, List.length_take]; rfl) | (simp only [Int.emod_add_emod, Int.add_emod_emod]; rfl)) ?_; (with_reducible refine (remoraref06_three.calls k _ _ t260 t264 t265 t266 _ ?side1 ?side2 A4.out).mono ?_); (case side1 => repeat (first | exact (Kd.R_reads' HO263.out).2.2 | (with_reducible refine Kd.C_alloc ?_ _) | (with_reducible refine Kd.C_drewN ?_ _) | (with_reducible refine Kd.C_drew ?_))); (case side2 => exact (Kd.R_reads' HO263.out).2.1); rintro e w33 ⟨v267, rfl, ho0, hb⟩; refine ⟨_, rfl, ?_⟩; have n0_ := zA (Kd.R_below (by (with_reducible repeat (first | apply Kd.R_alloc | apply Kd.R_drewN | apply Kd.R_drew)); exact HO263.out) hb); have n1_ := zA (Kd.R_lower ho0 (zb6 (by repeat (first | (with_reducible first | exact HB.out | apply zb3 | apply zb1 | apply zb2 | refine zb4 ?_ GE259.out) | exact HB.out)))); have n2_ := zA (zc6 (g := gb259) (o := .cells #[.int .i64 0, .int .i64 0, .int .i64 0, .slice none 0 0] 26 (0, 0)) (by (with_reducible repeat (first | refine zc3 ?_ _ | refine zc4 ?_ | refine zc2 ?_ _)); exact BK259.out) hb); have n3_ := zA (zb5 (by repeat (first | (with_reducible first | exact HB.out | apply zb3 | apply zb1 | apply zb2 | refine zb4 ?_ GE259.out) | exact HB.out)) hb); clear HO263; clear BK259; clear HB; have HO263 := n0_; have HO268 := n1_; have BK259 := n2_; have HB := n3_; clear n0_ n1_ n2_ n3_; (try clear hb); (try clear hb2); (try clear hk); (try clear hi); (try clear ho0)))
         have n0_ := zA (Kd.R_drew HO263.out)
         have n1_ := zA (Kd.R_drew HO268.out)
         have n2_ := zA (zc4 BK259.out)
         have n3_ := zA (zb2 HB.out)
         clear HO263
         clear HO268
         clear BK259
         clear HB
         have HO263 := n0_
         have HO268 := n1_
         have BK259 := n2_
         have HB := n3_
         clear n0_ n1_ n2_ n3_
         obtain ⟨Ao35, co35, eo35⟩ := Kd.R_slice HO268.out
         (first | subst eo35 | (injection eo35 with f1_ f2_ f3_; have f4_ := f1_.symm; have f5_ := f3_.symm; clear f1_ f2_ f3_; subst f4_; subst f5_))
         have p269 : 0 ≤ (0 : Int) := (by omega)
         have q269 : 0 < (t264.length : Int) := zd3 (by first | (with_reducible assumption) | assumption)
         obtain ⟨ad269, e269, hx269_0⟩ := Kd.at_int (Kd.R_reads' HO268.out).2.2 0 p269 q269
         cases e269
         have qi269 : (0 < t264.length) = True := eq_true (by omega)
         (try rw [show ((0 : Int)).toNat = 0 from rfl] at hx269_0)
         (try rw [Addr.add_zero'] at hx269_0)
         replace p269 := eq_true p269
         replace q269 := eq_true q269
         have p270 : 0 ≤ (1 : Int) := (by omega)
         have q270 : 1 < (t264.length : Int) := zd3 (by first | (with_reducible assumption) | assumption)
         obtain ⟨ad270, e270, hx270_0⟩ := Kd.at_int (Kd.R_reads' HO268.out).2.2 1 p270 q270
         obtain rfl : ad269 = ad270 := (by injection e270)
         (try simp only [show (1 : Int).toNat = 1 from rfl, Nat.reduceMul, Nat.reduceEqDiff, Go.Addr.add, ↓reduceIte] at hx270_0)
         have qi270 : (1 < t264.length) = True := eq_true (by omega)
         (try rw [show ((1 : Int)).toNat = 1 from rfl] at hx270_0)
         replace p270 := eq_true p270
         replace q270 := eq_true q270
         have p271 : 0 ≤ (2 : Int) := (by omega)
         have q271 : 2 < (t264.length : Int) := zd3 (by first | (with_reducible assumption) | assumption)
         obtain ⟨ad271, e271, hx271_0⟩ := Kd.at_int (Kd.R_reads' HO268.out).2.2 2 p271 q271
         obtain rfl : ad269 = ad271 := (by injection e271)
         (try simp only [show (2 : Int).toNat = 2 from rfl, Nat.reduceMul, Nat.reduceEqDiff, Go.Addr.add, ↓reduceIte] at hx271_0)
         have qi271 : (2 < t264.length) = True := eq_true (by omega)
         (try rw [show ((2 : Int)).toNat = 2 from rfl] at hx271_0)
         replace p271 := eq_true p271
         replace q271 := eq_true q271
         refine start_ (n := 12) (S := fun w' => w'.cell? ad269 = some (.int .i64 (rd t264 0)) ∧ w'.cell? ⟨ad269.block, ad269.off + 1, none⟩ = some (.int .i64 (rd t264 1)) ∧ w'.cell? ⟨ad269.block, ad269.off + 2, none⟩ = some (.int .i64 (rd t264 2))) (ds := []) #[false, false, false, false, false, false, false, false, false, false, false, false] (by kernel_rfl) rfl rfl ⟨hx269_0, hx270_0, hx271_0⟩ (fun hHeld => ?_); refine with_tabW remoraref06_Read.tab7 remoraref06_Read.bits7 (fun HT_ HW_ => ?_)
         generalize w33.drew = w34 at HO263 HO268 BK259 HB hx269_0 hx270_0 hx271_0 hHeld ⊢
         refine pure_ (i := 0) (N := some 29) (v := ?_) (a' := ?_) #[true, false, false, false, false, false, false, false, false, false, false, false] rfl rfl (any_of HT_.out (by kernel_rfl)) (fun _ _ _ h => h) (Or.inl ⟨by rfl, ?_⟩) ?_ ?_
         rotate_left
         ·intro w'
          go_simp
          with_reducible rfl
         rotate_left
         ·simp only [Act.put, zs1, zs2, zs3, i64_w, i32_w]
          rfl
         refine pure_ (i := 1) (N := some 30) (v := ?_) (a' := ?_) #[true, true, false, false, false, false, false, false, false, false, false, false] rfl rfl (any_of HT_.out (by kernel_rfl)) (fun _ _ _ h => h) (Or.inl ⟨by rfl, ?_⟩) ?_ ?_
         rotate_left
         ·intro w'
          go_simp
          with_reducible rfl
         rotate_left
         ·simp only [Act.put, zs1, zs2, zs3, i64_w, i32_w]
          rfl
         refine pure_ (i := 3) (N := some 32) (v := ?_) (a' := ?_) #[true, true, false, true, false, false, false, false, false, false, false, false] rfl rfl (any_of HT_.out (by kernel_rfl)) (fun _ _ _ h => h) (Or.inl ⟨by rfl, ?_⟩) ?_ ?_
         rotate_left
         ·intro w'
          go_simp
          with_reducible rfl
         rotate_left
         ·simp only [Act.put, zs1, zs2, zs3, i64_w, i32_w]
          rfl
         refine pure_ (i := 4) (N := some 33) (v := ?_) (a' := ?_) #[true, true, false, true, true, false, false, false, false, false, false, false] rfl rfl (any_of HT_.out (by kernel_rfl)) (fun _ _ _ h => h) (Or.inl ⟨by rfl, ?_⟩) ?_ ?_
         rotate_left
         ·intro w'
          go_simp
          with_reducible rfl
         rotate_left
         ·simp only [Act.put, zs1, zs2, zs3, i64_w, i32_w]
          rfl
         refine pure_ (i := 6) (N := some 35) (v := ?_) (a' := ?_) #[true, true, false, true, true, false, true, false, false, false, false, false] rfl rfl (any_of HT_.out (by kernel_rfl)) (fun _ _ _ h => h) (Or.inl ⟨by rfl, ?_⟩) ?_ ?_
         rotate_left
         ·intro w'
          go_simp
          with_reducible rfl
         rotate_left
         ·simp only [Act.put, zs1, zs2, zs3, i64_w, i32_w]
          rfl
         refine pure_ (i := 7) (N := some 36) (v := ?_) (a' := ?_) #[true, true, false, true, true, false, true, true, false, false, false, false] rfl rfl (any_of HT_.out (by kernel_rfl)) (fun _ _ _ h => h) (Or.inl ⟨by rfl, ?_⟩) ?_ ?_
         rotate_left
         ·intro w'
          go_simp
          with_reducible rfl
         rotate_left
         ·simp only [Act.put, zs1, zs2, zs3, i64_w, i32_w]
          rfl
         refine take_ (i := 2) (N := some 31) (v := ?_) (a' := ?_) #[true, true, true, true, true, false, true, true, false, false, false, false] rfl rfl (take_ofW HT_.out HW_.out (by kernel_rfl)) (fun _ _ _ h => h) (Or.inl ⟨by rfl, ?_⟩) hHeld ?_ ?_
         rotate_left
         ·rintro w' ⟨s0, s1, s2⟩
          go_simp
          with_reducible rfl
         rotate_left
         ·simp only [Act.put, zs1, zs2, zs3, i64_w, i32_w]
          rfl
         refine take_ (i := 5) (N := some 34) (v := ?_) (a' := ?_) #[true, true, true, true, true, true, true, true, false, false, false, false] rfl rfl (take_ofW HT_.out HW_.out (by kernel_rfl)) (fun _ _ _ h => h) (Or.inl ⟨by rfl, ?_⟩) hHeld ?_ ?_
         rotate_left
         ·rintro w' ⟨s0, s1, s2⟩
          go_simp
          with_reducible rfl
         rotate_left
         ·simp only [Act.put, zs1, zs2, zs3, i64_w, i32_w]
          rfl
         refine take_ (i := 8) (N := some 37) (v := ?_) (a' := ?_) #[true, true, true, true, true, true, true, true, true, false, false, false] rfl rfl (take_ofW HT_.out HW_.out (by kernel_rfl)) (fun _ _ _ h => h) (Or.inl ⟨by rfl, ?_⟩) hHeld ?_ ?_
         rotate_left
         ·rintro w' ⟨s0, s1, s2⟩
          go_simp
          with_reducible rfl
         rotate_left
         ·simp only [Act.put, zs1, zs2, zs3, i64_w, i32_w]
          rfl
         refine pure_ (i := 9) (N := some 38) (v := ?_) (a' := ?_) #[true, true, true, true, true, true, true, true, true, true, false, false] rfl rfl (any_of HT_.out (by kernel_rfl)) (fun _ _ _ h => h) (Or.inl ⟨by rfl, ?_⟩) ?_ ?_
         rotate_left
         ·intro w'
          go_simp
          with_reducible rfl
         rotate_left
         ·simp only [Act.put, zs1, zs2, zs3, i64_w, i32_w]
          rfl
         refine one_ (i := 10) (N := some 7) #[true, true, true, true, true, true, true, true, true, true, true, false] rfl rfl (one_of HT_.out (by kernel_rfl)) (by decide) (fun K hK => ?_)
         refine box_step ?hg (N := 7) ?hd (cs := #[.int .i64 0, .int .i64 0, .int .i64 0, .slice none 0 0]) (t := 26) ?hr ?_; (case hd => rfl); (case hg => rfl); (case hr => first | (go_simp; done) | (go_simp; rfl))
         intro gb272 hg w36 hbox hb
         have HS0_ := (hb.cell (World.block_lt_of_cell? _ _ (hHeld.1))).trans (hHeld.1)
         have HS1_ := (hb.cell (World.block_lt_of_cell? _ _ (hHeld.2.1))).trans (hHeld.2.1)
         have HS2_ := (hb.cell (World.block_lt_of_cell? _ _ (hHeld.2.2))).trans (hHeld.2.2)
         have n0_ := zA (Kd.R_below (by (with_reducible repeat (first | apply Kd.R_alloc | apply Kd.R_drewN | apply Kd.R_drew)); exact HO263.out) hb)
         have n1_ := zA (Kd.R_below (by (with_reducible repeat (first | apply Kd.R_alloc | apply Kd.R_drewN | apply Kd.R_drew)); exact HO268.out) hb)
         have n2_ := zA (zc6 (g := gb259) (o := .cells #[.int .i64 0, .int .i64 0, .int .i64 0, .slice none 0 0] 26 (0, 0)) (by (with_reducible repeat (first | refine zc3 ?_ _ | refine zc4 ?_ | refine zc2 ?_ _)); exact BK259.out) hb)
         have n3_ := zA (zb5 (by repeat (first | (with_reducible first | exact HB.out | apply zb3 | apply zb1 | apply zb2 | refine zb4 ?_ GE259.out) | exact HB.out)) hb)
         have n4_ := zA (hbox)
         have n5_ := zA ((by rw [hg]; exact (zb6 (by repeat (first | (with_reducible first | exact HB.out | apply zb3 | apply zb1 | apply zb2 | refine zb4 ?_ GE259.out) | exact HB.out))) : w.heap.size ≤ gb272))
         have n6_ := zA ((by rw [hg]; exact (zb6 (by repeat (first | (with_reducible first | exact HB.out | apply zb3 | apply zb1 | apply zb2 | refine zb4 ?_ GE259.out) | exact HB.out))) : w.heap.size ≤ gb272))
         have n7_ := zA ((by rw [hg]; exact Nat.ne_of_lt (blk_lt (g := gb259) (o := .cells #[.int .i64 0, .int .i64 0, .int .i64 0, .slice none 0 0] 26 (0, 0)) (by (with_reducible repeat (first | refine zc3 ?_ _ | refine zc4 ?_ | refine zc2 ?_ _)); exact BK259.out)) : gb259 ≠ gb272))
         have n8_ := zA ((by rw [hg]; exact Nat.ne_of_gt (blk_lt (g := gb259) (o := .cells #[.int .i64 0, .int .i64 0, .int .i64 0, .slice none 0 0] 26 (0, 0)) (by (with_reducible repeat (first | refine zc3 ?_ _ | refine zc4 ?_ | refine zc2 ?_ _)); exact BK259.out)) : gb272 ≠ gb259))
         clear HO263
         clear HO268
         clear BK259
         clear HB
         have HO263 := n0_
         have HO268 := n1_
         have BK259 := n2_
         have HB := n3_
         have BK272 := n4_
         have GW272 := n5_
         have GE272 := n6_
         have NB259_272 := n7_
         have NB272_259 := n8_
         clear n0_ n1_ n2_ n3_ n4_ n5_ n6_ n7_ n8_
         clear hb hbox hg
         refine hK.out _ _ ⟨HS0_, HS1_, HS2_⟩ (fun hHeld => ?_)
         clear hK K
         refine norm_ (a' := ?_) ?_ ?_
         rotate_left
         ·show Act.put _ (some 7) _ = _
          simp only [Act.put, zs1, zs2, zs3, i64_w, i32_w]
          rfl
         refine one_ (i := 11) (N := none) #[true, true, true, true, true, true, true, true, true, true, true, true] rfl rfl (one_of HT_.out (by kernel_rfl)) (by decide) (fun K hK => ?_)
         have hs37 : w36.cell? ⟨gb272, 0, none⟩ = some (.int .i64 0) := (zc1 BK272.out 0).trans rfl
         have hfs37 := zc5 BK272.out 0
         have hns37_0 := NB259_272.out
         have hms37_0 := NB272_259.out
         have hs38 : w36.cell? ⟨gb272, 1, none⟩ = some (.int .i64 0) := (zc1 BK272.out 1).trans rfl
         have hfs38 := zc5 BK272.out 1
         have hns38_0 := NB259_272.out
         have hms38_0 := NB272_259.out
         have hs39 : w36.cell? ⟨gb272, 2, none⟩ = some (.int .i64 0) := (zc1 BK272.out 2).trans rfl
         have hfs39 := zc5 BK272.out 2
         have hns39_0 := NB259_272.out
         have hms39_0 := NB272_259.out
         have hs40 : w36.cell? ⟨gb272, 3, none⟩ = some (.slice none 0 0) := (zc1 BK272.out 3).trans rfl
         have hfs40 := zc5 BK272.out 3
         have hns40_0 := NB259_272.out
         have hms40_0 := NB272_259.out
         refine skip_ (w1 := ?_) (by rfl) rfl ?_ ?_
         rotate_left
         ·go_simp
          rfl
         have hfar0_ := Kd.own_blk (Kd.R_ne HO268.out BK272.out (by decide))
         refine hK.out _ _ ⟨((cell_far (p := ⟨gb272, _, none⟩) (by first | exact hfar0_ | (rw [add_block]; exact hfar0_) | (show (Addr.add _ _).block ≠ _; rw [add_block]; exact hfar0_) | (dsimp only; exact hfar0_)) _).trans (((cell_far (p := ⟨gb272, _, none⟩) (by first | exact hfar0_ | (rw [add_block]; exact hfar0_) | (show (Addr.add _ _).block ≠ _; rw [add_block]; exact hfar0_) | (dsimp only; exact hfar0_)) _).trans (((cell_far (p := ⟨gb272, _, none⟩) (by first | exact hfar0_ | (rw [add_block]; exact hfar0_) | (show (Addr.add _ _).block ≠ _; rw [add_block]; exact hfar0_) | (dsimp only; exact hfar0_)) _).trans (((cell_far (p := ⟨gb272, _, none⟩) (by first | exact hfar0_ | (rw [add_block]; exact hfar0_) | (show (Addr.add _ _).block ≠ _; rw [add_block]; exact hfar0_) | (dsimp only; exact hfar0_)) _).trans (hHeld.1)))))))), ((cell_far (p := ⟨gb272, _, none⟩) (by first | exact hfar0_ | (rw [add_block]; exact hfar0_) | (show (Addr.add _ _).block ≠ _; rw [add_block]; exact hfar0_) | (dsimp only; exact hfar0_)) _).trans (((cell_far (p := ⟨gb272, _, none⟩) (by first | exact hfar0_ | (rw [add_block]; exact hfar0_) | (show (Addr.add _ _).block ≠ _; rw [add_block]; exact hfar0_) | (dsimp only; exact hfar0_)) _).trans (((cell_far (p := ⟨gb272, _, none⟩) (by first | exact hfar0_ | (rw [add_block]; exact hfar0_) | (show (Addr.add _ _).block ≠ _; rw [add_block]; exact hfar0_) | (dsimp only; exact hfar0_)) _).trans (((cell_far (p := ⟨gb272, _, none⟩) (by first | exact hfar0_ | (rw [add_block]; exact hfar0_) | (show (Addr.add _ _).block ≠ _; rw [add_block]; exact hfar0_) | (dsimp only; exact hfar0_)) _).trans (hHeld.2.1)))))))), ((cell_far (p := ⟨gb272, _, none⟩) (by first | exact hfar0_ | (rw [add_block]; exact hfar0_) | (show (Addr.add _ _).block ≠ _; rw [add_block]; exact hfar0_) | (dsimp only; exact hfar0_)) _).trans (((cell_far (p := ⟨gb272, _, none⟩) (by first | exact hfar0_ | (rw [add_block]; exact hfar0_) | (show (Addr.add _ _).block ≠ _; rw [add_block]; exact hfar0_) | (dsimp only; exact hfar0_)) _).trans (((cell_far (p := ⟨gb272, _, none⟩) (by first | exact hfar0_ | (rw [add_block]; exact hfar0_) | (show (Addr.add _ _).block ≠ _; rw [add_block]; exact hfar0_) | (dsimp only; exact hfar0_)) _).trans (((cell_far (p := ⟨gb272, _, none⟩) (by first | exact hfar0_ | (rw [add_block]; exact hfar0_) | (show (Addr.add _ _).block ≠ _; rw [add_block]; exact hfar0_) | (dsimp only; exact hfar0_)) _).trans (hHeld.2.2))))))))⟩ (fun hHeld => ?_)
         clear hK K
         refine done_ (done_of HT_.out (by kernel_rfl)) ?_
         have hnb41 := NB272_259.out
         have hnc41 := NB259_272.out
         have hcz42_0 : w36.cell? ⟨gb272, 0, none⟩ = some (.int .i64 0) := (zc1 BK272.out 0).trans rfl
         have hcz42_1 : w36.cell? ⟨gb272, 1, none⟩ = some (.int .i64 0) := (zc1 BK272.out 1).trans rfl
         have hcz42_2 : w36.cell? ⟨gb272, 2, none⟩ = some (.int .i64 0) := (zc1 BK272.out 2).trans rfl
         have hcz42_3 : w36.cell? ⟨gb272, 3, none⟩ = some (.slice none 0 0) := (zc1 BK272.out 3).trans rfl
         have hfz42_0 := zc5 BK272.out 0
         have hfz42_1 := zc5 BK272.out 1
         have hfz42_2 := zc5 BK272.out 2
         have hfz42_3 := zc5 BK272.out 3
         try go_wp2_with (first | ((with_reducible refine gate_callee (f := 48) rfl ?_); refine goesL_ (some 40) rfl rfl Tryd.func48 (by kernel_rfl) rfl #[.agg #[.int .i64 (rd t264 0), .int .i64 (rd t264 1), .int .i64 (rd t264 2), .slice none 0 0]] rfl (by (try simp only [zm1, zm2, zm3]); first | done | rfl | (simp only [List.length_drop, List.length_take]; rfl) | (simp only [Int.emod_add_emod, Int.add_emod_emod]; rfl)) ?_; (refine (remoraref06_head.calls (rd t264 0) (rd t264 1) (rd t264 2) _ _ ([] : List (S44)) t273 _ ?side1 ?side2 A9.out).mono ?_); (case side1 => exact Kd.C_nil _ _); (case side2 => exact Nat.le_refl _); rintro e w43 ⟨rfl, hb⟩; refine ⟨_, rfl, ?_⟩; have n0_ := zA (Kd.R_below (by (with_reducible repeat (first | apply Kd.R_alloc | apply Kd.R_drewN | apply Kd.R_drew)); exact (Kd.R_mono (Kd.R_far (p := ⟨gb272, 3, none⟩) (Kd.R_far (p := ⟨gb272, 2, none⟩) (Kd.R_far (p := ⟨gb272, 1, none⟩) (Kd.R_far (p := ⟨gb272, 0, none⟩) (Kd.R_types HO263.out BK272.out (by decide)) (fun _ hk => hk.2) (.int .i64 (rd t264 0))) (fun _ hk => hk.2) (.int .i64 (rd t264 1))) (fun _ hk => hk.2) (.int .i64 (rd t264 2))) (fun _ hk => hk.2) (.slice none 0 0)) (fun _ h_ => h_.1))) hb); have n1_ := zA (Kd.R_below (by (with_reducible repeat (first | apply Kd.R_alloc | apply Kd.R_drewN | apply Kd.R_drew)); exact (Kd.R_mono (Kd.R_far (p := ⟨gb272, 3, none⟩) (Kd.R_far (p := ⟨gb272, 2, none⟩) (Kd.R_far (p := ⟨gb272, 1, none⟩) (Kd.R_far (p := ⟨gb272, 0, none⟩) (Kd.R_types HO268.out BK272.out (by decide)) (fun _ hk => hk.2) (.int .i64 (rd t264 0))) (fun _ hk => hk.2) (.int .i64 (rd t264 1))) (fun _ hk => hk.2) (.int .i64 (rd t264 2))) (fun _ hk => hk.2) (.slice none 0 0)) (fun _ h_ => h_.1))) hb); have n2_ := zA (zc6 (g := gb259) (o := .cells #[.int .i64 0, .int .i64 0, .int .i64 0, .slice none 0 0] 26 (0, 0)) (by (with_reducible repeat (first | refine zc3 ?_ _ | refine zc4 ?_ | refine zc2 ?_ _)); refine zc7 ?_ NB259_272.out _; (with_reducible repeat (first | refine zc3 ?_ _ | refine zc4 ?_ | refine zc2 ?_ _)); refine zc7 ?_ NB259_272.out _; (with_reducible repeat (first | refine zc3 ?_ _ | refine zc4 ?_ | refine zc2 ?_ _)); refine zc7 ?_ NB259_272.out _; (with_reducible repeat (first | refine zc3 ?_ _ | refine zc4 ?_ | refine zc2 ?_ _)); refine zc7 ?_ NB259_272.out _; (with_reducible repeat (first | refine zc3 ?_ _ | refine zc4 ?_ | refine zc2 ?_ _)); exact BK259.out) hb); have n3_ := zA (zc6 (g := gb272) (o := .cells #[.int .i64 (rd t264 0), .int .i64 (rd t264 1), .int .i64 (rd t264 2), .slice none 0 0] 26 (0, 0)) (by (with_reducible repeat (first | refine zc3 ?_ _ | refine zc4 ?_ | refine zc2 ?_ _)); refine blk_put (cs := #[.int .i64 (rd t264 0), .int .i64 (rd t264 1), .int .i64 (rd t264 2), .slice none 0 0]) ?_ 3 _ rfl; (with_reducible repeat (first | refine zc3 ?_ _ | refine zc4 ?_ | refine zc2 ?_ _)); refine blk_put (cs := #[.int .i64 (rd t264 0), .int .i64 (rd t264 1), .int .i64 0, .slice none 0 0]) ?_ 2 _ rfl; (with_reducible repeat (first | refine zc3 ?_ _ | refine zc4 ?_ | refine zc2 ?_ _)); refine blk_put (cs := #[.int .i64 (rd t264 0), .int .i64 0, .int .i64 0, .slice none 0 0]) ?_ 1 _ rfl; (with_reducible repeat (first | refine zc3 ?_ _ | refine zc4 ?_ | refine zc2 ?_ _)); refine blk_put (cs := #[.int .i64 0, .int .i64 0, .int .i64 0, .slice none 0 0]) ?_ 0 _ rfl; (with_reducible repeat (first | refine zc3 ?_ _ | refine zc4 ?_ | refine zc2 ?_ _)); exact BK272.out) hb); have n4_ := zA (zb5 (by repeat (first | (with_reducible first | exact HB.out | apply zb3 | apply zb1 | apply zb2 | refine zb4 ?_ GE259.out | refine zb4 ?_ GE272.out) | exact HB.out)) hb); clear HO263; clear HO268; clear BK259; clear BK272; clear HB; have HO263 := n0_; have HO268 := n1_; have BK259 := n2_; have BK272 := n3_; have HB := n4_; clear n0_ n1_ n2_ n3_ n4_; (try clear hb); (try clear hb2); (try clear hk); (try clear hi); have hcz44_0 : w43.cell? ⟨gb272, 0, none⟩ = some (.int .i64 (rd t264 0)) := (zc1 BK272.out 0).trans rfl; have hcz44_1 : w43.cell? ⟨gb272, 1, none⟩ = some (.int .i64 (rd t264 1)) := (zc1 BK272.out 1).trans rfl; have hcz44_2 : w43.cell? ⟨gb272, 2, none⟩ = some (.int .i64 (rd t264 2)) := (zc1 BK272.out 2).trans rfl; have hcz44_3 : w43.cell? ⟨gb272, 3, none⟩ = some (.slice none 0 0) := (zc1 BK272.out 3).trans rfl; have hfz44_0 := zc5 BK272.out 0; have hfz44_1 := zc5 BK272.out 1; have hfz44_2 := zc5 BK272.out 2; have hfz44_3 := zc5 BK272.out 3) | ((with_reducible refine gate_callee (f := 49) rfl ?_); refine goesL_ (some 49) rfl rfl Tryd.func49 (by kernel_rfl) rfl #[.int .i64 (rd t264 0), .int .i64 (rd t264 1)] rfl (by (try simp only [zm1, zm2, zm3]); first | done | rfl | (simp only [List.length_drop, List.length_take]; rfl) | (simp only [Int.emod_add_emod, Int.add_emod_emod]; rfl)) ?_; (with_reducible refine (remoraref05_Count.calls k (rd t264 0) (rd t264 1) t274 _ A11.out).mono ?_); rintro e w' ⟨rfl, ⟨nd, rfl⟩⟩; refine ⟨_, rfl, ?_⟩; (try (rw [drewN_self w43]; generalize hq_ : World.drewN w43 _ = w43; have n0_ : Aside0 (Kd.R (Kd.int .u8) 5 w43 w.heap.size (fun _ => True) (.slice Ao32 t260.length co32) t260) := ⟨by rw [← hq_]; exact (by (with_reducible repeat (first | apply Kd.R_alloc | apply Kd.R_drewN | apply Kd.R_drew)); exact HO263.out)⟩; have n1_ : Aside0 (Kd.R (Kd.int .i64) 3 w43 w.heap.size (fun _ => True) (.slice (some ad269) t264.length co35) t264) := ⟨by rw [← hq_]; exact (by (with_reducible repeat (first | apply Kd.R_alloc | apply Kd.R_drewN | apply Kd.R_drew)); exact HO268.out)⟩; have n2_ : Aside0 (w43.heap[gb259]? = some (.cells #[.int .i64 0, .int .i64 0, .int .i64 0, .slice none 0 0] 26 (0, 0))) := ⟨by rw [← hq_]; exact (by (with_reducible repeat (first | refine zc3 ?_ _ | refine zc4 ?_ | refine zc2 ?_ _)); exact BK259.out)⟩; have n3_ : Aside0 (w43.heap[gb272]? = some (.cells #[.int .i64 (rd t264 0), .int .i64 (rd t264 1), .int .i64 (rd t264 2), .slice none 0 0] 26 (0, 0))) := ⟨by rw [← hq_]; exact (by (with_reducible repeat (first | refine zc3 ?_ _ | refine zc4 ?_ | refine zc2 ?_ _)); exact BK272.out)⟩; have n4_ : Aside0 (Below w.heap.size w w43) := ⟨by rw [← hq_]; exact (by repeat (first | (with_reducible first | exact HB.out | apply zb3 | apply zb1 | apply zb2 | refine zb4 ?_ GE259.out | refine zb4 ?_ GE272.out) | exact HB.out))⟩; clear HO263 HO268 BK259 BK272 HB hq_; have HO263 := n0_; have HO268 := n1_; have BK259 := n2_; have BK272 := n3_; have HB := n4_; clear n0_ n1_ n2_ n3_ n4_)); have hcz45_0 : w43.cell? ⟨gb259, 0, none⟩ = some (.int .i64 0) := (zc1 BK259.out 0).trans rfl; have hcz45_1 : w43.cell? ⟨gb259, 1, none⟩ = some (.int .i64 0) := (zc1 BK259.out 1).trans rfl; have hcz45_2 : w43.cell? ⟨gb259, 2, none⟩ = some (.int .i64 0) := (zc1 BK259.out 2).trans rfl; have hcz45_3 : w43.cell? ⟨gb259, 3, none⟩ = some (.slice none 0 0) := (zc1 BK259.out 3).trans rfl; have hfz45_0 := zc5 BK259.out 0; have hfz45_1 := zc5 BK259.out 1; have hfz45_2 := zc5 BK259.out 2; have hfz45_3 := zc5 BK259.out 3; (try have hcy259_0 : w43.cell? ⟨gb259, 0, none⟩ = some (.int .i64 0) := (zc1 BK259.out 0).trans rfl); (try have hcy259_1 : w43.cell? ⟨gb259, 1, none⟩ = some (.int .i64 0) := (zc1 BK259.out 1).trans rfl); (try have hcy259_2 : w43.cell? ⟨gb259, 2, none⟩ = some (.int .i64 0) := (zc1 BK259.out 2).trans rfl); (try have hcy259_3 : w43.cell? ⟨gb259, 3, none⟩ = some (.slice none 0 0) := (zc1 BK259.out 3).trans rfl); (try have hcy272_0 : w43.cell? ⟨gb272, 0, none⟩ = some (.int .i64 (rd t264 0)) := (zc1 BK272.out 0).trans rfl); (try have hcy272_1 : w43.cell? ⟨gb272, 1, none⟩ = some (.int .i64 (rd t264 1)) := (zc1 BK272.out 1).trans rfl); (try have hcy272_2 : w43.cell? ⟨gb272, 2, none⟩ = some (.int .i64 (rd t264 2)) := (zc1 BK272.out 2).trans rfl); (try have hcy272_3 : w43.cell? ⟨gb272, 3, none⟩ = some (.slice none 0 0) := (zc1 BK272.out 3).trans rfl)))
         refine bodyPost_ret (results_ct rfl _ _ gb259 26 #[.int .i64 0, .int .i64 0, .int .i64 0, .slice none 0 0] (0, 0) _ rfl (by (with_reducible repeat (first | refine zc3 ?_ _ | refine zc4 ?_ | refine zc2 ?_ _)); refine blk_put (cs := #[.int .i64 0, .int .i64 0, .int .i64 0, .slice none 0 0]) ?_ 3 _ rfl; (with_reducible repeat (first | refine zc3 ?_ _ | refine zc4 ?_ | refine zc2 ?_ _)); refine blk_put (cs := #[.int .i64 0, .int .i64 0, .int .i64 0, .slice none 0 0]) ?_ 2 _ rfl; (with_reducible repeat (first | refine zc3 ?_ _ | refine zc4 ?_ | refine zc2 ?_ _)); refine blk_put (cs := #[.int .i64 0, .int .i64 0, .int .i64 0, .slice none 0 0]) ?_ 1 _ rfl; (with_reducible repeat (first | refine zc3 ?_ _ | refine zc4 ?_ | refine zc2 ?_ _)); refine blk_put (cs := #[.int .i64 0, .int .i64 0, .int .i64 0, .slice none 0 0]) ?_ 0 _ rfl; (with_reducible repeat (first | refine zc3 ?_ _ | refine zc4 ?_ | refine zc2 ?_ _)); exact BK259.out) Tryd.underlying26 rfl (by kernel_rfl)) rfl ?_
         exact ⟨_, by first | rfl | (simp [*] <;> rfl), by first | exact Kd.R_nil _ _ _ _ _ | exact Kd.N_nil _ _ _ _ _ | exact Kd.V_nil _ _ _ _ _ | exact Kd.Q_nil _ _ _ _ _ | exact Kd.S_nil _ _ _ _ _, by repeat (first | (with_reducible first | exact HB.out | apply zb3 | apply zb1 | apply zb2 | refine zb4 ?_ GE259.out | refine zb4 ?_ GE272.out) | exact HB.out)⟩
        ·rw [if_neg c29] at H
         have c29b0 : decide ((wrap64 (t274 * (wrap64 (4 + (rd t264 2))))) < (wrap64 ((t260.length : Int) - t265))) = false := zd2 c29
         clear c29
         have H' := zA H
         clear H
         go_enter Tryd.func28, Tryd.ntmps28
         try go_wp2_with (first | ((with_reducible refine gate_dst (N := 2) rfl ?_); refine box_event ?hg (N := 2) ?hd (cs := #[.int .i64 0, .int .i64 0, .int .i64 0, .slice none 0 0]) (t := 26) ?hr ?_; (case hd => rfl); (case hg => rfl); (case hr => first | (go_simp; done) | (go_simp; rfl)); intro gb259 hg w46 hbox hb; have n0_ := zA (zb5 (by repeat (first | (with_reducible first | exact HB.out | apply zb3 | apply zb1 | apply zb2) | exact HB.out)) hb); have n1_ := zA (hbox); have n2_ := zA ((by rw [hg]; exact (zb6 (by repeat (first | (with_reducible first | exact HB.out | apply zb3 | apply zb1 | apply zb2) | exact HB.out))) : w.heap.size ≤ gb259)); have n3_ := zA ((by rw [hg]; exact (zb6 (by repeat (first | (with_reducible first | exact HB.out | apply zb3 | apply zb1 | apply zb2) | exact HB.out))) : w.heap.size ≤ gb259)); clear HB; have HB := n0_; have BK259 := n1_; have GW259 := n2_; have GE259 := n3_; clear n0_ n1_ n2_ n3_; clear hb hbox hg) | ((with_reducible refine gate_callee (f := 55) rfl ?_); refine goesL_ (some 12) rfl rfl Tryd.func55 (by kernel_rfl) rfl #[.slice A0 l0.length c0] rfl (by (try simp only [zm1, zm2, zm3]); first | done | rfl | (simp only [List.length_drop, List.length_take]; rfl) | (simp only [Int.emod_add_emod, Int.add_emod_emod]; rfl)) ?_; (with_reducible refine (remoraref02_Open.calls k _ _ l0 t260 t261 _ ?side1 ?side2 A2.out).mono ?_); (case side1 => repeat (first | exact (Kd.C_below HR0.out HB.out) | (with_reducible refine Kd.C_alloc ?_ _) | (with_reducible refine Kd.C_drewN ?_ _) | (with_reducible refine Kd.C_drew ?_))); (case side2 => exact HC0.out); rintro e w47 ⟨v262, rfl, ho0, hb⟩; refine ⟨_, rfl, ?_⟩; have n0_ := zA (Kd.R_lower ho0 (zb6 (by repeat (first | (with_reducible first | exact HB.out | apply zb3 | apply zb1 | apply zb2 | refine zb4 ?_ GE259.out) | exact HB.out)))); have n1_ := zA (zc6 (g := gb259) (o := .cells #[.int .i64 0, .int .i64 0, .int .i64 0, .slice none 0 0] 26 (0, 0)) (by (with_reducible repeat (first | refine zc3 ?_ _ | refine zc4 ?_ | refine zc2 ?_ _)); exact BK259.out) hb); have n2_ := zA (zb5 (by repeat (first | (with_reducible first | exact HB.out | apply zb3 | apply zb1 | apply zb2 | refine zb4 ?_ GE259.out) | exact HB.out)) hb); clear BK259; clear HB; have HO263 := n0_; have BK259 := n1_; have HB := n2_; clear n0_ n1_ n2_; (try clear hb); (try clear hb2); (try clear hk); (try clear hi); (try clear ho0); obtain ⟨Ao48, co48, eo48⟩ := Kd.R_slice HO263.out; subst eo48) | ((with_reducible refine gate_callee (f := 56) rfl ?_); refine goesL_ (some 21) rfl rfl Tryd.func56 (by kernel_rfl) rfl #[.slice Ao48 t260.length co48] rfl (by (try simp only [zm1, zm2, zm3]); first | done | rfl | (simp only [List.length_drop, List.length_take]; rfl) | (simp only [Int.emod_add_emod, Int.add_emod_emod]; rfl)) ?_; (with_reducible refine (remoraref06_three.calls k _ _ t260 t264 t265 t266 _ ?side1 ?side2 A4.out).mono ?_); (case side1 => repeat (first | exact (Kd.R_reads' HO263.out).2.2 | (with_reducible refine Kd.C_alloc ?_ _) | (with_reducible refine Kd.C_drewN ?_ _) | (with_reducible refine Kd.C_drew ?_))); (case side2 => exact (Kd.R_reads' HO263.out).2.1); rintro e w49 ⟨v267, rfl, ho0, hb⟩; refine ⟨_, rfl, ?_⟩; have n0_ := zA (Kd.R_below (by (with_reducible repeat (first | apply Kd.R_alloc | apply Kd.R_drewN | apply Kd.R_drew)); exact HO263.out) hb); have n1_ := zA (Kd.R_lower ho0 (zb6 (by repeat (first | (with_reducible first | exact HB.out | apply zb3 | apply zb1 | apply zb2 | refine zb4 ?_ GE259.out) | exact HB.out)))); have n2_ := zA (zc6 (g := gb259) (o := .cells #[.int .i64 0, .int .i64 0, .int .i64 0, .slice none 0 0] 26 (0, 0)) (by (with_reducible repeat (first | refine zc3 ?_ _ | refine zc4 ?_ | refine zc2 ?_ _)); exact BK259.out) hb); have n3_ := zA (zb5 (by repeat (first | (with_reducible first | exact HB.out | apply zb3 | apply zb1 | apply zb2 | refine zb4 ?_ GE259.out) | exact HB.out)) hb); clear HO263; clear BK259; clear HB; have HO263 := n0_; have HO268 := n1_; have BK259 := n2_; have HB := n3_; clear n0_ n1_ n2_ n3_; (try clear hb); (try clear hb2); (try clear hk); (try clear hi); (try clear ho0)))
         have n0_ := zA (Kd.R_drew HO263.out)
         have n1_ := zA (Kd.R_drew HO268.out)
         have n2_ := zA (zc4 BK259.out)
         have n3_ := zA (zb2 HB.out)
         clear HO263
         clear HO268
         clear BK259
         clear HB
         have HO263 := n0_
         have HO268 := n1_
         have BK259 := n2_
         have HB := n3_
         clear n0_ n1_ n2_ n3_
         obtain ⟨Ao51, co51, eo51⟩ := Kd.R_slice HO268.out
         (first | subst eo51 | (injection eo51 with f1_ f2_ f3_; have f4_ := f1_.symm; have f5_ := f3_.symm; clear f1_ f2_ f3_; subst f4_; subst f5_))
         have p269 : 0 ≤ (0 : Int) := (by omega)
         have q269 : 0 < (t264.length : Int) := zd3 (by first | (with_reducible assumption) | assumption)
         obtain ⟨ad269, e269, hx269_0⟩ := Kd.at_int (Kd.R_reads' HO268.out).2.2 0 p269 q269
         cases e269
         have qi269 : (0 < t264.length) = True := eq_true (by omega)
         (try rw [show ((0 : Int)).toNat = 0 from rfl] at hx269_0)
         (try rw [Addr.add_zero'] at hx269_0)
         replace p269 := eq_true p269
         replace q269 := eq_true q269
         have p270 : 0 ≤ (1 : Int) := (by omega)
         have q270 : 1 < (t264.length : Int) := zd3 (by first | (with_reducible assumption) | assumption)
         obtain ⟨ad270, e270, hx270_0⟩ := Kd.at_int (Kd.R_reads' HO268.out).2.2 1 p270 q270
         obtain rfl : ad269 = ad270 := (by injection e270)
         (try simp only [show (1 : Int).toNat = 1 from rfl, Nat.reduceMul, Nat.reduceEqDiff, Go.Addr.add, ↓reduceIte] at hx270_0)
         have qi270 : (1 < t264.length) = True := eq_true (by omega)
         (try rw [show ((1 : Int)).toNat = 1 from rfl] at hx270_0)
         replace p270 := eq_true p270
         replace q270 := eq_true q270
         have p271 : 0 ≤ (2 : Int) := (by omega)
         have q271 : 2 < (t264.length : Int) := zd3 (by first | (with_reducible assumption) | assumption)
         obtain ⟨ad271, e271, hx271_0⟩ := Kd.at_int (Kd.R_reads' HO268.out).2.2 2 p271 q271
         obtain rfl : ad269 = ad271 := (by injection e271)
         (try simp only [show (2 : Int).toNat = 2 from rfl, Nat.reduceMul, Nat.reduceEqDiff, Go.Addr.add, ↓reduceIte] at hx271_0)
         have qi271 : (2 < t264.length) = True := eq_true (by omega)
         (try rw [show ((2 : Int)).toNat = 2 from rfl] at hx271_0)
         replace p271 := eq_true p271
         replace q271 := eq_true q271
         refine start_ (n := 12) (S := fun w' => w'.cell? ad269 = some (.int .i64 (rd t264 0)) ∧ w'.cell? ⟨ad269.block, ad269.off + 1, none⟩ = some (.int .i64 (rd t264 1)) ∧ w'.cell? ⟨ad269.block, ad269.off + 2, none⟩ = some (.int .i64 (rd t264 2))) (ds := []) #[false, false, false, false, false, false, false, false, false, false, false, false] (by kernel_rfl) rfl rfl ⟨hx269_0, hx270_0, hx271_0⟩ (fun hHeld => ?_); refine with_tabW remoraref06_Read.tab7 remoraref06_Read.bits7 (fun HT_ HW_ => ?_)
         generalize w49.drew = w50 at HO263 HO268 BK259 HB hx269_0 hx270_0 hx271_0 hHeld ⊢
         refine pure_ (i := 0) (N := some 29) (v := ?_) (a' := ?_) #[true, false, false, false, false, false, false, false, false, false, false, false] rfl rfl (any_of HT_.out (by kernel_rfl)) (fun _ _ _ h => h) (Or.inl ⟨by rfl, ?_⟩) ?_ ?_
         rotate_left
         ·intro w'
          go_simp
          with_reducible rfl
         rotate_left
         ·simp only [Act.put, zs1, zs2, zs3, i64_w, i32_w]
          rfl
         refine pure_ (i := 1) (N := some 30) (v := ?_) (a' := ?_) #[true, true, false, false, false, false, false, false, false, false, false, false] rfl rfl (any_of HT_.out (by kernel_rfl)) (fun _ _ _ h => h) (Or.inl ⟨by rfl, ?_⟩) ?_ ?_
         rotate_left
         ·intro w'
          go_simp
          with_reducible rfl
         rotate_left
         ·simp only [Act.put, zs1, zs2, zs3, i64_w, i32_w]
          rfl
         refine pure_ (i := 3) (N := some 32) (v := ?_) (a' := ?_) #[true, true, false, true, false, false, false, false, false, false, false, false] rfl rfl (any_of HT_.out (by kernel_rfl)) (fun _ _ _ h => h) (Or.inl ⟨by rfl, ?_⟩) ?_ ?_
         rotate_left
         ·intro w'
          go_simp
          with_reducible rfl
         rotate_left
         ·simp only [Act.put, zs1, zs2, zs3, i64_w, i32_w]
          rfl
         refine pure_ (i := 4) (N := some 33) (v := ?_) (a' := ?_) #[true, true, false, true, true, false, false, false, false, false, false, false] rfl rfl (any_of HT_.out (by kernel_rfl)) (fun _ _ _ h => h) (Or.inl ⟨by rfl, ?_⟩) ?_ ?_
         rotate_left
         ·intro w'
          go_simp
          with_reducible rfl
         rotate_left
         ·simp only [Act.put, zs1, zs2, zs3, i64_w, i32_w]
          rfl
         refine pure_ (i := 6) (N := some 35) (v := ?_) (a' := ?_) #[true, true, false, true, true, false, true, false, false, false, false, false] rfl rfl (any_of HT_.out (by kernel_rfl)) (fun _ _ _ h => h) (Or.inl ⟨by rfl, ?_⟩) ?_ ?_
         rotate_left
         ·intro w'
          go_simp
          with_reducible rfl
         rotate_left
         ·simp only [Act.put, zs1, zs2, zs3, i64_w, i32_w]
          rfl
         refine pure_ (i := 7) (N := some 36) (v := ?_) (a' := ?_) #[true, true, false, true, true, false, true, true, false, false, false, false] rfl rfl (any_of HT_.out (by kernel_rfl)) (fun _ _ _ h => h) (Or.inl ⟨by rfl, ?_⟩) ?_ ?_
         rotate_left
         ·intro w'
          go_simp
          with_reducible rfl
         rotate_left
         ·simp only [Act.put, zs1, zs2, zs3, i64_w, i32_w]
          rfl
         refine take_ (i := 2) (N := some 31) (v := ?_) (a' := ?_) #[true, true, true, true, true, false, true, true, false, false, false, false] rfl rfl (take_ofW HT_.out HW_.out (by kernel_rfl)) (fun _ _ _ h => h) (Or.inl ⟨by rfl, ?_⟩) hHeld ?_ ?_
         rotate_left
         ·rintro w' ⟨s0, s1, s2⟩
          go_simp
          with_reducible rfl
         rotate_left
         ·simp only [Act.put, zs1, zs2, zs3, i64_w, i32_w]
          rfl
         refine take_ (i := 5) (N := some 34) (v := ?_) (a' := ?_) #[true, true, true, true, true, true, true, true, false, false, false, false] rfl rfl (take_ofW HT_.out HW_.out (by kernel_rfl)) (fun _ _ _ h => h) (Or.inl ⟨by rfl, ?_⟩) hHeld ?_ ?_
         rotate_left
         ·rintro w' ⟨s0, s1, s2⟩
          go_simp
          with_reducible rfl
         rotate_left
         ·simp only [Act.put, zs1, zs2, zs3, i64_w, i32_w]
          rfl
         refine take_ (i := 8) (N := some 37) (v := ?_) (a' := ?_) #[true, true, true, true, true, true, true, true, true, false, false, false] rfl rfl (take_ofW HT_.out HW_.out (by kernel_rfl)) (fun _ _ _ h => h) (Or.inl ⟨by rfl, ?_⟩) hHeld ?_ ?_
         rotate_left
         ·rintro w' ⟨s0, s1, s2⟩
          go_simp
          with_reducible rfl
         rotate_left
         ·simp only [Act.put, zs1, zs2, zs3, i64_w, i32_w]
          rfl
         refine pure_ (i := 9) (N := some 38) (v := ?_) (a' := ?_) #[true, true, true, true, true, true, true, true, true, true, false, false] rfl rfl (any_of HT_.out (by kernel_rfl)) (fun _ _ _ h => h) (Or.inl ⟨by rfl, ?_⟩) ?_ ?_
         rotate_left
         ·intro w'
          go_simp
          with_reducible rfl
         rotate_left
         ·simp only [Act.put, zs1, zs2, zs3, i64_w, i32_w]
          rfl
         refine one_ (i := 10) (N := some 7) #[true, true, true, true, true, true, true, true, true, true, true, false] rfl rfl (one_of HT_.out (by kernel_rfl)) (by decide) (fun K hK => ?_)
         refine box_step ?hg (N := 7) ?hd (cs := #[.int .i64 0, .int .i64 0, .int .i64 0, .slice none 0 0]) (t := 26) ?hr ?_; (case hd => rfl); (case hg => rfl); (case hr => first | (go_simp; done) | (go_simp; rfl))
         intro gb272 hg w52 hbox hb
         have HS0_ := (hb.cell (World.block_lt_of_cell? _ _ (hHeld.1))).trans (hHeld.1)
         have HS1_ := (hb.cell (World.block_lt_of_cell? _ _ (hHeld.2.1))).trans (hHeld.2.1)
         have HS2_ := (hb.cell (World.block_lt_of_cell? _ _ (hHeld.2.2))).trans (hHeld.2.2)
         have n0_ := zA (Kd.R_below (by (with_reducible repeat (first | apply Kd.R_alloc | apply Kd.R_drewN | apply Kd.R_drew)); exact HO263.out) hb)
         have n1_ := zA (Kd.R_below (by (with_reducible repeat (first | apply Kd.R_alloc | apply Kd.R_drewN | apply Kd.R_drew)); exact HO268.out) hb)
         have n2_ := zA (zc6 (g := gb259) (o := .cells #[.int .i64 0, .int .i64 0, .int .i64 0, .slice none 0 0] 26 (0, 0)) (by (with_reducible repeat (first | refine zc3 ?_ _ | refine zc4 ?_ | refine zc2 ?_ _)); exact BK259.out) hb)
         have n3_ := zA (zb5 (by repeat (first | (with_reducible first | exact HB.out | apply zb3 | apply zb1 | apply zb2 | refine zb4 ?_ GE259.out) | exact HB.out)) hb)
         have n4_ := zA (hbox)
         have n5_ := zA ((by rw [hg]; exact (zb6 (by repeat (first | (with_reducible first | exact HB.out | apply zb3 | apply zb1 | apply zb2 | refine zb4 ?_ GE259.out) | exact HB.out))) : w.heap.size ≤ gb272))
         have n6_ := zA ((by rw [hg]; exact (zb6 (by repeat (first | (with_reducible first | exact HB.out | apply zb3 | apply zb1 | apply zb2 | refine zb4 ?_ GE259.out) | exact HB.out))) : w.heap.size ≤ gb272))
         have n7_ := zA ((by rw [hg]; exact Nat.ne_of_lt (blk_lt (g := gb259) (o := .cells #[.int .i64 0, .int .i64 0, .int .i64 0, .slice none 0 0] 26 (0, 0)) (by (with_reducible repeat (first | refine zc3 ?_ _ | refine zc4 ?_ | refine zc2 ?_ _)); exact BK259.out)) : gb259 ≠ gb272))
         have n8_ := zA ((by rw [hg]; exact Nat.ne_of_gt (blk_lt (g := gb259) (o := .cells #[.int .i64 0, .int .i64 0, .int .i64 0, .slice none 0 0] 26 (0, 0)) (by (with_reducible repeat (first | refine zc3 ?_ _ | refine zc4 ?_ | refine zc2 ?_ _)); exact BK259.out)) : gb272 ≠ gb259))
         clear HO263
         clear HO268
         clear BK259
         clear HB
         have HO263 := n0_
         have HO268 := n1_
         have BK259 := n2_
         have HB := n3_
         have BK272 := n4_
         have GW272 := n5_
         have GE272 := n6_
         have NB259_272 := n7_
         have NB272_259 := n8_
         clear n0_ n1_ n2_ n3_ n4_ n5_ n6_ n7_ n8_
         clear hb hbox hg
         refine hK.out _ _ ⟨HS0_, HS1_, HS2_⟩ (fun hHeld => ?_)
         clear hK K
         refine norm_ (a' := ?_) ?_ ?_
         rotate_left
         ·show Act.put _ (some 7) _ = _
          simp only [Act.put, zs1, zs2, zs3, i64_w, i32_w]
          rfl
         refine one_ (i := 11) (N := none) #[true, true, true, true, true, true, true, true, true, true, true, true] rfl rfl (one_of HT_.out (by kernel_rfl)) (by decide) (fun K hK => ?_)
         have hs53 : w52.cell? ⟨gb272, 0, none⟩ = some (.int .i64 0) := (zc1 BK272.out 0).trans rfl
         have hfs53 := zc5 BK272.out 0
         have hns53_0 := NB259_272.out
         have hms53_0 := NB272_259.out
         have hs54 : w52.cell? ⟨gb272, 1, none⟩ = some (.int .i64 0) := (zc1 BK272.out 1).trans rfl
         have hfs54 := zc5 BK272.out 1
         have hns54_0 := NB259_272.out
         have hms54_0 := NB272_259.out
         have hs55 : w52.cell? ⟨gb272, 2, none⟩ = some (.int .i64 0) := (zc1 BK272.out 2).trans rfl
         have hfs55 := zc5 BK272.out 2
         have hns55_0 := NB259_272.out
         have hms55_0 := NB272_259.out
         have hs56 : w52.cell? ⟨gb272, 3, none⟩ = some (.slice none 0 0) := (zc1 BK272.out 3).trans rfl
         have hfs56 := zc5 BK272.out 3
         have hns56_0 := NB259_272.out
         have hms56_0 := NB272_259.out
         refine skip_ (w1 := ?_) (by rfl) rfl ?_ ?_
         rotate_left
         ·go_simp
          rfl
         have hfar0_ := Kd.own_blk (Kd.R_ne HO268.out BK272.out (by decide))
         refine hK.out _ _ ⟨((cell_far (p := ⟨gb272, _, none⟩) (by first | exact hfar0_ | (rw [add_block]; exact hfar0_) | (show (Addr.add _ _).block ≠ _; rw [add_block]; exact hfar0_) | (dsimp only; exact hfar0_)) _).trans (((cell_far (p := ⟨gb272, _, none⟩) (by first | exact hfar0_ | (rw [add_block]; exact hfar0_) | (show (Addr.add _ _).block ≠ _; rw [add_block]; exact hfar0_) | (dsimp only; exact hfar0_)) _).trans (((cell_far (p := ⟨gb272, _, none⟩) (by first | exact hfar0_ | (rw [add_block]; exact hfar0_) | (show (Addr.add _ _).block ≠ _; rw [add_block]; exact hfar0_) | (dsimp only; exact hfar0_)) _).trans (((cell_far (p := ⟨gb272, _, none⟩) (by first | exact hfar0_ | (rw [add_block]; exact hfar0_) | (show (Addr.add _ _).block ≠ _; rw [add_block]; exact hfar0_) | (dsimp only; exact hfar0_)) _).trans (hHeld.1)))))))), ((cell_far (p := ⟨gb272, _, none⟩) (by first | exact hfar0_ | (rw [add_block]; exact hfar0_) | (show (Addr.add _ _).block ≠ _; rw [add_block]; exact hfar0_) | (dsimp only; exact hfar0_)) _).trans (((cell_far (p := ⟨gb272, _, none⟩) (by first | exact hfar0_ | (rw [add_block]; exact hfar0_) | (show (Addr.add _ _).block ≠ _; rw [add_block]; exact hfar0_) | (dsimp only; exact hfar0_)) _).trans (((cell_far (p := ⟨gb272, _, none⟩) (by first | exact hfar0_ | (rw [add_block]; exact hfar0_) | (show (Addr.add _ _).block ≠ _; rw [add_block]; exact hfar0_) | (dsimp only; exact hfar0_)) _).trans (((cell_far (p := ⟨gb272, _, none⟩) (by first | exact hfar0_ | (rw [add_block]; exact hfar0_) | (show (Addr.add _ _).block ≠ _; rw [add_block]; exact hfar0_) | (dsimp only; exact hfar0_)) _).trans (hHeld.2.1)))))))), ((cell_far (p := ⟨gb272, _, none⟩) (by first | exact hfar0_ | (rw [add_block]; exact hfar0_) | (show (Addr.add _ _).block ≠ _; rw [add_block]; exact hfar0_) | (dsimp only; exact hfar0_)) _).trans (((cell_far (p := ⟨gb272, _, none⟩) (by first | exact hfar0_ | (rw [add_block]; exact hfar0_) | (show (Addr.add _ _).block ≠ _; rw [add_block]; exact hfar0_) | (dsimp only; exact hfar0_)) _).trans (((cell_far (p := ⟨gb272, _, none⟩) (by first | exact hfar0_ | (rw [add_block]; exact hfar0_) | (show (Addr.add _ _).block ≠ _; rw [add_block]; exact hfar0_) | (dsimp only; exact hfar0_)) _).trans (((cell_far (p := ⟨gb272, _, none⟩) (by first | exact hfar0_ | (rw [add_block]; exact hfar0_) | (show (Addr.add _ _).block ≠ _; rw [add_block]; exact hfar0_) | (dsimp only; exact hfar0_)) _).trans (hHeld.2.2))))))))⟩ (fun hHeld => ?_)
         clear hK K
         refine done_ (done_of HT_.out (by kernel_rfl)) ?_
         have hnb57 := NB272_259.out
         have hnc57 := NB259_272.out
         have hcz58_0 : w52.cell? ⟨gb272, 0, none⟩ = some (.int .i64 0) := (zc1 BK272.out 0).trans rfl
         have hcz58_1 : w52.cell? ⟨gb272, 1, none⟩ = some (.int .i64 0) := (zc1 BK272.out 1).trans rfl
         have hcz58_2 : w52.cell? ⟨gb272, 2, none⟩ = some (.int .i64 0) := (zc1 BK272.out 2).trans rfl
         have hcz58_3 : w52.cell? ⟨gb272, 3, none⟩ = some (.slice none 0 0) := (zc1 BK272.out 3).trans rfl
         have hfz58_0 := zc5 BK272.out 0
         have hfz58_1 := zc5 BK272.out 1
         have hfz58_2 := zc5 BK272.out 2
         have hfz58_3 := zc5 BK272.out 3
         try go_wp2_with (first | ((with_reducible refine gate_callee (f := 48) rfl ?_); refine goesL_ (some 40) rfl rfl Tryd.func48 (by kernel_rfl) rfl #[.agg #[.int .i64 (rd t264 0), .int .i64 (rd t264 1), .int .i64 (rd t264 2), .slice none 0 0]] rfl (by (try simp only [zm1, zm2, zm3]); first | done | rfl | (simp only [List.length_drop, List.length_take]; rfl) | (simp only [Int.emod_add_emod, Int.add_emod_emod]; rfl)) ?_; (refine (remoraref06_head.calls (rd t264 0) (rd t264 1) (rd t264 2) _ _ ([] : List (S44)) t273 _ ?side1 ?side2 A9.out).mono ?_); (case side1 => exact Kd.C_nil _ _); (case side2 => exact Nat.le_refl _); rintro e w59 ⟨rfl, hb⟩; refine ⟨_, rfl, ?_⟩; have n0_ := zA (Kd.R_below (by (with_reducible repeat (first | apply Kd.R_alloc | apply Kd.R_drewN | apply Kd.R_drew)); exact (Kd.R_mono (Kd.R_far (p := ⟨gb272, 3, none⟩) (Kd.R_far (p := ⟨gb272, 2, none⟩) (Kd.R_far (p := ⟨gb272, 1, none⟩) (Kd.R_far (p := ⟨gb272, 0, none⟩) (Kd.R_types HO263.out BK272.out (by decide)) (fun _ hk => hk.2) (.int .i64 (rd t264 0))) (fun _ hk => hk.2) (.int .i64 (rd t264 1))) (fun _ hk => hk.2) (.int .i64 (rd t264 2))) (fun _ hk => hk.2) (.slice none 0 0)) (fun _ h_ => h_.1))) hb); have n1_ := zA (Kd.R_below (by (with_reducible repeat (first | apply Kd.R_alloc | apply Kd.R_drewN | apply Kd.R_drew)); exact (Kd.R_mono (Kd.R_far (p := ⟨gb272, 3, none⟩) (Kd.R_far (p := ⟨gb272, 2, none⟩) (Kd.R_far (p := ⟨gb272, 1, none⟩) (Kd.R_far (p := ⟨gb272, 0, none⟩) (Kd.R_types HO268.out BK272.out (by decide)) (fun _ hk => hk.2) (.int .i64 (rd t264 0))) (fun _ hk => hk.2) (.int .i64 (rd t264 1))) (fun _ hk => hk.2) (.int .i64 (rd t264 2))) (fun _ hk => hk.2) (.slice none 0 0)) (fun _ h_ => h_.1))) hb); have n2_ := zA (zc6 (g := gb259) (o := .cells #[.int .i64 0, .int .i64 0, .int .i64 0, .slice none 0 0] 26 (0, 0)) (by (with_reducible repeat (first | refine zc3 ?_ _ | refine zc4 ?_ | refine zc2 ?_ _)); refine zc7 ?_ NB259_272.out _; (with_reducible repeat (first | refine zc3 ?_ _ | refine zc4 ?_ | refine zc2 ?_ _)); refine zc7 ?_ NB259_272.out _; (with_reducible repeat (first | refine zc3 ?_ _ | refine zc4 ?_ | refine zc2 ?_ _)); refine zc7 ?_ NB259_272.out _; (with_reducible repeat (first | refine zc3 ?_ _ | refine zc4 ?_ | refine zc2 ?_ _)); refine zc7 ?_ NB259_272.out _; (with_reducible repeat (first | refine zc3 ?_ _ | refine zc4 ?_ | refine zc2 ?_ _)); exact BK259.out) hb); have n3_ := zA (zc6 (g := gb272) (o := .cells #[.int .i64 (rd t264 0), .int .i64 (rd t264 1), .int .i64 (rd t264 2), .slice none 0 0] 26 (0, 0)) (by (with_reducible repeat (first | refine zc3 ?_ _ | refine zc4 ?_ | refine zc2 ?_ _)); refine blk_put (cs := #[.int .i64 (rd t264 0), .int .i64 (rd t264 1), .int .i64 (rd t264 2), .slice none 0 0]) ?_ 3 _ rfl; (with_reducible repeat (first | refine zc3 ?_ _ | refine zc4 ?_ | refine zc2 ?_ _)); refine blk_put (cs := #[.int .i64 (rd t264 0), .int .i64 (rd t264 1), .int .i64 0, .slice none 0 0]) ?_ 2 _ rfl; (with_reducible repeat (first | refine zc3 ?_ _ | refine zc4 ?_ | refine zc2 ?_ _)); refine blk_put (cs := #[.int .i64 (rd t264 0), .int .i64 0, .int .i64 0, .slice none 0 0]) ?_ 1 _ rfl; (with_reducible repeat (first | refine zc3 ?_ _ | refine zc4 ?_ | refine zc2 ?_ _)); refine blk_put (cs := #[.int .i64 0, .int .i64 0, .int .i64 0, .slice none 0 0]) ?_ 0 _ rfl; (with_reducible repeat (first | refine zc3 ?_ _ | refine zc4 ?_ | refine zc2 ?_ _)); exact BK272.out) hb); have n4_ := zA (zb5 (by repeat (first | (with_reducible first | exact HB.out | apply zb3 | apply zb1 | apply zb2 | refine zb4 ?_ GE259.out | refine zb4 ?_ GE272.out) | exact HB.out)) hb); clear HO263; clear HO268; clear BK259; clear BK272; clear HB; have HO263 := n0_; have HO268 := n1_; have BK259 := n2_; have BK272 := n3_; have HB := n4_; clear n0_ n1_ n2_ n3_ n4_; (try clear hb); (try clear hb2); (try clear hk); (try clear hi); have hcz60_0 : w59.cell? ⟨gb272, 0, none⟩ = some (.int .i64 (rd t264 0)) := (zc1 BK272.out 0).trans rfl; have hcz60_1 : w59.cell? ⟨gb272, 1, none⟩ = some (.int .i64 (rd t264 1)) := (zc1 BK272.out 1).trans rfl; have hcz60_2 : w59.cell? ⟨gb272, 2, none⟩ = some (.int .i64 (rd t264 2)) := (zc1 BK272.out 2).trans rfl; have hcz60_3 : w59.cell? ⟨gb272, 3, none⟩ = some (.slice none 0 0) := (zc1 BK272.out 3).trans rfl; have hfz60_0 := zc5 BK272.out 0; have hfz60_1 := zc5 BK272.out 1; have hfz60_2 := zc5 BK272.out 2; have hfz60_3 := zc5 BK272.out 3) | ((with_reducible refine gate_callee (f := 49) rfl ?_); refine goesL_ (some 49) rfl rfl Tryd.func49 (by kernel_rfl) rfl #[.int .i64 (rd t264 0), .int .i64 (rd t264 1)] rfl (by (try simp only [zm1, zm2, zm3]); first | done | rfl | (simp only [List.length_drop, List.length_take]; rfl) | (simp only [Int.emod_add_emod, Int.add_emod_emod]; rfl)) ?_; (with_reducible refine (remoraref05_Count.calls k (rd t264 0) (rd t264 1) t274 _ A11.out).mono ?_); rintro e w' ⟨rfl, ⟨nd, rfl⟩⟩; refine ⟨_, rfl, ?_⟩))
         go_loopg [6] k (fun kq v6 w' => ∃ (x6_1 : Int) (x273003_1 : List (S44)) (u273003 : Value), v6 = .int .i64 x6_1 ∧ Aside0 (remoraref06_Read.l0 kq t260 x6_1 t274 (rd t264 0) (rd t264 1) (rd t264 2) x273003_1 = some (r1, r2, r3, r4, r5)) ∧ Aside0 (kq ≤ k) ∧ Aside0 (Kd.R (Kd.int .u8) 5 w' w.heap.size (fun _ => True) (.slice Ao48 t260.length co48) t260) ∧ Aside0 (Kd.R k44 44 w' w.heap.size (fun _ => True) u273003 x273003_1) ∧ Aside0 (w'.heap[gb259]? = some (.cells #[.int .i64 0, .int .i64 0, .int .i64 0, (.slice none 0 0)] 26 (0, 0))) ∧ Aside0 (w'.heap[gb272]? = some (.cells #[.int .i64 (rd t264 0), .int .i64 (rd t264 1), .int .i64 (rd t264 2), u273003] 26 (0, 0))) ∧ Aside0 (Below w.heap.size w w'))
         case atStart => exact ⟨(t265), (([] : List (S44))), (.slice none 0 0), (by first | rfl | (simp; done) | (simp [*]; done)), H', ⟨Nat.le_refl _⟩, ⟨by (with_reducible repeat (first | apply Kd.R_alloc | apply Kd.R_drewN | apply Kd.R_drew)); exact HO263.out⟩, ⟨by first | exact Kd.R_nil _ _ _ _ _ | exact Kd.N_nil _ _ _ _ _ | exact Kd.V_nil _ _ _ _ _ | exact Kd.Q_nil _ _ _ _ _ | exact Kd.S_nil _ _ _ _ _⟩, ⟨by (with_reducible repeat (first | refine zc3 ?_ _ | refine zc4 ?_ | refine zc2 ?_ _)); exact BK259.out⟩, ⟨by (with_reducible repeat (first | refine zc3 ?_ _ | refine zc4 ?_ | refine zc2 ?_ _)); exact BK272.out⟩, ⟨by repeat (first | (with_reducible first | exact HB.out | apply zb3 | apply zb1 | apply zb2 | refine zb4 ?_ GE259.out | refine zb4 ?_ GE272.out) | exact HB.out)⟩⟩
         case round =>
          clear H'
          try clear c1
          try clear c2
          try clear p2
          try clear q2
          try clear hx2
          try clear qi2
          try clear c4
          try clear c5
          try clear p6
          try clear c12
          try clear c12b0
          try clear c24
          try clear p26
          try clear q26
          try clear hx26
          try clear qi26
          try clear p27
          try clear q27
          try clear hx27
          try clear qi27
          try clear c28
          try clear c29
          try clear c29b0
          try clear c41
          try clear c48
          try clear c49
          try clear c55
          try clear c56
          try clear c57
          try clear hcz25_0
          try clear hcz25_1
          try clear hcz25_2
          try clear hcz25_3
          try clear hcz27_0
          try clear hcz27_1
          try clear hcz27_2
          try clear hcz27_3
          try clear hcz28_0
          try clear hcz28_1
          try clear hcz28_2
          try clear hcz28_3
          try clear hcz42_0
          try clear hcz42_1
          try clear hcz42_2
          try clear hcz42_3
          try clear hcz44_0
          try clear hcz44_1
          try clear hcz44_2
          try clear hcz44_3
          try clear hcz45_0
          try clear hcz45_1
          try clear hcz45_2
          try clear hcz45_3
          try clear hcz58_0
          try clear hcz58_1
          try clear hcz58_2
          try clear hcz58_3
          try clear hcz60_0
          try clear hcz60_1
          try clear hcz60_2
          try clear hcz60_3
          try clear hfz25_0
          try clear hfz25_1
          try clear hfz25_2
          try clear hfz25_3
          try clear hfz27_0
          try clear hfz27_1
          try clear hfz27_2
          try clear hfz27_3
          try clear hfz28_0
          try clear hfz28_1
          try clear hfz28_2
          try clear hfz28_3
          try clear hfz42_0
          try clear hfz42_1
          try clear hfz42_2
          try clear hfz42_3
          try clear hfz44_0
          try clear hfz44_1
          try clear hfz44_2
          try clear hfz44_3
          try clear hfz45_0
          try clear hfz45_1
          try clear hfz45_2
          try clear hfz45_3
          try clear hfz58_0
          try clear hfz58_1
          try clear hfz58_2
          try clear hfz58_3
          try clear hfz60_0
          try clear hfz60_1
          try clear hfz60_2
          try clear hfz60_3
          try clear hx269_0
          try clear hx270_0
          try clear hx271_0
          try clear p269
          try clear p270
          try clear p271
          try clear q269
          try clear q270
          try clear q271
          obtain ⟨x6_1, x273003_1, u273003, rfl, HA, HK1, HO_0, HO_273003, BK259, BK272, HB⟩ := hrel
          cases gk with
          | zero => exact absurd HA.out (by simp [remoraref06_Read.l0])
          | succ k1 =>
           have H := HA.out
           clear HA
           simp only [remoraref06_Read.l0] at H
           by_cases c61 : (x273003_1.length : Int) < t274
           ·rw [if_pos c61] at H
            have c61b0 : decide ((x273003_1.length : Int) < t274) = true := zd1 c61
            clear c61
            by_cases c62 : 0 ≤ x6_1
            ·rw [if_pos c62] at H
             have c62b0 : decide (0 ≤ x6_1) = true := zd1 c62
             clear c62
             by_cases c63 : x6_1 < (t260.length : Int)
             ·rw [if_pos c63] at H
              have c63b0 : decide (x6_1 < (t260.length : Int)) = true := zd1 c63
              clear c63
              obtain ⟨ji64, hji64⟩ : ∃ j_ : Int, (wrap64 (x6_1 + 1)) = j_ := ⟨_, rfl⟩
              replace H : (if 0 ≤ (ji64) then (if (ji64) < (t260.length : Int) then (if 0 ≤ (wrap64 (x6_1 + 2)) then (if (wrap64 (x6_1 + 2)) < (t260.length : Int) then (if 0 ≤ (wrap64 (x6_1 + 3)) then (if (wrap64 (x6_1 + 3)) < (t260.length : Int) then (if 0 ≤ (wrap64 (x6_1 + 4)) then (if (wrap64 (x6_1 + 4)) ≤ (wrap64 ((wrap64 (x6_1 + 4)) + (rd t264 2))) then (if (wrap64 ((wrap64 (x6_1 + 4)) + (rd t264 2))) ≤ (t260.length : Int) then (if x273003_1.length < 5864062014805 then (remoraref06_Read.l0 k1 t260 (wrap64 (x6_1 + (wrap64 (4 + (rd t264 2))))) t274 (rd t264 0) (rd t264 1) (rd t264 2) (x273003_1 ++ [(⟨Go.bits .or .u32 (Go.bits .or .u32 (Go.bits .or .u32 ((rd t260 x6_1) % 4294967296) ((((rd t260 (ji64)) % 4294967296) * 256) % 4294967296)) ((((rd t260 (wrap64 (x6_1 + 2))) % 4294967296) * 65536) % 4294967296)) ((((rd t260 (wrap64 (x6_1 + 3))) % 4294967296) * 16777216) % 4294967296), strOfNums ((t260.take ((wrap64 ((wrap64 (x6_1 + 4)) + (rd t264 2))) : Int).toNat).drop ((wrap64 (x6_1 + 4)) : Int).toNat)⟩ : S44)])) else (none)) else (none)) else (none)) else (none)) else (none)) else (none)) else (none)) else (none)) else (none)) else (none)) = some (r1, r2, r3, r4, r5) := by first | (rw [hji64] at H; exact H) | (simp only [hji64] at H ⊢; exact H)
              have hji64w : (IntKind.i64.wrap (x6_1 + 1)) = ji64 := (i64_w _).trans hji64
              by_cases c65 : 0 ≤ (ji64)
              ·rw [if_pos c65] at H
               have c65b0 : decide (0 ≤ (ji64)) = true := zd1 c65
               clear c65
               by_cases c66 : (ji64) < (t260.length : Int)
               ·rw [if_pos c66] at H
                have c66b0 : decide ((ji64) < (t260.length : Int)) = true := zd1 c66
                clear c66
                obtain ⟨ji67, hji67⟩ : ∃ j_ : Int, (wrap64 (x6_1 + 2)) = j_ := ⟨_, rfl⟩
                replace H : (if 0 ≤ (ji67) then (if (ji67) < (t260.length : Int) then (if 0 ≤ (wrap64 (x6_1 + 3)) then (if (wrap64 (x6_1 + 3)) < (t260.length : Int) then (if 0 ≤ (wrap64 (x6_1 + 4)) then (if (wrap64 (x6_1 + 4)) ≤ (wrap64 ((wrap64 (x6_1 + 4)) + (rd t264 2))) then (if (wrap64 ((wrap64 (x6_1 + 4)) + (rd t264 2))) ≤ (t260.length : Int) then (if x273003_1.length < 5864062014805 then (remoraref06_Read.l0 k1 t260 (wrap64 (x6_1 + (wrap64 (4 + (rd t264 2))))) t274 (rd t264 0) (rd t264 1) (rd t264 2) (x273003_1 ++ [(⟨Go.bits .or .u32 (Go.bits .or .u32 (Go.bits .or .u32 ((rd t260 x6_1) % 4294967296) ((((rd t260 (ji64)) % 4294967296) * 256) % 4294967296)) ((((rd t260 (ji67)) % 4294967296) * 65536) % 4294967296)) ((((rd t260 (wrap64 (x6_1 + 3))) % 4294967296) * 16777216) % 4294967296), strOfNums ((t260.take ((wrap64 ((wrap64 (x6_1 + 4)) + (rd t264 2))) : Int).toNat).drop ((wrap64 (x6_1 + 4)) : Int).toNat)⟩ : S44)])) else (none)) else (none)) else (none)) else (none)) else (none)) else (none)) else (none)) else (none)) = some (r1, r2, r3, r4, r5) := by first | (rw [hji67] at H; exact H) | (simp only [hji67] at H ⊢; exact H)
                have hji67w : (IntKind.i64.wrap (x6_1 + 2)) = ji67 := (i64_w _).trans hji67
                by_cases c68 : 0 ≤ (ji67)
                ·rw [if_pos c68] at H
                 have c68b0 : decide (0 ≤ (ji67)) = true := zd1 c68
                 clear c68
                 by_cases c69 : (ji67) < (t260.length : Int)
                 ·rw [if_pos c69] at H
                  have c69b0 : decide ((ji67) < (t260.length : Int)) = true := zd1 c69
                  clear c69
                  obtain ⟨ji70, hji70⟩ : ∃ j_ : Int, (wrap64 (x6_1 + 3)) = j_ := ⟨_, rfl⟩
                  replace H : (if 0 ≤ (ji70) then (if (ji70) < (t260.length : Int) then (if 0 ≤ (wrap64 (x6_1 + 4)) then (if (wrap64 (x6_1 + 4)) ≤ (wrap64 ((wrap64 (x6_1 + 4)) + (rd t264 2))) then (if (wrap64 ((wrap64 (x6_1 + 4)) + (rd t264 2))) ≤ (t260.length : Int) then (if x273003_1.length < 5864062014805 then (remoraref06_Read.l0 k1 t260 (wrap64 (x6_1 + (wrap64 (4 + (rd t264 2))))) t274 (rd t264 0) (rd t264 1) (rd t264 2) (x273003_1 ++ [(⟨Go.bits .or .u32 (Go.bits .or .u32 (Go.bits .or .u32 ((rd t260 x6_1) % 4294967296) ((((rd t260 (ji64)) % 4294967296) * 256) % 4294967296)) ((((rd t260 (ji67)) % 4294967296) * 65536) % 4294967296)) ((((rd t260 (ji70)) % 4294967296) * 16777216) % 4294967296), strOfNums ((t260.take ((wrap64 ((wrap64 (x6_1 + 4)) + (rd t264 2))) : Int).toNat).drop ((wrap64 (x6_1 + 4)) : Int).toNat)⟩ : S44)])) else (none)) else (none)) else (none)) else (none)) else (none)) else (none)) = some (r1, r2, r3, r4, r5) := by first | (rw [hji70] at H; exact H) | (simp only [hji70] at H ⊢; exact H)
                  have hji70w : (IntKind.i64.wrap (x6_1 + 3)) = ji70 := (i64_w _).trans hji70
                  by_cases c71 : 0 ≤ (ji70)
                  ·rw [if_pos c71] at H
                   have c71b0 : decide (0 ≤ (ji70)) = true := zd1 c71
                   clear c71
                   by_cases c72 : (ji70) < (t260.length : Int)
                   ·rw [if_pos c72] at H
                    have c72b0 : decide ((ji70) < (t260.length : Int)) = true := zd1 c72
                    clear c72
                    obtain ⟨ji73, hji73⟩ : ∃ j_ : Int, (wrap64 (x6_1 + 4)) = j_ := ⟨_, rfl⟩
                    replace H : (if 0 ≤ (ji73) then (if (ji73) ≤ (wrap64 ((ji73) + (rd t264 2))) then (if (wrap64 ((ji73) + (rd t264 2))) ≤ (t260.length : Int) then (if x273003_1.length < 5864062014805 then (remoraref06_Read.l0 k1 t260 (wrap64 (x6_1 + (wrap64 (4 + (rd t264 2))))) t274 (rd t264 0) (rd t264 1) (rd t264 2) (x273003_1 ++ [(⟨Go.bits .or .u32 (Go.bits .or .u32 (Go.bits .or .u32 ((rd t260 x6_1) % 4294967296) ((((rd t260 (ji64)) % 4294967296) * 256) % 4294967296)) ((((rd t260 (ji67)) % 4294967296) * 65536) % 4294967296)) ((((rd t260 (ji70)) % 4294967296) * 16777216) % 4294967296), strOfNums ((t260.take ((wrap64 ((ji73) + (rd t264 2))) : Int).toNat).drop ((ji73) : Int).toNat)⟩ : S44)])) else (none)) else (none)) else (none)) else (none)) = some (r1, r2, r3, r4, r5) := by first | (rw [hji73] at H; exact H) | (simp only [hji73] at H ⊢; exact H)
                    have hji73w : (IntKind.i64.wrap (x6_1 + 4)) = ji73 := (i64_w _).trans hji73
                    by_cases c74 : 0 ≤ (ji73)
                    ·rw [if_pos c74] at H
                     have c74b0 := eq_true c74
                     have c74b1 : decide (0 ≤ (ji73)) = true := zd1 c74
                     clear c74
                     by_cases c75 : (ji73) ≤ (wrap64 ((ji73) + (rd t264 2)))
                     ·rw [if_pos c75] at H
                      have c75b0 := eq_true c75
                      have c75b1 : decide ((ji73) ≤ (wrap64 ((ji73) + (rd t264 2)))) = true := zd1 c75
                      by_cases c76 : (wrap64 ((ji73) + (rd t264 2))) ≤ (t260.length : Int)
                      ·rw [if_pos c76] at H
                       have c76b0 := eq_true c76
                       have c76b1 : decide ((wrap64 ((ji73) + (rd t264 2))) ≤ (t260.length : Int)) = true := zd1 c76
                       obtain ⟨y279, hy279⟩ : ∃ y_ : List Int, y_ = ((t260.take ((wrap64 ((ji73) + (rd t264 2))) : Int).toNat).drop ((ji73) : Int).toNat) := ⟨_, rfl⟩
                       replace H : (if x273003_1.length < 5864062014805 then (remoraref06_Read.l0 k1 t260 (wrap64 (x6_1 + (wrap64 (4 + (rd t264 2))))) t274 (rd t264 0) (rd t264 1) (rd t264 2) (x273003_1 ++ [(⟨Go.bits .or .u32 (Go.bits .or .u32 (Go.bits .or .u32 ((rd t260 x6_1) % 4294967296) ((((rd t260 (ji64)) % 4294967296) * 256) % 4294967296)) ((((rd t260 (ji67)) % 4294967296) * 65536) % 4294967296)) ((((rd t260 (ji70)) % 4294967296) * 16777216) % 4294967296), strOfNums y279⟩ : S44)])) else (none)) = some (r1, r2, r3, r4, r5) := by first | (rw [hy279]; with_reducible exact H) | (have H2_ := (Option.bind_some _ _).symm.trans H; rw [hy279]; with_reducible exact H2_) | (have H2_ := (Option.bind_some _ _).symm.trans H; with_reducible exact H2_) | with_reducible exact H | (rw [hy279]; exact H) | exact H
                       have Ny279 := zA hy279
                       clear hy279
                       by_cases c77 : x273003_1.length < 5864062014805
                       ·rw [if_pos c77] at H
                        have LMc77 := zA c77
                        clear c77
                        obtain ⟨y283, hy283⟩ : ∃ y_ : List (S44), y_ = (x273003_1 ++ [(⟨Go.bits .or .u32 (Go.bits .or .u32 (Go.bits .or .u32 ((rd t260 x6_1) % 4294967296) ((((rd t260 (ji64)) % 4294967296) * 256) % 4294967296)) ((((rd t260 (ji67)) % 4294967296) * 65536) % 4294967296)) ((((rd t260 (ji70)) % 4294967296) * 16777216) % 4294967296), strOfNums y279⟩ : S44)]) := ⟨_, rfl⟩
                        replace H : (remoraref06_Read.l0 k1 t260 (wrap64 (x6_1 + (wrap64 (4 + (rd t264 2))))) t274 (rd t264 0) (rd t264 1) (rd t264 2) y283) = some (r1, r2, r3, r4, r5) := by first | (rw [hy283]; with_reducible exact H) | (have H2_ := (Option.bind_some _ _).symm.trans H; rw [hy283]; with_reducible exact H2_) | (have H2_ := (Option.bind_some _ _).symm.trans H; with_reducible exact H2_) | with_reducible exact H | (rw [hy283]; exact H) | exact H
                        have Ny283 := zA hy283
                        clear hy283
                        have H' := zA H
                        clear H
                        have hnb78 := NB272_259.out
                        have hnc78 := NB259_272.out
                        have hcz79_0 : wr.cell? ⟨gb272, 0, none⟩ = some (.int .i64 (rd t264 0)) := (zc1 BK272.out 0).trans rfl
                        have hcz79_1 : wr.cell? ⟨gb272, 1, none⟩ = some (.int .i64 (rd t264 1)) := (zc1 BK272.out 1).trans rfl
                        have hcz79_2 : wr.cell? ⟨gb272, 2, none⟩ = some (.int .i64 (rd t264 2)) := (zc1 BK272.out 2).trans rfl
                        have hcz79_3 : wr.cell? ⟨gb272, 3, none⟩ = some (u273003) := (zc1 BK272.out 3).trans rfl
                        have hfz79_0 := zc5 BK272.out 0
                        have hfz79_1 := zc5 BK272.out 1
                        have hfz79_2 := zc5 BK272.out 2
                        have hfz79_3 := zc5 BK272.out 3
                        obtain ⟨Ao80, co80, eo80⟩ := Kd.R_slice HO_273003.out
                        subst eo80
                        try go_wp2
                        have n0_ := zA (Kd.R_drew HO_0.out)
                        have n1_ := zA (Kd.R_drew HO_273003.out)
                        have n2_ := zA (zc4 BK259.out)
                        have n3_ := zA (zc4 BK272.out)
                        have n4_ := zA (zb2 HB.out)
                        clear HO_0
                        clear HO_273003
                        clear BK259
                        clear BK272
                        clear HB
                        have HO_0 := n0_
                        have HO_273003 := n1_
                        have BK259 := n2_
                        have BK272 := n3_
                        have HB := n4_
                        clear n0_ n1_ n2_ n3_ n4_
                        have p275 : 0 ≤ (x6_1 : Int) := zd3 (by first | (with_reducible assumption) | assumption)
                        have q275 : x6_1 < (t260.length : Int) := zd3 (by first | (with_reducible assumption) | assumption)
                        obtain ⟨ad275, e275, hx275_0⟩ := Kd.at_int (Kd.R_reads' HO_0.out).2.2 x6_1 p275 q275
                        cases e275
                        replace p275 := eq_true p275
                        replace q275 := eq_true q275
                        have p276 : 0 ≤ ((ji64) : Int) := zd3 (by first | (with_reducible assumption) | assumption)
                        have q276 : (ji64) < (t260.length : Int) := zd3 (by first | (with_reducible assumption) | assumption)
                        obtain ⟨ad276, e276, hx276_0⟩ := Kd.at_int (Kd.R_reads' HO_0.out).2.2 (ji64) p276 q276
                        obtain rfl : ad275 = ad276 := (by injection e276)
                        replace p276 := eq_true p276
                        replace q276 := eq_true q276
                        have p277 : 0 ≤ ((ji67) : Int) := zd3 (by first | (with_reducible assumption) | assumption)
                        have q277 : (ji67) < (t260.length : Int) := zd3 (by first | (with_reducible assumption) | assumption)
                        obtain ⟨ad277, e277, hx277_0⟩ := Kd.at_int (Kd.R_reads' HO_0.out).2.2 (ji67) p277 q277
                        obtain rfl : ad275 = ad277 := (by injection e277)
                        replace p277 := eq_true p277
                        replace q277 := eq_true q277
                        have p278 : 0 ≤ ((ji70) : Int) := zd3 (by first | (with_reducible assumption) | assumption)
                        have q278 : (ji70) < (t260.length : Int) := zd3 (by first | (with_reducible assumption) | assumption)
                        obtain ⟨ad278, e278, hx278_0⟩ := Kd.at_int (Kd.R_reads' HO_0.out).2.2 (ji70) p278 q278
                        obtain rfl : ad275 = ad278 := (by injection e278)
                        replace p278 := eq_true p278
                        replace q278 := eq_true q278
                        refine start_ (n := 30) (S := fun w' => w'.cell? (ad275.add (x6_1).toNat) = some (.int .u8 (rd t260 x6_1)) ∧ w'.cell? (ad275.add ((ji64)).toNat) = some (.int .u8 (rd t260 (ji64))) ∧ w'.cell? (ad275.add ((ji67)).toNat) = some (.int .u8 (rd t260 (ji67))) ∧ w'.cell? (ad275.add ((ji70)).toNat) = some (.int .u8 (rd t260 (ji70)))) (ds := []) #[false, false, false, false, false, false, false, false, false, false, false, false, false, false, false, false, false, false, false, false, false, false, false, false, false, false, false, false, false, false] (by kernel_rfl) rfl rfl ⟨hx275_0, hx276_0, hx277_0, hx278_0⟩ (fun hHeld => ?_); refine with_tabW remoraref06_Read.tab17 remoraref06_Read.bits17 (fun HT_ HW_ => ?_)
                        generalize wr.drew = w81 at HO_0 HO_273003 BK259 BK272 HB hx275_0 hx276_0 hx277_0 hx278_0 hHeld ⊢
                        refine pure_ (i := 0) (N := some 77) (v := ?_) (a' := ?_) #[true, false, false, false, false, false, false, false, false, false, false, false, false, false, false, false, false, false, false, false, false, false, false, false, false, false, false, false, false, false] rfl rfl (any_of HT_.out (by kernel_rfl)) (fun _ _ _ h => h) (Or.inl ⟨by rfl, ?_⟩) ?_ ?_
                        rotate_left
                        ·intro w'
                         go_simp
                         with_reducible rfl
                        rotate_left
                        ·simp only [Act.put, zs1, zs2, zs3, i64_w, i32_w]
                         rfl
                        refine pure_ (i := 1) (N := some 78) (v := ?_) (a' := ?_) #[true, true, false, false, false, false, false, false, false, false, false, false, false, false, false, false, false, false, false, false, false, false, false, false, false, false, false, false, false, false] rfl rfl (any_of HT_.out (by kernel_rfl)) (fun _ _ _ h => h) (Or.inl ⟨by rfl, ?_⟩) ?_ ?_
                        rotate_left
                        ·intro w'
                         go_simp
                         with_reducible rfl
                        rotate_left
                        ·simp only [Act.put, zs1, zs2, zs3, i64_w, i32_w]
                         rfl
                        refine pure_ (i := 2) (N := some 79) (v := ?_) (a' := ?_) #[true, true, true, false, false, false, false, false, false, false, false, false, false, false, false, false, false, false, false, false, false, false, false, false, false, false, false, false, false, false] rfl rfl (any_of HT_.out (by kernel_rfl)) (fun _ _ _ h => h) (Or.inl ⟨by rfl, ?_⟩) ?_ ?_
                        rotate_left
                        ·intro w'
                         go_simp
                         with_reducible rfl
                        rotate_left
                        ·simp only [Act.put, zs1, zs2, zs3, i64_w, i32_w]
                         rfl
                        refine pure_ (i := 5) (N := some 82) (v := ?_) (a' := ?_) #[true, true, true, false, false, true, false, false, false, false, false, false, false, false, false, false, false, false, false, false, false, false, false, false, false, false, false, false, false, false] rfl rfl (any_of HT_.out (by kernel_rfl)) (fun _ _ _ h => h) (Or.inl ⟨by rfl, ?_⟩) ?_ ?_
                        rotate_left
                        ·intro w'
                         go_simp
                         with_reducible rfl
                        rotate_left
                        ·simp only [Act.put, zs1, zs2, zs3, i64_w, i32_w]
                         rfl
                        refine pure_ (i := 6) (N := some 83) (v := ?_) (a' := ?_) #[true, true, true, false, false, true, true, false, false, false, false, false, false, false, false, false, false, false, false, false, false, false, false, false, false, false, false, false, false, false] rfl rfl (any_of HT_.out (by kernel_rfl)) (fun _ _ _ h => h) (Or.inl ⟨by rfl, ?_⟩) ?_ ?_
                        rotate_left
                        ·intro w'
                         go_simp
                         with_reducible rfl
                        rotate_left
                        ·simp only [Act.put, zs1, zs2, zs3, i64_w, i32_w]
                         rfl
                        refine pure_ (i := 7) (N := some 84) (v := ?_) (a' := ?_) #[true, true, true, false, false, true, true, true, false, false, false, false, false, false, false, false, false, false, false, false, false, false, false, false, false, false, false, false, false, false] rfl rfl (any_of HT_.out (by kernel_rfl)) (fun _ _ _ h => h) (Or.inl ⟨by rfl, ?_⟩) ?_ ?_
                        rotate_left
                        ·intro w'
                         go_simp
                         with_reducible rfl
                        rotate_left
                        ·simp only [Act.put, zs1, zs2, zs3, i64_w, i32_w]
                         rfl
                        refine pure_ (i := 8) (N := some 85) (v := ?_) (a' := ?_) #[true, true, true, false, false, true, true, true, true, false, false, false, false, false, false, false, false, false, false, false, false, false, false, false, false, false, false, false, false, false] rfl rfl (any_of HT_.out (by kernel_rfl)) (fun _ _ _ h => h) (Or.inl ⟨by rfl, ?_⟩) ?_ ?_
                        rotate_left
                        ·intro w'
                         go_simp
                         with_reducible rfl
                        rotate_left
                        ·simp only [Act.put, zs1, zs2, zs3, i64_w, i32_w]
                         rfl
                        refine pure_ (i := 13) (N := some 90) (v := ?_) (a' := ?_) #[true, true, true, false, false, true, true, true, true, false, false, false, false, true, false, false, false, false, false, false, false, false, false, false, false, false, false, false, false, false] rfl rfl (any_of HT_.out (by kernel_rfl)) (fun _ _ _ h => h) (Or.inl ⟨by rfl, ?_⟩) ?_ ?_
                        rotate_left
                        ·intro w'
                         go_simp
                         with_reducible rfl
                        rotate_left
                        ·simp only [Act.put, zs1, zs2, zs3, i64_w, i32_w]
                         rfl
                        refine pure_ (i := 14) (N := some 91) (v := ?_) (a' := ?_) #[true, true, true, false, false, true, true, true, true, false, false, false, false, true, true, false, false, false, false, false, false, false, false, false, false, false, false, false, false, false] rfl rfl (any_of HT_.out (by kernel_rfl)) (fun _ _ _ h => h) (Or.inl ⟨by rfl, ?_⟩) ?_ ?_
                        rotate_left
                        ·intro w'
                         go_simp
                         with_reducible rfl
                        rotate_left
                        ·simp only [Act.put, zs1, zs2, zs3, i64_w, i32_w]
                         rfl
                        refine pure_ (i := 15) (N := some 92) (v := ?_) (a' := ?_) #[true, true, true, false, false, true, true, true, true, false, false, false, false, true, true, true, false, false, false, false, false, false, false, false, false, false, false, false, false, false] rfl rfl (any_of HT_.out (by kernel_rfl)) (fun _ _ _ h => h) (Or.inl ⟨by rfl, ?_⟩) ?_ ?_
                        rotate_left
                        ·intro w'
                         go_simp
                         with_reducible rfl
                        rotate_left
                        ·simp only [Act.put, zs1, zs2, zs3, i64_w, i32_w]
                         rfl
                        refine pure_ (i := 16) (N := some 93) (v := ?_) (a' := ?_) #[true, true, true, false, false, true, true, true, true, false, false, false, false, true, true, true, true, false, false, false, false, false, false, false, false, false, false, false, false, false] rfl rfl (any_of HT_.out (by kernel_rfl)) (fun _ _ _ h => h) (Or.inl ⟨by rfl, ?_⟩) ?_ ?_
                        rotate_left
                        ·intro w'
                         go_simp
                         with_reducible rfl
                        rotate_left
                        ·simp only [Act.put, zs1, zs2, zs3, i64_w, i32_w]
                         rfl
                        refine pure_ (i := 21) (N := some 98) (v := ?_) (a' := ?_) #[true, true, true, false, false, true, true, true, true, false, false, false, false, true, true, true, true, false, false, false, false, true, false, false, false, false, false, false, false, false] rfl rfl (any_of HT_.out (by kernel_rfl)) (fun _ _ _ h => h) (Or.inl ⟨by rfl, ?_⟩) ?_ ?_
                        rotate_left
                        ·intro w'
                         go_simp
                         with_reducible rfl
                        rotate_left
                        ·simp only [Act.put, zs1, zs2, zs3, i64_w, i32_w]
                         rfl
                        refine pure_ (i := 22) (N := some 99) (v := ?_) (a' := ?_) #[true, true, true, false, false, true, true, true, true, false, false, false, false, true, true, true, true, false, false, false, false, true, true, false, false, false, false, false, false, false] rfl rfl (any_of HT_.out (by kernel_rfl)) (fun _ _ _ h => h) (Or.inl ⟨by rfl, ?_⟩) ?_ ?_
                        rotate_left
                        ·intro w'
                         go_simp
                         with_reducible rfl
                        rotate_left
                        ·simp only [Act.put, zs1, zs2, zs3, i64_w, i32_w]
                         rfl
                        refine pure_ (i := 23) (N := some 100) (v := ?_) (a' := ?_) #[true, true, true, false, false, true, true, true, true, false, false, false, false, true, true, true, true, false, false, false, false, true, true, true, false, false, false, false, false, false] rfl rfl (any_of HT_.out (by kernel_rfl)) (fun _ _ _ h => h) (Or.inl ⟨by rfl, ?_⟩) ?_ ?_
                        rotate_left
                        ·intro w'
                         go_simp
                         with_reducible rfl
                        rotate_left
                        ·simp only [Act.put, zs1, zs2, zs3, i64_w, i32_w]
                         rfl
                        refine pure_ (i := 24) (N := some 101) (v := ?_) (a' := ?_) #[true, true, true, false, false, true, true, true, true, false, false, false, false, true, true, true, true, false, false, false, false, true, true, true, true, false, false, false, false, false] rfl rfl (any_of HT_.out (by kernel_rfl)) (fun _ _ _ h => h) (Or.inl ⟨by rfl, ?_⟩) ?_ ?_
                        rotate_left
                        ·intro w'
                         go_simp
                         with_reducible rfl
                        rotate_left
                        ·simp only [Act.put, zs1, zs2, zs3, i64_w, i32_w]
                         rfl
                        refine take_ (i := 3) (N := some 80) (v := ?_) (a' := ?_) #[true, true, true, true, false, true, true, true, true, false, false, false, false, true, true, true, true, false, false, false, false, true, true, true, true, false, false, false, false, false] rfl rfl (take_ofW HT_.out HW_.out (by kernel_rfl)) (fun _ _ _ h => h) (Or.inl ⟨by rfl, ?_⟩) hHeld ?_ ?_
                        rotate_left
                        ·rintro w' ⟨s0, s1, s2, s3⟩
                         go_simp
                         with_reducible rfl
                        rotate_left
                        ·simp only [Act.put, zs1, zs2, zs3, i64_w, i32_w]
                         rfl
                        refine pure_ (i := 4) (N := some 81) (v := ?_) (a' := ?_) #[true, true, true, true, true, true, true, true, true, false, false, false, false, true, true, true, true, false, false, false, false, true, true, true, true, false, false, false, false, false] rfl rfl (any_of HT_.out (by kernel_rfl)) (fun _ _ _ h => h) (Or.inl ⟨by rfl, ?_⟩) ?_ ?_
                        rotate_left
                        ·intro w'
                         go_simp
                         with_reducible rfl
                        rotate_left
                        ·simp only [Act.put, zs1, zs2, zs3, i64_w, i32_w]
                         rfl
                        refine take_ (i := 9) (N := some 86) (v := ?_) (a' := ?_) #[true, true, true, true, true, true, true, true, true, true, false, false, false, true, true, true, true, false, false, false, false, true, true, true, true, false, false, false, false, false] rfl rfl (take_ofW HT_.out HW_.out (by kernel_rfl)) (fun _ _ _ h => h) (Or.inl ⟨by rfl, ?_⟩) hHeld ?_ ?_
                        rotate_left
                        ·rintro w' ⟨s0, s1, s2, s3⟩
                         go_simp
                         with_reducible rfl
                        rotate_left
                        ·simp only [Act.put, zs1, zs2, zs3, i64_w, i32_w]
                         rfl
                        refine pure_ (i := 10) (N := some 87) (v := ?_) (a' := ?_) #[true, true, true, true, true, true, true, true, true, true, true, false, false, true, true, true, true, false, false, false, false, true, true, true, true, false, false, false, false, false] rfl rfl (any_of HT_.out (by kernel_rfl)) (fun _ _ _ h => h) (Or.inl ⟨by rfl, ?_⟩) ?_ ?_
                        rotate_left
                        ·intro w'
                         go_simp
                         with_reducible rfl
                        rotate_left
                        ·simp only [Act.put, zs1, zs2, zs3, i64_w, i32_w]
                         rfl
                        refine pure_ (i := 11) (N := some 88) (v := ?_) (a' := ?_) #[true, true, true, true, true, true, true, true, true, true, true, true, false, true, true, true, true, false, false, false, false, true, true, true, true, false, false, false, false, false] rfl rfl (any_of HT_.out (by kernel_rfl)) (fun _ _ _ h => h) (Or.inl ⟨by rfl, ?_⟩) ?_ ?_
                        rotate_left
                        ·intro w'
                         go_simp
                         with_reducible rfl
                        rotate_left
                        ·simp only [Act.put, zs1, zs2, zs3, i64_w, i32_w]
                         rfl
                        refine pure_ (i := 12) (N := some 89) (v := ?_) (a' := ?_) #[true, true, true, true, true, true, true, true, true, true, true, true, true, true, true, true, true, false, false, false, false, true, true, true, true, false, false, false, false, false] rfl rfl (any_of HT_.out (by kernel_rfl)) (fun _ _ _ h => h) (Or.inl ⟨by rfl, ?_⟩) ?_ ?_
                        rotate_left
                        ·intro w'
                         go_simp
                         with_reducible rfl
                        rotate_left
                        ·simp only [Act.put, zs1, zs2, zs3, i64_w, i32_w]
                         rfl
                        refine take_ (i := 17) (N := some 94) (v := ?_) (a' := ?_) #[true, true, true, true, true, true, true, true, true, true, true, true, true, true, true, true, true, true, false, false, false, true, true, true, true, false, false, false, false, false] rfl rfl (take_ofW HT_.out HW_.out (by kernel_rfl)) (fun _ _ _ h => h) (Or.inl ⟨by rfl, ?_⟩) hHeld ?_ ?_
                        rotate_left
                        ·rintro w' ⟨s0, s1, s2, s3⟩
                         go_simp
                         with_reducible rfl
                        rotate_left
                        ·simp only [Act.put, zs1, zs2, zs3, i64_w, i32_w]
                         rfl
                        refine pure_ (i := 18) (N := some 95) (v := ?_) (a' := ?_) #[true, true, true, true, true, true, true, true, true, true, true, true, true, true, true, true, true, true, true, false, false, true, true, true, true, false, false, false, false, false] rfl rfl (any_of HT_.out (by kernel_rfl)) (fun _ _ _ h => h) (Or.inl ⟨by rfl, ?_⟩) ?_ ?_
                        rotate_left
                        ·intro w'
                         go_simp
                         with_reducible rfl
                        rotate_left
                        ·simp only [Act.put, zs1, zs2, zs3, i64_w, i32_w]
                         rfl
                        refine pure_ (i := 19) (N := some 96) (v := ?_) (a' := ?_) #[true, true, true, true, true, true, true, true, true, true, true, true, true, true, true, true, true, true, true, true, false, true, true, true, true, false, false, false, false, false] rfl rfl (any_of HT_.out (by kernel_rfl)) (fun _ _ _ h => h) (Or.inl ⟨by rfl, ?_⟩) ?_ ?_
                        rotate_left
                        ·intro w'
                         go_simp
                         with_reducible rfl
                        rotate_left
                        ·simp only [Act.put, zs1, zs2, zs3, i64_w, i32_w]
                         rfl
                        refine pure_ (i := 20) (N := some 97) (v := ?_) (a' := ?_) #[true, true, true, true, true, true, true, true, true, true, true, true, true, true, true, true, true, true, true, true, true, true, true, true, true, false, false, false, false, false] rfl rfl (any_of HT_.out (by kernel_rfl)) (fun _ _ _ h => h) (Or.inl ⟨by rfl, ?_⟩) ?_ ?_
                        rotate_left
                        ·intro w'
                         go_simp
                         with_reducible rfl
                        rotate_left
                        ·simp only [Act.put, zs1, zs2, zs3, i64_w, i32_w]
                         rfl
                        refine take_ (i := 25) (N := some 102) (v := ?_) (a' := ?_) #[true, true, true, true, true, true, true, true, true, true, true, true, true, true, true, true, true, true, true, true, true, true, true, true, true, true, false, false, false, false] rfl rfl (take_ofW HT_.out HW_.out (by kernel_rfl)) (fun _ _ _ h => h) (Or.inl ⟨by rfl, ?_⟩) hHeld ?_ ?_
                        rotate_left
                        ·rintro w' ⟨s0, s1, s2, s3⟩
                         go_simp
                         with_reducible rfl
                        rotate_left
                        ·simp only [Act.put, zs1, zs2, zs3, i64_w, i32_w]
                         rfl
                        refine pure_ (i := 26) (N := some 103) (v := ?_) (a' := ?_) #[true, true, true, true, true, true, true, true, true, true, true, true, true, true, true, true, true, true, true, true, true, true, true, true, true, true, true, false, false, false] rfl rfl (any_of HT_.out (by kernel_rfl)) (fun _ _ _ h => h) (Or.inl ⟨by rfl, ?_⟩) ?_ ?_
                        rotate_left
                        ·intro w'
                         go_simp
                         with_reducible rfl
                        rotate_left
                        ·simp only [Act.put, zs1, zs2, zs3, i64_w, i32_w]
                         rfl
                        refine pure_ (i := 27) (N := some 104) (v := ?_) (a' := ?_) #[true, true, true, true, true, true, true, true, true, true, true, true, true, true, true, true, true, true, true, true, true, true, true, true, true, true, true, true, false, false] rfl rfl (any_of HT_.out (by kernel_rfl)) (fun _ _ _ h => h) (Or.inl ⟨by rfl, ?_⟩) ?_ ?_
                        rotate_left
                        ·intro w'
                         go_simp
                         with_reducible rfl
                        rotate_left
                        ·simp only [Act.put, zs1, zs2, zs3, i64_w, i32_w]
                         rfl
                        refine pure_ (i := 28) (N := some 105) (v := ?_) (a' := ?_) #[true, true, true, true, true, true, true, true, true, true, true, true, true, true, true, true, true, true, true, true, true, true, true, true, true, true, true, true, true, false] rfl rfl (any_of HT_.out (by kernel_rfl)) (fun _ _ _ h => h) (Or.inl ⟨by rfl, ?_⟩) ?_ ?_
                        rotate_left
                        ·intro w'
                         go_simp
                         with_reducible rfl
                        rotate_left
                        ·simp only [Act.put, zs1, zs2, zs3, i64_w, i32_w]
                         rfl
                        refine pure_ (i := 29) (N := some 9) (v := ?_) (a' := ?_) #[true, true, true, true, true, true, true, true, true, true, true, true, true, true, true, true, true, true, true, true, true, true, true, true, true, true, true, true, true, true] rfl rfl (any_of HT_.out (by kernel_rfl)) (fun _ _ _ h => h) (Or.inl ⟨by rfl, ?_⟩) ?_ ?_
                        rotate_left
                        ·intro w'
                         go_simp
                         with_reducible rfl
                        rotate_left
                        ·simp only [Act.put, zs1, zs2, zs3, i64_w, i32_w]
                         rfl
                        refine done_ (done_of HT_.out (by kernel_rfl)) ?_
                        try go_wp2
                        have n0_ := zA (Kd.R_drew HO_0.out)
                        have n1_ := zA (Kd.R_drew HO_273003.out)
                        have n2_ := zA (zc4 BK259.out)
                        have n3_ := zA (zc4 BK272.out)
                        have n4_ := zA (zb2 HB.out)
                        clear HO_0
                        clear HO_273003
                        clear BK259
                        clear BK272
                        clear HB
                        have HO_0 := n0_
                        have HO_273003 := n1_
                        have BK259 := n2_
                        have BK272 := n3_
                        have HB := n4_
                        clear n0_ n1_ n2_ n3_ n4_
                        have q83 : ((wrap64 ((ji73) + (rd t264 2))) : Int) ≤ ((t260.length : Int) : Int) := zd3 (by first | (with_reducible assumption) | assumption)
                        obtain ⟨i083, hi083, _, hsz83, _⟩ := info_parts info5
                        have hroom83 : t260.length ≤ co48 := (Kd.R_reads' HO_0.out).2.1
                        have hC83 : Kd.C (Kd.int .u8) _ (some ad275) t260.length t260 := (Kd.R_reads' HO_0.out).2.2
                        have ql83 : ((ji73) : Int) ≤ ((wrap64 ((ji73) + (rd t264 2))) : Int) := zd3 (by first | (with_reducible assumption) | assumption)
                        have q083 : (0 : Int) ≤ ((ji73) : Int) := zd3 (by first | (with_reducible assumption) | assumption)
                        have hcut83 := cut_mid (P := Tryd.prog) 22 5 .i64 .i64 Tryd.underlying22 hi083 1 hsz83 (some ad275) t260.length co48 (ji73) (wrap64 ((ji73) + (rd t264 2))) q083 ql83 q83 hroom83
                        have hr83 := Kd.C_mid (lo := ((ji73) : Int).toNat) (hi := ((wrap64 ((ji73) + (rd t264 2))) : Int).toNat) (c := co48) hC83 (by omega) (by omega) hroom83
                        obtain ⟨A83, hA83⟩ : ∃ A1, A1 = (if co48 = ((ji73) : Int).toNat then (some ad275) else ((some ad275) : Option Addr).map (·.add (((ji73) : Int).toNat * 1))) := ⟨_, rfl⟩
                        obtain ⟨c83, hc83⟩ : ∃ c1, c1 = co48 - ((ji73) : Int).toNat := ⟨_, rfl⟩
                        have hy83 : y279.length = ((wrap64 ((ji73) + (rd t264 2))) : Int).toNat - ((ji73) : Int).toNat := (by rw [Ny279.out, List.length_drop, List.length_take] <;> omega)
                        rw [show ((t260).take ((wrap64 ((ji73) + (rd t264 2))) : Int).toNat).drop ((ji73) : Int).toNat = y279 from Ny279.out.symm] at hr83
                        replace hr83 : Kd.C (Kd.int .u8) _ A83 y279.length y279 := (by rw [hA83]; exact hr83)
                        rw [← hy83, ← hA83, ← hc83] at hcut83
                        have HR282 := zA hr83
                        have HC282 := zA (show y279.length ≤ c83 from by rw [hy83, hc83]; exact Nat.sub_le_sub_right (Nat.le_trans (by omega) hroom83) _)
                        clear hr83 hC83 hroom83 hi083 hsz83 hc83
                        have KY83 := zA hy83
                        have KA83 := zA hA83
                        clear hy83 hA83
                        have KL83 := zA (show ((wrap64 ((ji73) + (rd t264 2))) : Int).toNat ≤ t260.length from by omega)
                        have KM83 := zA (show ((ji73) : Int).toNat ≤ ((wrap64 ((ji73) + (rd t264 2))) : Int).toNat from by omega)
                        replace q83 := eq_true q83
                        have hcv84 := Kd.C_string (P := Tryd.prog) (A := A83) (c := c83) Tryd.underlying22 Tryd.underlying5 Tryd.underlying9 (by repeat (first | (with_reducible exact HR282.out) | (with_reducible refine Kd.C_alloc ?_ _) | (with_reducible refine Kd.C_drewN ?_ _) | (with_reducible refine Kd.C_drew ?_) | exact HR282.out))
                        have hcv84d := fun (n_ : Nat) => Kd.C_string (P := Tryd.prog) (A := A83) (c := c83) Tryd.underlying22 Tryd.underlying5 Tryd.underlying9 (Kd.C_drewN (by repeat (first | (with_reducible exact HR282.out) | (with_reducible refine Kd.C_alloc ?_ _) | (with_reducible refine Kd.C_drewN ?_ _) | (with_reducible refine Kd.C_drew ?_) | exact HR282.out)) n_)
                        refine start_ (n := 18) (S := fun w' => Kd.C (Kd.int .u8) w' A83 y279.length y279 ∧ w'.cell? ⟨gb272, 0, none⟩ = some (.int .i64 (rd t264 0)) ∧ w'.cell? ⟨gb272, 1, none⟩ = some (.int .i64 (rd t264 1)) ∧ w'.cell? ⟨gb272, 2, none⟩ = some (.int .i64 (rd t264 2)) ∧ w'.cell? ⟨gb272, 3, none⟩ = some (.slice Ao80 x273003_1.length co80)) (ds := [17]) #[false, false, false, false, false, false, false, false, false, false, false, false, false, false, false, false, false, false] (by kernel_rfl) rfl rfl ⟨(by repeat (first | exact HR282.out | refine Kd.C_alloc ?_ _ | refine Kd.C_drewN ?_ _ | refine Kd.C_drew ?_)), ⟨(zc1 BK272.out 0).trans rfl, (zc1 BK272.out 1).trans rfl, (zc1 BK272.out 2).trans rfl, (zc1 BK272.out 3).trans rfl⟩⟩ (fun hHeld => ?_); refine with_tabW remoraref06_Read.tab18 remoraref06_Read.bits18 (fun HT_ HW_ => ?_)
                        generalize w81.drew = w82 at HO_0 HO_273003 BK259 BK272 HB HR282 hHeld ⊢
                        refine pure_ (i := 0) (N := some 106) (v := ?_) (a' := ?_) #[true, false, false, false, false, false, false, false, false, false, false, false, false, false, false, false, false, false] rfl rfl (any_of HT_.out (by kernel_rfl)) (fun _ _ _ h => h) (Or.inl ⟨by rfl, ?_⟩) ?_ ?_
                        rotate_left
                        ·intro w'
                         go_simp
                         with_reducible rfl
                        rotate_left
                        ·simp only [Act.put, zs1, zs2, zs3, i64_w, i32_w]
                         rfl
                        refine pure_ (i := 2) (N := some 108) (v := ?_) (a' := ?_) #[true, false, true, false, false, false, false, false, false, false, false, false, false, false, false, false, false, false] rfl rfl (any_of HT_.out (by kernel_rfl)) (fun _ _ _ h => h) (Or.inl ⟨by rfl, ?_⟩) ?_ ?_
                        rotate_left
                        ·intro w'
                         go_simp
                         with_reducible rfl
                        rotate_left
                        ·simp only [Act.put, zs1, zs2, zs3, i64_w, i32_w]
                         rfl
                        refine pure_ (i := 3) (N := some 109) (v := ?_) (a' := ?_) #[true, false, true, true, false, false, false, false, false, false, false, false, false, false, false, false, false, false] rfl rfl (any_of HT_.out (by kernel_rfl)) (fun _ _ _ h => h) (Or.inl ⟨by rfl, ?_⟩) ?_ ?_
                        rotate_left
                        ·intro w'
                         go_simp
                         with_reducible rfl
                        rotate_left
                        ·simp only [Act.put, zs1, zs2, zs3, i64_w, i32_w]
                         rfl
                        refine pure_ (i := 4) (N := some 110) (v := ?_) (a' := ?_) #[true, false, true, true, true, false, false, false, false, false, false, false, false, false, false, false, false, false] rfl rfl (any_of HT_.out (by kernel_rfl)) (fun _ _ _ h => h) (Or.inl ⟨by rfl, ?_⟩) ?_ ?_
                        rotate_left
                        ·intro w'
                         go_simp
                         with_reducible rfl
                        rotate_left
                        ·simp only [Act.put, zs1, zs2, zs3, i64_w, i32_w]
                         rfl
                        refine pure_ (i := 5) (N := some 111) (v := ?_) (a' := ?_) #[true, false, true, true, true, true, false, false, false, false, false, false, false, false, false, false, false, false] rfl rfl (any_of HT_.out (by kernel_rfl)) (fun _ _ _ h => h) (Or.inl ⟨by rfl, ?_⟩) ?_ ?_
                        rotate_left
                        ·intro w'
                         go_simp
                         with_reducible rfl
                        rotate_left
                        ·simp only [Act.put, zs1, zs2, zs3, i64_w, i32_w]
                         rfl
                        refine pure_ (i := 6) (N := some 112) (v := ?_) (a' := ?_) #[true, false, true, true, true, true, true, false, false, false, false, false, false, false, false, false, false, false] rfl rfl (any_of HT_.out (by kernel_rfl)) (fun _ _ _ h => h) (Or.inl ⟨by rfl, ?_⟩) ?_ ?_
                        rotate_left
                        ·intro w'
                         go_simp
                         with_reducible rfl
                        rotate_left
                        ·simp only [Act.put, zs1, zs2, zs3, i64_w, i32_w]
                         rfl
                        refine pure_ (i := 7) (N := some 113) (v := ?_) (a' := ?_) #[true, false, true, true, true, true, true, true, false, false, false, false, false, false, false, false, false, false] rfl rfl (any_of HT_.out (by kernel_rfl)) (fun _ _ _ h => h) (Or.inl ⟨by rfl, ?_⟩) ?_ ?_
                        rotate_left
                        ·intro w'
                         go_simp
                         with_reducible rfl
                        rotate_left
                        ·simp only [Act.put, zs1, zs2, zs3, i64_w, i32_w]
                         rfl
                        refine pure_ (i := 8) (N := some 114) (v := ?_) (a' := ?_) #[true, false, true, true, true, true, true, true, true, false, false, false, false, false, false, false, false, false] rfl rfl (any_of HT_.out (by kernel_rfl)) (fun _ _ _ h => h) (Or.inl ⟨by rfl, ?_⟩) ?_ ?_
                        rotate_left
                        ·intro w'
                         go_simp
                         with_reducible rfl
                        rotate_left
                        ·simp only [Act.put, zs1, zs2, zs3, i64_w, i32_w]
                         rfl
                        refine take_ (i := 1) (N := some 107) (v := ?_) (a' := ?_) #[true, true, true, true, true, true, true, true, true, false, false, false, false, false, false, false, false, false] rfl rfl (take_ofW HT_.out HW_.out (by kernel_rfl)) (fun _ _ _ h => h) (Or.inl ⟨by rfl, ?_⟩) hHeld ?_ ?_
                        rotate_left
                        ·rintro w' ⟨hcr_, s0, s1, s2, s3⟩
                         go_simp
                         with_reducible rfl
                        rotate_left
                        ·simp only [Act.put, zs1, zs2, zs3, i64_w, i32_w]
                         rfl
                        refine take_ (i := 9) (N := some 115) (v := ?_) (a' := ?_) #[true, true, true, true, true, true, true, true, true, true, false, false, false, false, false, false, false, false] rfl rfl (take_ofW HT_.out HW_.out (by kernel_rfl)) (fun _ _ _ h => h) (Or.inl ⟨by rfl, ?_⟩) hHeld ?_ ?_
                        rotate_left
                        ·rintro w' ⟨hcr_, s0, s1, s2, s3⟩
                         go_simp
                         with_reducible rfl
                        rotate_left
                        ·simp only [Act.put, zs1, zs2, zs3, i64_w, i32_w]
                         rfl
                        refine pure_ (i := 10) (N := some 116) (v := ?_) (a' := ?_) #[true, true, true, true, true, true, true, true, true, true, true, false, false, false, false, false, false, false] rfl rfl (any_of HT_.out (by kernel_rfl)) (fun _ _ _ h => h) (Or.inl ⟨by rfl, ?_⟩) ?_ ?_
                        rotate_left
                        ·intro w'
                         go_simp
                         with_reducible rfl
                        rotate_left
                        ·simp only [Act.put, zs1, zs2, zs3, i64_w, i32_w]
                         rfl
                        refine pure_ (i := 11) (N := some 117) (v := ?_) (a' := ?_) #[true, true, true, true, true, true, true, true, true, true, true, true, false, false, false, false, false, false] rfl rfl (any_of HT_.out (by kernel_rfl)) (fun _ _ _ h => h) (Or.inl ⟨by rfl, ?_⟩) ?_ ?_
                        rotate_left
                        ·intro w'
                         go_simp
                         with_reducible rfl
                        rotate_left
                        ·simp only [Act.put, zs1, zs2, zs3, i64_w, i32_w]
                         rfl
                        refine take_ (i := 12) (N := some 118) (v := ?_) (a' := ?_) #[true, true, true, true, true, true, true, true, true, true, true, true, true, false, false, false, false, false] rfl rfl (take_ofW HT_.out HW_.out (by kernel_rfl)) (fun _ _ _ h => h) (Or.inl ⟨by rfl, ?_⟩) hHeld ?_ ?_
                        rotate_left
                        ·rintro w' ⟨hcr_, _⟩
                         have hcvx_ := Kd.C_string (P := Tryd.prog) (A := A83) (c := c83) Tryd.underlying22 Tryd.underlying5 Tryd.underlying9 hcr_
                         go_simp
                         with_reducible rfl
                        rotate_left
                        ·simp only [Act.put, zs1, zs2, zs3, i64_w, i32_w]
                         rfl
                        refine pure_ (i := 13) (N := some 119) (v := ?_) (a' := ?_) #[true, true, true, true, true, true, true, true, true, true, true, true, true, true, false, false, false, false] rfl rfl (any_of HT_.out (by kernel_rfl)) (fun _ _ _ h => h) (Or.inl ⟨by rfl, ?_⟩) ?_ ?_
                        rotate_left
                        ·intro w'
                         go_simp
                         with_reducible rfl
                        rotate_left
                        ·simp only [Act.put, zs1, zs2, zs3, i64_w, i32_w]
                         rfl
                        refine one_ (i := 14) (N := some 120) #[true, true, true, true, true, true, true, true, true, true, true, true, true, true, true, false, false, false] rfl rfl (one_of HT_.out (by kernel_rfl)) (by decide) (fun K hK => ?_)
                        refine value_ (w1 := ?_) (v := ?_) (by rfl) rfl ?_ ?_
                        rotate_left 2
                        ·go_simp
                         constructor
                         ·rfl
                         ·rfl
                        refine hK.out _ _ ⟨(by repeat (first | exact HR282.out | refine Kd.C_alloc ?_ _ | refine Kd.C_drewN ?_ _ | refine Kd.C_drew ?_)), ⟨(zc1 (zc2 BK272.out _) 0).trans rfl, (zc1 (zc2 BK272.out _) 1).trans rfl, (zc1 (zc2 BK272.out _) 2).trans rfl, (zc1 (zc2 BK272.out _) 3).trans rfl⟩⟩ (fun hHeld => ?_)
                        clear hK K
                        refine norm_ (a' := ?_) ?_ ?_
                        rotate_left
                        ·show Act.put _ (some 120) _ = _
                         simp only [Act.put, zs1, zs2, zs3, i64_w, i32_w]
                         rfl
                        refine one_ (i := 15) (N := some 121) #[true, true, true, true, true, true, true, true, true, true, true, true, true, true, true, true, false, false] rfl rfl (one_of HT_.out (by kernel_rfl)) (by decide) (fun K hK => ?_)
                        refine Kd.R_append_step k44 (w0 := w) w.heap.size (by rfl) (.tmp 107) (.tmp 120) 24 44 (.agg #[(.int .u32 0), (.string ⟨#[]⟩)]) 24 rfl Tryd.underlying24 info44 rfl (by decide) (by omega) (.slice Ao80 x273003_1.length co80) x273003_1 (⟨Go.bits .or .u32 (Go.bits .or .u32 (Go.bits .or .u32 ((rd t260 x6_1) % 4294967296) ((((rd t260 (ji64)) % 4294967296) * 256) % 4294967296)) ((((rd t260 (ji67)) % 4294967296) * 65536) % 4294967296)) ((((rd t260 (ji70)) % 4294967296) * 16777216) % 4294967296), strOfNums y279⟩ : S44) [.int .u32 (Go.bits .or .u32 (Go.bits .or .u32 (Go.bits .or .u32 ((rd t260 x6_1) % 4294967296) ((((rd t260 (ji64)) % 4294967296) * 256) % 4294967296)) ((((rd t260 (ji67)) % 4294967296) * 65536) % 4294967296)) ((((rd t260 (ji70)) % 4294967296) * 16777216) % 4294967296)), .string (strOfNums y279)] (fun _ => True) (fun _ => False) rfl rfl ?aP (fun _ hk => hk.elim) ?aF ?aO ?aB ?aS ?aL ?_
                        (case aP => exact k44_mkM _ _ _ (⟨Go.bits .or .u32 (Go.bits .or .u32 (Go.bits .or .u32 ((rd t260 x6_1) % 4294967296) ((((rd t260 (ji64)) % 4294967296) * 256) % 4294967296)) ((((rd t260 (ji67)) % 4294967296) * 65536) % 4294967296)) ((((rd t260 (ji70)) % 4294967296) * 16777216) % 4294967296), strOfNums y279⟩ : S44))
                        (case aB => exact (by repeat (first | (with_reducible first | exact HB.out | apply zb3 | apply zb1 | apply zb2 | refine zb4 ?_ GE259.out | refine zb4 ?_ GE272.out) | exact HB.out)))
                        (case aF => exact (fun _ _ => trivial))
                        (case aO => exact (by (with_reducible repeat (first | apply Kd.R_alloc | apply Kd.R_drewN | apply Kd.R_drew)); exact HO_273003.out))
                        (case aS => exact (zb6 (by repeat (first | (with_reducible first | exact HB.out | apply zb3 | apply zb1 | apply zb2 | refine zb4 ?_ GE259.out | refine zb4 ?_ GE272.out) | exact HB.out))))
                        (case aL => have := LMc77.out; omega)
                        intro v284 w85 ho hb hg hat
                        rw [← Ny283.out] at ho
                        have n0_ := zA (Kd.R_over' (by (with_reducible repeat (first | apply Kd.R_alloc | apply Kd.R_drewN | apply Kd.R_drew)); exact HO_0.out) (Kd.R_typed (by (with_reducible repeat (first | apply Kd.R_alloc | apply Kd.R_drewN | apply Kd.R_drew)); exact HO_273003.out)) (by decide) hg)
                        have n1_ := zA (blk_grown (g := gb259) (o := .cells #[.int .i64 0, .int .i64 0, .int .i64 0, .slice none 0 0] 26 (0, 0)) (by (with_reducible repeat (first | refine zc3 ?_ _ | refine zc4 ?_ | refine zc2 ?_ _)); exact BK259.out) hg (Kd.R_ne HO_273003.out BK259.out (by decide)))
                        have n2_ := zA (blk_grown (g := gb272) (o := .cells #[.int .i64 (rd t264 0), .int .i64 (rd t264 1), .int .i64 (rd t264 2), .slice Ao80 x273003_1.length co80] 26 (0, 0)) (by (with_reducible repeat (first | refine zc3 ?_ _ | refine zc4 ?_ | refine zc2 ?_ _)); exact BK272.out) hg (Kd.R_ne HO_273003.out BK272.out (by decide)))
                        have n3_ := zA (hb)
                        have n4_ := zA ((show Kd.C (Kd.int .u8) w85 A83 y279.length y279 from by rw [Ny279.out, KA83.out]; exact Kd.C_mid (lo := ((ji73) : Int).toNat) (hi := ((wrap64 ((ji73) + (rd t264 2))) : Int).toNat) (c := co48) ((Kd.R_reads' (Kd.R_over' (by (with_reducible repeat (first | apply Kd.R_alloc | apply Kd.R_drewN | apply Kd.R_drew)); exact HO_0.out) (Kd.R_typed (by (with_reducible repeat (first | apply Kd.R_alloc | apply Kd.R_drewN | apply Kd.R_drew)); exact HO_273003.out)) (by decide) hg)).2.2) KM83.out KL83.out ((Kd.R_reads' (Kd.R_over' (by (with_reducible repeat (first | apply Kd.R_alloc | apply Kd.R_drewN | apply Kd.R_drew)); exact HO_0.out) (Kd.R_typed (by (with_reducible repeat (first | apply Kd.R_alloc | apply Kd.R_drewN | apply Kd.R_drew)); exact HO_273003.out)) (by decide) hg)).2.1)))
                        have n5_ := zA (ho)
                        clear HO_0
                        clear BK259
                        clear BK272
                        clear HB
                        clear HR282
                        clear HO_273003
                        have HO_0 := n0_
                        have BK259 := n1_
                        have BK272 := n2_
                        have HB := n3_
                        have HR282 := n4_
                        have HO285 := n5_
                        clear n0_ n1_ n2_ n3_ n4_ n5_
                        clear ho hb hg hat
                        obtain ⟨Ao86, co86, eo86⟩ := Kd.R_slice HO285.out
                        (first | subst eo86 | (injection eo86 with f1_ f2_ f3_; have f4_ := f1_.symm; have f5_ := f3_.symm; clear f1_ f2_ f3_; subst f4_; subst f5_))
                        refine hK.out _ _ ⟨(by repeat (first | exact HR282.out | refine Kd.C_alloc ?_ _ | refine Kd.C_drewN ?_ _ | refine Kd.C_drew ?_)), ⟨(zc1 BK272.out 0).trans rfl, (zc1 BK272.out 1).trans rfl, (zc1 BK272.out 2).trans rfl, (zc1 BK272.out 3).trans rfl⟩⟩ (fun hHeld => ?_)
                        clear hK K
                        refine norm_ (a' := ?_) ?_ ?_
                        rotate_left
                        ·show Act.put _ (some 121) _ = _
                         simp only [Act.put, zs1, zs2, zs3, i64_w, i32_w]
                         rfl
                        refine pure_ (i := 16) (N := some 122) (v := ?_) (a' := ?_) #[true, true, true, true, true, true, true, true, true, true, true, true, true, true, true, true, true, false] rfl rfl (any_of HT_.out (by kernel_rfl)) (fun _ _ _ h => h) (Or.inl ⟨by rfl, ?_⟩) ?_ ?_
                        rotate_left
                        ·intro w'
                         go_simp
                         with_reducible rfl
                        rotate_left
                        ·simp only [Act.put, zs1, zs2, zs3, i64_w, i32_w]
                         rfl
                        refine last_ (i := 17) (N := none) #[true, true, true, true, true, true, true, true, true, true, true, true, true, true, true, true, true, true] rfl rfl (one_of HT_.out (by kernel_rfl)) (by decide) (fun K hK => ?_)
                        have hs87 : w85.cell? ⟨gb272, 3, none⟩ = some (.slice Ao80 x273003_1.length co80) := (zc1 BK272.out 3).trans rfl
                        have hfs87 := zc5 BK272.out 3
                        have hns87_0 := NB259_272.out
                        have hms87_0 := NB272_259.out
                        refine skip_ (w1 := ?_) (by rfl) rfl ?_ ?_
                        rotate_left
                        ·go_simp
                         rfl
                        refine hK.out _ _ ?_
                        clear hK K
                        refine done_ (done_of HT_.out (by kernel_rfl)) ?_
                        have hcz88_0 : w85.cell? ⟨gb272, 0, none⟩ = some (.int .i64 (rd t264 0)) := (zc1 BK272.out 0).trans rfl
                        have hcz88_1 : w85.cell? ⟨gb272, 1, none⟩ = some (.int .i64 (rd t264 1)) := (zc1 BK272.out 1).trans rfl
                        have hcz88_2 : w85.cell? ⟨gb272, 2, none⟩ = some (.int .i64 (rd t264 2)) := (zc1 BK272.out 2).trans rfl
                        have hcz88_3 : w85.cell? ⟨gb272, 3, none⟩ = some (.slice Ao80 x273003_1.length co80) := (zc1 BK272.out 3).trans rfl
                        have hfz88_0 := zc5 BK272.out 0
                        have hfz88_1 := zc5 BK272.out 1
                        have hfz88_2 := zc5 BK272.out 2
                        have hfz88_3 := zc5 BK272.out 3
                        try go_wp2
                        go_roundg k1
                        case measure => have := HK1.out; omega
                        case rel => exact ⟨(wrap64 (x6_1 + (wrap64 (4 + (rd t264 2))))), (y283), (.slice Ao86 y283.length co86), (by first | rfl | (simp; done) | (simp [*]; done)), H', ⟨by have := HK1.out; omega⟩, ⟨by (with_reducible repeat (first | apply Kd.R_alloc | apply Kd.R_drewN | apply Kd.R_drew)); exact Kd.R_mono (Kd.R_far (p := ⟨gb272, 3, none⟩) (Kd.R_types HO_0.out BK272.out (by decide)) (fun _ hk => hk.2) (.slice Ao86 y283.length co86)) (fun _ hk => trivial)⟩, ⟨by (with_reducible repeat (first | apply Kd.R_alloc | apply Kd.R_drewN | apply Kd.R_drew)); exact Kd.R_mono (Kd.R_far (p := ⟨gb272, 3, none⟩) (Kd.R_types HO285.out BK272.out (by decide)) (fun _ hk => hk.2) (.slice Ao86 y283.length co86)) (fun _ hk => trivial)⟩, ⟨by (with_reducible repeat (first | refine zc3 ?_ _ | refine zc4 ?_ | refine zc2 ?_ _)); refine zc7 ?_ NB259_272.out _; (with_reducible repeat (first | refine zc3 ?_ _ | refine zc4 ?_ | refine zc2 ?_ _)); exact BK259.out⟩, ⟨by (with_reducible repeat (first | refine zc3 ?_ _ | refine zc4 ?_ | refine zc2 ?_ _)); refine blk_put (cs := #[.int .i64 (rd t264 0), .int .i64 (rd t264 1), .int .i64 (rd t264 2), .slice Ao80 x273003_1.length co80]) ?_ 3 _ rfl; (with_reducible repeat (first | refine zc3 ?_ _ | refine zc4 ?_ | refine zc2 ?_ _)); exact BK272.out⟩, ⟨by repeat (first | (with_reducible first | exact HB.out | apply zb3 | apply zb1 | apply zb2 | refine zb4 ?_ GE259.out | refine zb4 ?_ GE272.out) | exact HB.out)⟩⟩
                       ·rw [if_neg c77] at H
                        exact absurd H (by simp)
                      ·rw [if_neg c76] at H
                       exact absurd H (by simp)
                     ·rw [if_neg c75] at H
                      exact absurd H (by simp)
                    ·rw [if_neg c74] at H
                     exact absurd H (by simp)
                   ·rw [if_neg c72] at H
                    exact absurd H (by simp)
                  ·rw [if_neg c71] at H
                   exact absurd H (by simp)
                 ·rw [if_neg c69] at H
                  exact absurd H (by simp)
                ·rw [if_neg c68] at H
                 exact absurd H (by simp)
               ·rw [if_neg c66] at H
                exact absurd H (by simp)
              ·rw [if_neg c65] at H
               exact absurd H (by simp)
             ·rw [if_neg c63] at H
              exact absurd H (by simp)
            ·rw [if_neg c62] at H
             exact absurd H (by simp)
           ·rw [if_neg c61] at H
            have c61b0 : decide ((x273003_1.length : Int) < t274) = false := zd2 c61
            clear c61
            simp only [Option.some.injEq, Prod.mk.injEq] at H
            obtain ⟨rfl, rfl, rfl, rfl, rfl⟩ := H
            have hnb89 := NB272_259.out
            have hnc89 := NB259_272.out
            have hcz90_0 : wr.cell? ⟨gb272, 0, none⟩ = some (.int .i64 (rd t264 0)) := (zc1 BK272.out 0).trans rfl
            have hcz90_1 : wr.cell? ⟨gb272, 1, none⟩ = some (.int .i64 (rd t264 1)) := (zc1 BK272.out 1).trans rfl
            have hcz90_2 : wr.cell? ⟨gb272, 2, none⟩ = some (.int .i64 (rd t264 2)) := (zc1 BK272.out 2).trans rfl
            have hcz90_3 : wr.cell? ⟨gb272, 3, none⟩ = some (u273003) := (zc1 BK272.out 3).trans rfl
            have hfz90_0 := zc5 BK272.out 0
            have hfz90_1 := zc5 BK272.out 1
            have hfz90_2 := zc5 BK272.out 2
            have hfz90_3 := zc5 BK272.out 3
            obtain ⟨Ao91, co91, eo91⟩ := Kd.R_slice HO_273003.out
            subst eo91
            have hcz92_0 : wr.cell? ⟨gb259, 0, none⟩ = some (.int .i64 0) := (zc1 BK259.out 0).trans rfl
            have hcz92_1 : wr.cell? ⟨gb259, 1, none⟩ = some (.int .i64 0) := (zc1 BK259.out 1).trans rfl
            have hcz92_2 : wr.cell? ⟨gb259, 2, none⟩ = some (.int .i64 0) := (zc1 BK259.out 2).trans rfl
            have hcz92_3 : wr.cell? ⟨gb259, 3, none⟩ = some (.slice none 0 0) := (zc1 BK259.out 3).trans rfl
            have hfz92_0 := zc5 BK259.out 0
            have hfz92_1 := zc5 BK259.out 1
            have hfz92_2 := zc5 BK259.out 2
            have hfz92_3 := zc5 BK259.out 3
            go_wp2
            refine bodyPost_ret (results_ct rfl _ _ gb259 26 #[.int .i64 (rd t264 0), .int .i64 (rd t264 1), .int .i64 (rd t264 2), .slice Ao91 x273003_1.length co91] (0, 0) _ rfl (by (with_reducible repeat (first | refine zc3 ?_ _ | refine zc4 ?_ | refine zc2 ?_ _)); refine blk_put (cs := #[.int .i64 (rd t264 0), .int .i64 (rd t264 1), .int .i64 (rd t264 2), .slice none 0 0]) ?_ 3 _ rfl; (with_reducible repeat (first | refine zc3 ?_ _ | refine zc4 ?_ | refine zc2 ?_ _)); refine blk_put (cs := #[.int .i64 (rd t264 0), .int .i64 (rd t264 1), .int .i64 0, .slice none 0 0]) ?_ 2 _ rfl; (with_reducible repeat (first | refine zc3 ?_ _ | refine zc4 ?_ | refine zc2 ?_ _)); refine blk_put (cs := #[.int .i64 (rd t264 0), .int .i64 0, .int .i64 0, .slice none 0 0]) ?_ 1 _ rfl; (with_reducible repeat (first | refine zc3 ?_ _ | refine zc4 ?_ | refine zc2 ?_ _)); refine blk_put (cs := #[.int .i64 0, .int .i64 0, .int .i64 0, .slice none 0 0]) ?_ 0 _ rfl; (with_reducible repeat (first | refine zc3 ?_ _ | refine zc4 ?_ | refine zc2 ?_ _)); exact BK259.out) Tryd.underlying26 rfl (by kernel_rfl)) rfl ?_
            exact ⟨_, by first | rfl | (simp [*] <;> rfl), by (with_reducible repeat (first | apply Kd.R_alloc | apply Kd.R_drewN | apply Kd.R_drew)); exact Kd.R_mono (Kd.R_far (p := ⟨gb259, 3, none⟩) (Kd.R_far (p := ⟨gb259, 2, none⟩) (Kd.R_far (p := ⟨gb259, 1, none⟩) (Kd.R_far (p := ⟨gb259, 0, none⟩) (Kd.R_types HO_273003.out BK259.out (by decide)) (fun _ hk => hk.2) (.int .i64 (rd t264 0))) (fun _ hk => hk.2) (.int .i64 (rd t264 1))) (fun _ hk => hk.2) (.int .i64 (rd t264 2))) (fun _ hk => hk.2) (.slice Ao91 x273003_1.length co91)) (fun _ hk => trivial), by repeat (first | (with_reducible first | exact HB.out | apply zb3 | apply zb1 | apply zb2 | refine zb4 ?_ GE259.out | refine zb4 ?_ GE272.out) | exact HB.out)⟩
      ·rw [if_neg c10] at H
       have c10b0 : (t273 == 0) = false := beq_eq_false_iff_ne.mpr c10
       have c10b1 : (t273 != 0) = true := bne_iff_ne.mpr c10
       simp only [Option.some.injEq, Prod.mk.injEq] at H
       obtain ⟨rfl, rfl, rfl, rfl, rfl⟩ := H
       go_enter Tryd.func28, Tryd.ntmps28
       try go_wp2_with (first | ((with_reducible refine gate_dst (N := 2) rfl ?_); refine box_event ?hg (N := 2) ?hd (cs := #[.int .i64 0, .int .i64 0, .int .i64 0, .slice none 0 0]) (t := 26) ?hr ?_; (case hd => rfl); (case hg => rfl); (case hr => first | (go_simp; done) | (go_simp; rfl)); intro gb259 hg w93 hbox hb; have n0_ := zA (zb5 (by repeat (first | (with_reducible first | exact HB.out | apply zb3 | apply zb1 | apply zb2) | exact HB.out)) hb); have n1_ := zA (hbox); have n2_ := zA ((by rw [hg]; exact (zb6 (by repeat (first | (with_reducible first | exact HB.out | apply zb3 | apply zb1 | apply zb2) | exact HB.out))) : w.heap.size ≤ gb259)); have n3_ := zA ((by rw [hg]; exact (zb6 (by repeat (first | (with_reducible first | exact HB.out | apply zb3 | apply zb1 | apply zb2) | exact HB.out))) : w.heap.size ≤ gb259)); clear HB; have HB := n0_; have BK259 := n1_; have GW259 := n2_; have GE259 := n3_; clear n0_ n1_ n2_ n3_; clear hb hbox hg) | ((with_reducible refine gate_callee (f := 55) rfl ?_); refine goesL_ (some 12) rfl rfl Tryd.func55 (by kernel_rfl) rfl #[.slice A0 l0.length c0] rfl (by (try simp only [zm1, zm2, zm3]); first | done | rfl | (simp only [List.length_drop, List.length_take]; rfl) | (simp only [Int.emod_add_emod, Int.add_emod_emod]; rfl)) ?_; (with_reducible refine (remoraref02_Open.calls k _ _ l0 t260 t261 _ ?side1 ?side2 A2.out).mono ?_); (case side1 => repeat (first | exact (Kd.C_below HR0.out HB.out) | (with_reducible refine Kd.C_alloc ?_ _) | (with_reducible refine Kd.C_drewN ?_ _) | (with_reducible refine Kd.C_drew ?_))); (case side2 => exact HC0.out); rintro e w94 ⟨v262, rfl, ho0, hb⟩; refine ⟨_, rfl, ?_⟩; have n0_ := zA (Kd.R_lower ho0 (zb6 (by repeat (first | (with_reducible first | exact HB.out | apply zb3 | apply zb1 | apply zb2 | refine zb4 ?_ GE259.out) | exact HB.out)))); have n1_ := zA (zc6 (g := gb259) (o := .cells #[.int .i64 0, .int .i64 0, .int .i64 0, .slice none 0 0] 26 (0, 0)) (by (with_reducible repeat (first | refine zc3 ?_ _ | refine zc4 ?_ | refine zc2 ?_ _)); exact BK259.out) hb); have n2_ := zA (zb5 (by repeat (first | (with_reducible first | exact HB.out | apply zb3 | apply zb1 | apply zb2 | refine zb4 ?_ GE259.out) | exact HB.out)) hb); clear BK259; clear HB; have HO263 := n0_; have BK259 := n1_; have HB := n2_; clear n0_ n1_ n2_; (try clear hb); (try clear hb2); (try clear hk); (try clear hi); (try clear ho0); obtain ⟨Ao95, co95, eo95⟩ := Kd.R_slice HO263.out; subst eo95) | ((with_reducible refine gate_callee (f := 56) rfl ?_); refine goesL_ (some 21) rfl rfl Tryd.func56 (by kernel_rfl) rfl #[.slice Ao95 t260.length co95] rfl (by (try simp only [zm1, zm2, zm3]); first | done | rfl | (simp only [List.length_drop, List.length_take]; rfl) | (simp only [Int.emod_add_emod, Int.add_emod_emod]; rfl)) ?_; (with_reducible refine (remoraref06_three.calls k _ _ t260 t264 t265 t266 _ ?side1 ?side2 A4.out).mono ?_); (case side1 => repeat (first | exact (Kd.R_reads' HO263.out).2.2 | (with_reducible refine Kd.C_alloc ?_ _) | (with_reducible refine Kd.C_drewN ?_ _) | (with_reducible refine Kd.C_drew ?_))); (case side2 => exact (Kd.R_reads' HO263.out).2.1); rintro e w96 ⟨v267, rfl, ho0, hb⟩; refine ⟨_, rfl, ?_⟩; have n0_ := zA (Kd.R_below (by (with_reducible repeat (first | apply Kd.R_alloc | apply Kd.R_drewN | apply Kd.R_drew)); exact HO263.out) hb); have n1_ := zA (Kd.R_lower ho0 (zb6 (by repeat (first | (with_reducible first | exact HB.out | apply zb3 | apply zb1 | apply zb2 | refine zb4 ?_ GE259.out) | exact HB.out)))); have n2_ := zA (zc6 (g := gb259) (o := .cells #[.int .i64 0, .int .i64 0, .int .i64 0, .slice none 0 0] 26 (0, 0)) (by (with_reducible repeat (first | refine zc3 ?_ _ | refine zc4 ?_ | refine zc2 ?_ _)); exact BK259.out) hb); have n3_ := zA (zb5 (by repeat (first | (with_reducible first | exact HB.out | apply zb3 | apply zb1 | apply zb2 | refine zb4 ?_ GE259.out) | exact HB.out)) hb); clear HO263; clear BK259; clear HB; have HO263 := n0_; have HO268 := n1_; have BK259 := n2_; have HB := n3_; clear n0_ n1_ n2_ n3_; (try clear hb); (try clear hb2); (try clear hk); (try clear hi); (try clear ho0)))
       have n0_ := zA (Kd.R_drew HO263.out)
       have n1_ := zA (Kd.R_drew HO268.out)
       have n2_ := zA (zc4 BK259.out)
       have n3_ := zA (zb2 HB.out)
       clear HO263
       clear HO268
       clear BK259
       clear HB
       have HO263 := n0_
       have HO268 := n1_
       have BK259 := n2_
       have HB := n3_
       clear n0_ n1_ n2_ n3_
       obtain ⟨Ao98, co98, eo98⟩ := Kd.R_slice HO268.out
       (first | subst eo98 | (injection eo98 with f1_ f2_ f3_; have f4_ := f1_.symm; have f5_ := f3_.symm; clear f1_ f2_ f3_; subst f4_; subst f5_))
       have p269 : 0 ≤ (0 : Int) := (by omega)
       have q269 : 0 < (t264.length : Int) := zd3 (by first | (with_reducible assumption) | assumption)
       obtain ⟨ad269, e269, hx269_0⟩ := Kd.at_int (Kd.R_reads' HO268.out).2.2 0 p269 q269
       cases e269
       have qi269 : (0 < t264.length) = True := eq_true (by omega)
       (try rw [show ((0 : Int)).toNat = 0 from rfl] at hx269_0)
       (try rw [Addr.add_zero'] at hx269_0)
       replace p269 := eq_true p269
       replace q269 := eq_true q269
       have p270 : 0 ≤ (1 : Int) := (by omega)
       have q270 : 1 < (t264.length : Int) := zd3 (by first | (with_reducible assumption) | assumption)
       obtain ⟨ad270, e270, hx270_0⟩ := Kd.at_int (Kd.R_reads' HO268.out).2.2 1 p270 q270
       obtain rfl : ad269 = ad270 := (by injection e270)
       (try simp only [show (1 : Int).toNat = 1 from rfl, Nat.reduceMul, Nat.reduceEqDiff, Go.Addr.add, ↓reduceIte] at hx270_0)
       have qi270 : (1 < t264.length) = True := eq_true (by omega)
       (try rw [show ((1 : Int)).toNat = 1 from rfl] at hx270_0)
       replace p270 := eq_true p270
       replace q270 := eq_true q270
       have p271 : 0 ≤ (2 : Int) := (by omega)
       have q271 : 2 < (t264.length : Int) := zd3 (by first | (with_reducible assumption) | assumption)
       obtain ⟨ad271, e271, hx271_0⟩ := Kd.at_int (Kd.R_reads' HO268.out).2.2 2 p271 q271
       obtain rfl : ad269 = ad271 := (by injection e271)
       (try simp only [show (2 : Int).toNat = 2 from rfl, Nat.reduceMul, Nat.reduceEqDiff, Go.Addr.add, ↓reduceIte] at hx271_0)
       have qi271 : (2 < t264.length) = True := eq_true (by omega)
       (try rw [show ((2 : Int)).toNat = 2 from rfl] at hx271_0)
       replace p271 := eq_true p271
       replace q271 := eq_true q271
       refine start_ (n := 12) (S := fun w' => w'.cell? ad269 = some (.int .i64 (rd t264 0)) ∧ w'.cell? ⟨ad269.block, ad269.off + 1, none⟩ = some (.int .i64 (rd t264 1)) ∧ w'.cell? ⟨ad269.block, ad269.off + 2, none⟩ = some (.int .i64 (rd t264 2))) (ds := []) #[false, false, false, false, false, false, false, false, false, false, false, false] (by kernel_rfl) rfl rfl ⟨hx269_0, hx270_0, hx271_0⟩ (fun hHeld => ?_); refine with_tabW remoraref06_Read.tab7 remoraref06_Read.bits7 (fun HT_ HW_ => ?_)
       generalize w96.drew = w97 at HO263 HO268 BK259 HB hx269_0 hx270_0 hx271_0 hHeld ⊢
       refine pure_ (i := 0) (N := some 29) (v := ?_) (a' := ?_) #[true, false, false, false, false, false, false, false, false, false, false, false] rfl rfl (any_of HT_.out (by kernel_rfl)) (fun _ _ _ h => h) (Or.inl ⟨by rfl, ?_⟩) ?_ ?_
       rotate_left
       ·intro w'
        go_simp
        with_reducible rfl
       rotate_left
       ·simp only [Act.put, zs1, zs2, zs3, i64_w, i32_w]
        rfl
       refine pure_ (i := 1) (N := some 30) (v := ?_) (a' := ?_) #[true, true, false, false, false, false, false, false, false, false, false, false] rfl rfl (any_of HT_.out (by kernel_rfl)) (fun _ _ _ h => h) (Or.inl ⟨by rfl, ?_⟩) ?_ ?_
       rotate_left
       ·intro w'
        go_simp
        with_reducible rfl
       rotate_left
       ·simp only [Act.put, zs1, zs2, zs3, i64_w, i32_w]
        rfl
       refine pure_ (i := 3) (N := some 32) (v := ?_) (a' := ?_) #[true, true, false, true, false, false, false, false, false, false, false, false] rfl rfl (any_of HT_.out (by kernel_rfl)) (fun _ _ _ h => h) (Or.inl ⟨by rfl, ?_⟩) ?_ ?_
       rotate_left
       ·intro w'
        go_simp
        with_reducible rfl
       rotate_left
       ·simp only [Act.put, zs1, zs2, zs3, i64_w, i32_w]
        rfl
       refine pure_ (i := 4) (N := some 33) (v := ?_) (a' := ?_) #[true, true, false, true, true, false, false, false, false, false, false, false] rfl rfl (any_of HT_.out (by kernel_rfl)) (fun _ _ _ h => h) (Or.inl ⟨by rfl, ?_⟩) ?_ ?_
       rotate_left
       ·intro w'
        go_simp
        with_reducible rfl
       rotate_left
       ·simp only [Act.put, zs1, zs2, zs3, i64_w, i32_w]
        rfl
       refine pure_ (i := 6) (N := some 35) (v := ?_) (a' := ?_) #[true, true, false, true, true, false, true, false, false, false, false, false] rfl rfl (any_of HT_.out (by kernel_rfl)) (fun _ _ _ h => h) (Or.inl ⟨by rfl, ?_⟩) ?_ ?_
       rotate_left
       ·intro w'
        go_simp
        with_reducible rfl
       rotate_left
       ·simp only [Act.put, zs1, zs2, zs3, i64_w, i32_w]
        rfl
       refine pure_ (i := 7) (N := some 36) (v := ?_) (a' := ?_) #[true, true, false, true, true, false, true, true, false, false, false, false] rfl rfl (any_of HT_.out (by kernel_rfl)) (fun _ _ _ h => h) (Or.inl ⟨by rfl, ?_⟩) ?_ ?_
       rotate_left
       ·intro w'
        go_simp
        with_reducible rfl
       rotate_left
       ·simp only [Act.put, zs1, zs2, zs3, i64_w, i32_w]
        rfl
       refine take_ (i := 2) (N := some 31) (v := ?_) (a' := ?_) #[true, true, true, true, true, false, true, true, false, false, false, false] rfl rfl (take_ofW HT_.out HW_.out (by kernel_rfl)) (fun _ _ _ h => h) (Or.inl ⟨by rfl, ?_⟩) hHeld ?_ ?_
       rotate_left
       ·rintro w' ⟨s0, s1, s2⟩
        go_simp
        with_reducible rfl
       rotate_left
       ·simp only [Act.put, zs1, zs2, zs3, i64_w, i32_w]
        rfl
       refine take_ (i := 5) (N := some 34) (v := ?_) (a' := ?_) #[true, true, true, true, true, true, true, true, false, false, false, false] rfl rfl (take_ofW HT_.out HW_.out (by kernel_rfl)) (fun _ _ _ h => h) (Or.inl ⟨by rfl, ?_⟩) hHeld ?_ ?_
       rotate_left
       ·rintro w' ⟨s0, s1, s2⟩
        go_simp
        with_reducible rfl
       rotate_left
       ·simp only [Act.put, zs1, zs2, zs3, i64_w, i32_w]
        rfl
       refine take_ (i := 8) (N := some 37) (v := ?_) (a' := ?_) #[true, true, true, true, true, true, true, true, true, false, false, false] rfl rfl (take_ofW HT_.out HW_.out (by kernel_rfl)) (fun _ _ _ h => h) (Or.inl ⟨by rfl, ?_⟩) hHeld ?_ ?_
       rotate_left
       ·rintro w' ⟨s0, s1, s2⟩
        go_simp
        with_reducible rfl
       rotate_left
       ·simp only [Act.put, zs1, zs2, zs3, i64_w, i32_w]
        rfl
       refine pure_ (i := 9) (N := some 38) (v := ?_) (a' := ?_) #[true, true, true, true, true, true, true, true, true, true, false, false] rfl rfl (any_of HT_.out (by kernel_rfl)) (fun _ _ _ h => h) (Or.inl ⟨by rfl, ?_⟩) ?_ ?_
       rotate_left
       ·intro w'
        go_simp
        with_reducible rfl
       rotate_left
       ·simp only [Act.put, zs1, zs2, zs3, i64_w, i32_w]
        rfl
       refine one_ (i := 10) (N := some 7) #[true, true, true, true, true, true, true, true, true, true, true, false] rfl rfl (one_of HT_.out (by kernel_rfl)) (by decide) (fun K hK => ?_)
       refine box_step ?hg (N := 7) ?hd (cs := #[.int .i64 0, .int .i64 0, .int .i64 0, .slice none 0 0]) (t := 26) ?hr ?_; (case hd => rfl); (case hg => rfl); (case hr => first | (go_simp; done) | (go_simp; rfl))
       intro gb272 hg w99 hbox hb
       have HS0_ := (hb.cell (World.block_lt_of_cell? _ _ (hHeld.1))).trans (hHeld.1)
       have HS1_ := (hb.cell (World.block_lt_of_cell? _ _ (hHeld.2.1))).trans (hHeld.2.1)
       have HS2_ := (hb.cell (World.block_lt_of_cell? _ _ (hHeld.2.2))).trans (hHeld.2.2)
       have n0_ := zA (Kd.R_below (by (with_reducible repeat (first | apply Kd.R_alloc | apply Kd.R_drewN | apply Kd.R_drew)); exact HO263.out) hb)
       have n1_ := zA (Kd.R_below (by (with_reducible repeat (first | apply Kd.R_alloc | apply Kd.R_drewN | apply Kd.R_drew)); exact HO268.out) hb)
       have n2_ := zA (zc6 (g := gb259) (o := .cells #[.int .i64 0, .int .i64 0, .int .i64 0, .slice none 0 0] 26 (0, 0)) (by (with_reducible repeat (first | refine zc3 ?_ _ | refine zc4 ?_ | refine zc2 ?_ _)); exact BK259.out) hb)
       have n3_ := zA (zb5 (by repeat (first | (with_reducible first | exact HB.out | apply zb3 | apply zb1 | apply zb2 | refine zb4 ?_ GE259.out) | exact HB.out)) hb)
       have n4_ := zA (hbox)
       have n5_ := zA ((by rw [hg]; exact (zb6 (by repeat (first | (with_reducible first | exact HB.out | apply zb3 | apply zb1 | apply zb2 | refine zb4 ?_ GE259.out) | exact HB.out))) : w.heap.size ≤ gb272))
       have n6_ := zA ((by rw [hg]; exact (zb6 (by repeat (first | (with_reducible first | exact HB.out | apply zb3 | apply zb1 | apply zb2 | refine zb4 ?_ GE259.out) | exact HB.out))) : w.heap.size ≤ gb272))
       have n7_ := zA ((by rw [hg]; exact Nat.ne_of_lt (blk_lt (g := gb259) (o := .cells #[.int .i64 0, .int .i64 0, .int .i64 0, .slice none 0 0] 26 (0, 0)) (by (with_reducible repeat (first | refine zc3 ?_ _ | refine zc4 ?_ | refine zc2 ?_ _)); exact BK259.out)) : gb259 ≠ gb272))
       have n8_ := zA ((by rw [hg]; exact Nat.ne_of_gt (blk_lt (g := gb259) (o := .cells #[.int .i64 0, .int .i64 0, .int .i64 0, .slice none 0 0] 26 (0, 0)) (by (with_reducible repeat (first | refine zc3 ?_ _ | refine zc4 ?_ | refine zc2 ?_ _)); exact BK259.out)) : gb272 ≠ gb259))
       clear HO263
       clear HO268
       clear BK259
       clear HB
       have HO263 := n0_
       have HO268 := n1_
       have BK259 := n2_
       have HB := n3_
       have BK272 := n4_
       have GW272 := n5_
       have GE272 := n6_
       have NB259_272 := n7_
       have NB272_259 := n8_
       clear n0_ n1_ n2_ n3_ n4_ n5_ n6_ n7_ n8_
       clear hb hbox hg
       refine hK.out _ _ ⟨HS0_, HS1_, HS2_⟩ (fun hHeld => ?_)
       clear hK K
       refine norm_ (a' := ?_) ?_ ?_
       rotate_left
       ·show Act.put _ (some 7) _ = _
        simp only [Act.put, zs1, zs2, zs3, i64_w, i32_w]
        rfl
       refine one_ (i := 11) (N := none) #[true, true, true, true, true, true, true, true, true, true, true, true] rfl rfl (one_of HT_.out (by kernel_rfl)) (by decide) (fun K hK => ?_)
       have hs100 : w99.cell? ⟨gb272, 0, none⟩ = some (.int .i64 0) := (zc1 BK272.out 0).trans rfl
       have hfs100 := zc5 BK272.out 0
       have hns100_0 := NB259_272.out
       have hms100_0 := NB272_259.out
       have hs101 : w99.cell? ⟨gb272, 1, none⟩ = some (.int .i64 0) := (zc1 BK272.out 1).trans rfl
       have hfs101 := zc5 BK272.out 1
       have hns101_0 := NB259_272.out
       have hms101_0 := NB272_259.out
       have hs102 : w99.cell? ⟨gb272, 2, none⟩ = some (.int .i64 0) := (zc1 BK272.out 2).trans rfl
       have hfs102 := zc5 BK272.out 2
       have hns102_0 := NB259_272.out
       have hms102_0 := NB272_259.out
       have hs103 : w99.cell? ⟨gb272, 3, none⟩ = some (.slice none 0 0) := (zc1 BK272.out 3).trans rfl
       have hfs103 := zc5 BK272.out 3
       have hns103_0 := NB259_272.out
       have hms103_0 := NB272_259.out
       refine skip_ (w1 := ?_) (by rfl) rfl ?_ ?_
       rotate_left
       ·go_simp
        rfl
       have hfar0_ := Kd.own_blk (Kd.R_ne HO268.out BK272.out (by decide))
       refine hK.out _ _ ⟨((cell_far (p := ⟨gb272, _, none⟩) (by first | exact hfar0_ | (rw [add_block]; exact hfar0_) | (show (Addr.add _ _).block ≠ _; rw [add_block]; exact hfar0_) | (dsimp only; exact hfar0_)) _).trans (((cell_far (p := ⟨gb272, _, none⟩) (by first | exact hfar0_ | (rw [add_block]; exact hfar0_) | (show (Addr.add _ _).block ≠ _; rw [add_block]; exact hfar0_) | (dsimp only; exact hfar0_)) _).trans (((cell_far (p := ⟨gb272, _, none⟩) (by first | exact hfar0_ | (rw [add_block]; exact hfar0_) | (show (Addr.add _ _).block ≠ _; rw [add_block]; exact hfar0_) | (dsimp only; exact hfar0_)) _).trans (((cell_far (p := ⟨gb272, _, none⟩) (by first | exact hfar0_ | (rw [add_block]; exact hfar0_) | (show (Addr.add _ _).block ≠ _; rw [add_block]; exact hfar0_) | (dsimp only; exact hfar0_)) _).trans (hHeld.1)))))))), ((cell_far (p := ⟨gb272, _, none⟩) (by first | exact hfar0_ | (rw [add_block]; exact hfar0_) | (show (Addr.add _ _).block ≠ _; rw [add_block]; exact hfar0_) | (dsimp only; exact hfar0_)) _).trans (((cell_far (p := ⟨gb272, _, none⟩) (by first | exact hfar0_ | (rw [add_block]; exact hfar0_) | (show (Addr.add _ _).block ≠ _; rw [add_block]; exact hfar0_) | (dsimp only; exact hfar0_)) _).trans (((cell_far (p := ⟨gb272, _, none⟩) (by first | exact hfar0_ | (rw [add_block]; exact hfar0_) | (show (Addr.add _ _).block ≠ _; rw [add_block]; exact hfar0_) | (dsimp only; exact hfar0_)) _).trans (((cell_far (p := ⟨gb272, _, none⟩) (by first | exact hfar0_ | (rw [add_block]; exact hfar0_) | (show (Addr.add _ _).block ≠ _; rw [add_block]; exact hfar0_) | (dsimp only; exact hfar0_)) _).trans (hHeld.2.1)))))))), ((cell_far (p := ⟨gb272, _, none⟩) (by first | exact hfar0_ | (rw [add_block]; exact hfar0_) | (show (Addr.add _ _).block ≠ _; rw [add_block]; exact hfar0_) | (dsimp only; exact hfar0_)) _).trans (((cell_far (p := ⟨gb272, _, none⟩) (by first | exact hfar0_ | (rw [add_block]; exact hfar0_) | (show (Addr.add _ _).block ≠ _; rw [add_block]; exact hfar0_) | (dsimp only; exact hfar0_)) _).trans (((cell_far (p := ⟨gb272, _, none⟩) (by first | exact hfar0_ | (rw [add_block]; exact hfar0_) | (show (Addr.add _ _).block ≠ _; rw [add_block]; exact hfar0_) | (dsimp only; exact hfar0_)) _).trans (((cell_far (p := ⟨gb272, _, none⟩) (by first | exact hfar0_ | (rw [add_block]; exact hfar0_) | (show (Addr.add _ _).block ≠ _; rw [add_block]; exact hfar0_) | (dsimp only; exact hfar0_)) _).trans (hHeld.2.2))))))))⟩ (fun hHeld => ?_)
       clear hK K
       refine done_ (done_of HT_.out (by kernel_rfl)) ?_
       have hnb104 := NB272_259.out
       have hnc104 := NB259_272.out
       have hcz105_0 : w99.cell? ⟨gb272, 0, none⟩ = some (.int .i64 0) := (zc1 BK272.out 0).trans rfl
       have hcz105_1 : w99.cell? ⟨gb272, 1, none⟩ = some (.int .i64 0) := (zc1 BK272.out 1).trans rfl
       have hcz105_2 : w99.cell? ⟨gb272, 2, none⟩ = some (.int .i64 0) := (zc1 BK272.out 2).trans rfl
       have hcz105_3 : w99.cell? ⟨gb272, 3, none⟩ = some (.slice none 0 0) := (zc1 BK272.out 3).trans rfl
       have hfz105_0 := zc5 BK272.out 0
       have hfz105_1 := zc5 BK272.out 1
       have hfz105_2 := zc5 BK272.out 2
       have hfz105_3 := zc5 BK272.out 3
       try go_wp2_with (first | ((with_reducible refine gate_callee (f := 48) rfl ?_); refine goesL_ (some 40) rfl rfl Tryd.func48 (by kernel_rfl) rfl #[.agg #[.int .i64 (rd t264 0), .int .i64 (rd t264 1), .int .i64 (rd t264 2), .slice none 0 0]] rfl (by (try simp only [zm1, zm2, zm3]); first | done | rfl | (simp only [List.length_drop, List.length_take]; rfl) | (simp only [Int.emod_add_emod, Int.add_emod_emod]; rfl)) ?_; (refine (remoraref06_head.calls (rd t264 0) (rd t264 1) (rd t264 2) _ _ ([] : List (S44)) t273 _ ?side1 ?side2 A9.out).mono ?_); (case side1 => exact Kd.C_nil _ _); (case side2 => exact Nat.le_refl _); rintro e w106 ⟨rfl, hb⟩; refine ⟨_, rfl, ?_⟩; have n0_ := zA (Kd.R_below (by (with_reducible repeat (first | apply Kd.R_alloc | apply Kd.R_drewN | apply Kd.R_drew)); exact (Kd.R_mono (Kd.R_far (p := ⟨gb272, 3, none⟩) (Kd.R_far (p := ⟨gb272, 2, none⟩) (Kd.R_far (p := ⟨gb272, 1, none⟩) (Kd.R_far (p := ⟨gb272, 0, none⟩) (Kd.R_types HO263.out BK272.out (by decide)) (fun _ hk => hk.2) (.int .i64 (rd t264 0))) (fun _ hk => hk.2) (.int .i64 (rd t264 1))) (fun _ hk => hk.2) (.int .i64 (rd t264 2))) (fun _ hk => hk.2) (.slice none 0 0)) (fun _ h_ => h_.1))) hb); have n1_ := zA (Kd.R_below (by (with_reducible repeat (first | apply Kd.R_alloc | apply Kd.R_drewN | apply Kd.R_drew)); exact (Kd.R_mono (Kd.R_far (p := ⟨gb272, 3, none⟩) (Kd.R_far (p := ⟨gb272, 2, none⟩) (Kd.R_far (p := ⟨gb272, 1, none⟩) (Kd.R_far (p := ⟨gb272, 0, none⟩) (Kd.R_types HO268.out BK272.out (by decide)) (fun _ hk => hk.2) (.int .i64 (rd t264 0))) (fun _ hk => hk.2) (.int .i64 (rd t264 1))) (fun _ hk => hk.2) (.int .i64 (rd t264 2))) (fun _ hk => hk.2) (.slice none 0 0)) (fun _ h_ => h_.1))) hb); have n2_ := zA (zc6 (g := gb259) (o := .cells #[.int .i64 0, .int .i64 0, .int .i64 0, .slice none 0 0] 26 (0, 0)) (by (with_reducible repeat (first | refine zc3 ?_ _ | refine zc4 ?_ | refine zc2 ?_ _)); refine zc7 ?_ NB259_272.out _; (with_reducible repeat (first | refine zc3 ?_ _ | refine zc4 ?_ | refine zc2 ?_ _)); refine zc7 ?_ NB259_272.out _; (with_reducible repeat (first | refine zc3 ?_ _ | refine zc4 ?_ | refine zc2 ?_ _)); refine zc7 ?_ NB259_272.out _; (with_reducible repeat (first | refine zc3 ?_ _ | refine zc4 ?_ | refine zc2 ?_ _)); refine zc7 ?_ NB259_272.out _; (with_reducible repeat (first | refine zc3 ?_ _ | refine zc4 ?_ | refine zc2 ?_ _)); exact BK259.out) hb); have n3_ := zA (zc6 (g := gb272) (o := .cells #[.int .i64 (rd t264 0), .int .i64 (rd t264 1), .int .i64 (rd t264 2), .slice none 0 0] 26 (0, 0)) (by (with_reducible repeat (first | refine zc3 ?_ _ | refine zc4 ?_ | refine zc2 ?_ _)); refine blk_put (cs := #[.int .i64 (rd t264 0), .int .i64 (rd t264 1), .int .i64 (rd t264 2), .slice none 0 0]) ?_ 3 _ rfl; (with_reducible repeat (first | refine zc3 ?_ _ | refine zc4 ?_ | refine zc2 ?_ _)); refine blk_put (cs := #[.int .i64 (rd t264 0), .int .i64 (rd t264 1), .int .i64 0, .slice none 0 0]) ?_ 2 _ rfl; (with_reducible repeat (first | refine zc3 ?_ _ | refine zc4 ?_ | refine zc2 ?_ _)); refine blk_put (cs := #[.int .i64 (rd t264 0), .int .i64 0, .int .i64 0, .slice none 0 0]) ?_ 1 _ rfl; (with_reducible repeat (first | refine zc3 ?_ _ | refine zc4 ?_ | refine zc2 ?_ _)); refine blk_put (cs := #[.int .i64 0, .int .i64 0, .int .i64 0, .slice none 0 0]) ?_ 0 _ rfl; (with_reducible repeat (first | refine zc3 ?_ _ | refine zc4 ?_ | refine zc2 ?_ _)); exact BK272.out) hb); have n4_ := zA (zb5 (by repeat (first | (with_reducible first | exact HB.out | apply zb3 | apply zb1 | apply zb2 | refine zb4 ?_ GE259.out | refine zb4 ?_ GE272.out) | exact HB.out)) hb); clear HO263; clear HO268; clear BK259; clear BK272; clear HB; have HO263 := n0_; have HO268 := n1_; have BK259 := n2_; have BK272 := n3_; have HB := n4_; clear n0_ n1_ n2_ n3_ n4_; (try clear hb); (try clear hb2); (try clear hk); (try clear hi); have hcz107_0 : w106.cell? ⟨gb259, 0, none⟩ = some (.int .i64 0) := (zc1 BK259.out 0).trans rfl; have hcz107_1 : w106.cell? ⟨gb259, 1, none⟩ = some (.int .i64 0) := (zc1 BK259.out 1).trans rfl; have hcz107_2 : w106.cell? ⟨gb259, 2, none⟩ = some (.int .i64 0) := (zc1 BK259.out 2).trans rfl; have hcz107_3 : w106.cell? ⟨gb259, 3, none⟩ = some (.slice none 0 0) := (zc1 BK259.out 3).trans rfl; have hfz107_0 := zc5 BK259.out 0; have hfz107_1 := zc5 BK259.out 1; have hfz107_2 := zc5 BK259.out 2; have hfz107_3 := zc5 BK259.out 3))
       refine bodyPost_ret (results_ct rfl _ _ gb259 26 #[.int .i64 0, .int .i64 0, .int .i64 0, .slice none 0 0] (0, 0) _ rfl (by (with_reducible repeat (first | refine zc3 ?_ _ | refine zc4 ?_ | refine zc2 ?_ _)); refine blk_put (cs := #[.int .i64 0, .int .i64 0, .int .i64 0, .slice none 0 0]) ?_ 3 _ rfl; (with_reducible repeat (first | refine zc3 ?_ _ | refine zc4 ?_ | refine zc2 ?_ _)); refine blk_put (cs := #[.int .i64 0, .int .i64 0, .int .i64 0, .slice none 0 0]) ?_ 2 _ rfl; (with_reducible repeat (first | refine zc3 ?_ _ | refine zc4 ?_ | refine zc2 ?_ _)); refine blk_put (cs := #[.int .i64 0, .int .i64 0, .int .i64 0, .slice none 0 0]) ?_ 1 _ rfl; (with_reducible repeat (first | refine zc3 ?_ _ | refine zc4 ?_ | refine zc2 ?_ _)); refine blk_put (cs := #[.int .i64 0, .int .i64 0, .int .i64 0, .slice none 0 0]) ?_ 0 _ rfl; (with_reducible repeat (first | refine zc3 ?_ _ | refine zc4 ?_ | refine zc2 ?_ _)); exact BK259.out) Tryd.underlying26 rfl (by kernel_rfl)) rfl ?_
       exact ⟨_, by first | rfl | (simp [*] <;> rfl), by first | exact Kd.R_nil _ _ _ _ _ | exact Kd.N_nil _ _ _ _ _ | exact Kd.V_nil _ _ _ _ _ | exact Kd.Q_nil _ _ _ _ _ | exact Kd.S_nil _ _ _ _ _, by repeat (first | (with_reducible first | exact HB.out | apply zb3 | apply zb1 | apply zb2 | refine zb4 ?_ GE259.out | refine zb4 ?_ GE272.out) | exact HB.out)⟩
     ·rw [if_neg c8] at H
      exact absurd H (by simp)
    ·rw [if_neg c7] at H
     exact absurd H (by simp)
   ·rw [if_neg c6] at H
    exact absurd H (by simp)
  ·rw [if_neg c5] at H
   have c5b0 : (t266 == 0) = false := beq_eq_false_iff_ne.mpr c5
   have c5b1 : (t266 != 0) = true := bne_iff_ne.mpr c5
   simp only [Option.some.injEq, Prod.mk.injEq] at H
   obtain ⟨rfl, rfl, rfl, rfl, rfl⟩ := H
   go_enter Tryd.func28, Tryd.ntmps28
   go_wp2_with (first | ((with_reducible refine gate_dst (N := 2) rfl ?_); refine box_event ?hg (N := 2) ?hd (cs := #[.int .i64 0, .int .i64 0, .int .i64 0, .slice none 0 0]) (t := 26) ?hr ?_; (case hd => rfl); (case hg => rfl); (case hr => first | (go_simp; done) | (go_simp; rfl)); intro gb259 hg w108 hbox hb; have n0_ := zA (zb5 (by repeat (first | (with_reducible first | exact HB.out | apply zb3 | apply zb1 | apply zb2) | exact HB.out)) hb); have n1_ := zA (hbox); have n2_ := zA ((by rw [hg]; exact (zb6 (by repeat (first | (with_reducible first | exact HB.out | apply zb3 | apply zb1 | apply zb2) | exact HB.out))) : w.heap.size ≤ gb259)); have n3_ := zA ((by rw [hg]; exact (zb6 (by repeat (first | (with_reducible first | exact HB.out | apply zb3 | apply zb1 | apply zb2) | exact HB.out))) : w.heap.size ≤ gb259)); clear HB; have HB := n0_; have BK259 := n1_; have GW259 := n2_; have GE259 := n3_; clear n0_ n1_ n2_ n3_; clear hb hbox hg) | ((with_reducible refine gate_callee (f := 55) rfl ?_); refine goesL_ (some 12) rfl rfl Tryd.func55 (by kernel_rfl) rfl #[.slice A0 l0.length c0] rfl (by (try simp only [zm1, zm2, zm3]); first | done | rfl | (simp only [List.length_drop, List.length_take]; rfl) | (simp only [Int.emod_add_emod, Int.add_emod_emod]; rfl)) ?_; (with_reducible refine (remoraref02_Open.calls k _ _ l0 t260 t261 _ ?side1 ?side2 A2.out).mono ?_); (case side1 => repeat (first | exact (Kd.C_below HR0.out HB.out) | (with_reducible refine Kd.C_alloc ?_ _) | (with_reducible refine Kd.C_drewN ?_ _) | (with_reducible refine Kd.C_drew ?_))); (case side2 => exact HC0.out); rintro e w109 ⟨v262, rfl, ho0, hb⟩; refine ⟨_, rfl, ?_⟩; have n0_ := zA (Kd.R_lower ho0 (zb6 (by repeat (first | (with_reducible first | exact HB.out | apply zb3 | apply zb1 | apply zb2 | refine zb4 ?_ GE259.out) | exact HB.out)))); have n1_ := zA (zc6 (g := gb259) (o := .cells #[.int .i64 0, .int .i64 0, .int .i64 0, .slice none 0 0] 26 (0, 0)) (by (with_reducible repeat (first | refine zc3 ?_ _ | refine zc4 ?_ | refine zc2 ?_ _)); exact BK259.out) hb); have n2_ := zA (zb5 (by repeat (first | (with_reducible first | exact HB.out | apply zb3 | apply zb1 | apply zb2 | refine zb4 ?_ GE259.out) | exact HB.out)) hb); clear BK259; clear HB; have HO263 := n0_; have BK259 := n1_; have HB := n2_; clear n0_ n1_ n2_; (try clear hb); (try clear hb2); (try clear hk); (try clear hi); (try clear ho0); obtain ⟨Ao110, co110, eo110⟩ := Kd.R_slice HO263.out; subst eo110) | ((with_reducible refine gate_callee (f := 56) rfl ?_); refine goesL_ (some 21) rfl rfl Tryd.func56 (by kernel_rfl) rfl #[.slice Ao110 t260.length co110] rfl (by (try simp only [zm1, zm2, zm3]); first | done | rfl | (simp only [List.length_drop, List.length_take]; rfl) | (simp only [Int.emod_add_emod, Int.add_emod_emod]; rfl)) ?_; (with_reducible refine (remoraref06_three.calls k _ _ t260 t264 t265 t266 _ ?side1 ?side2 A4.out).mono ?_); (case side1 => repeat (first | exact (Kd.R_reads' HO263.out).2.2 | (with_reducible refine Kd.C_alloc ?_ _) | (with_reducible refine Kd.C_drewN ?_ _) | (with_reducible refine Kd.C_drew ?_))); (case side2 => exact (Kd.R_reads' HO263.out).2.1); rintro e w111 ⟨v267, rfl, ho0, hb⟩; refine ⟨_, rfl, ?_⟩; have n0_ := zA (Kd.R_below (by (with_reducible repeat (first | apply Kd.R_alloc | apply Kd.R_drewN | apply Kd.R_drew)); exact HO263.out) hb); have n1_ := zA (Kd.R_lower ho0 (zb6 (by repeat (first | (with_reducible first | exact HB.out | apply zb3 | apply zb1 | apply zb2 | refine zb4 ?_ GE259.out) | exact HB.out)))); have n2_ := zA (zc6 (g := gb259) (o := .cells #[.int .i64 0, .int .i64 0, .int .i64 0, .slice none 0 0] 26 (0, 0)) (by (with_reducible repeat (first | refine zc3 ?_ _ | refine zc4 ?_ | refine zc2 ?_ _)); exact BK259.out) hb); have n3_ := zA (zb5 (by repeat (first | (with_reducible first | exact HB.out | apply zb3 | apply zb1 | apply zb2 | refine zb4 ?_ GE259.out) | exact HB.out)) hb); clear HO263; clear BK259; clear HB; have HO263 := n0_; have HO268 := n1_; have BK259 := n2_; have HB := n3_; clear n0_ n1_ n2_ n3_; (try clear hb); (try clear hb2); (try clear hk); (try clear hi); (try clear ho0); have hcz112_0 : w111.cell? ⟨gb259, 0, none⟩ = some (.int .i64 0) := (zc1 BK259.out 0).trans rfl; have hcz112_1 : w111.cell? ⟨gb259, 1, none⟩ = some (.int .i64 0) := (zc1 BK259.out 1).trans rfl; have hcz112_2 : w111.cell? ⟨gb259, 2, none⟩ = some (.int .i64 0) := (zc1 BK259.out 2).trans rfl; have hcz112_3 : w111.cell? ⟨gb259, 3, none⟩ = some (.slice none 0 0) := (zc1 BK259.out 3).trans rfl; have hfz112_0 := zc5 BK259.out 0; have hfz112_1 := zc5 BK259.out 1; have hfz112_2 := zc5 BK259.out 2; have hfz112_3 := zc5 BK259.out 3))
   refine bodyPost_ret (results_ct rfl _ _ gb259 26 #[.int .i64 0, .int .i64 0, .int .i64 0, .slice none 0 0] (0, 0) _ rfl (by (with_reducible repeat (first | refine zc3 ?_ _ | refine zc4 ?_ | refine zc2 ?_ _)); refine blk_put (cs := #[.int .i64 0, .int .i64 0, .int .i64 0, .slice none 0 0]) ?_ 3 _ rfl; (with_reducible repeat (first | refine zc3 ?_ _ | refine zc4 ?_ | refine zc2 ?_ _)); refine blk_put (cs := #[.int .i64 0, .int .i64 0, .int .i64 0, .slice none 0 0]) ?_ 2 _ rfl; (with_reducible repeat (first | refine zc3 ?_ _ | refine zc4 ?_ | refine zc2 ?_ _)); refine blk_put (cs := #[.int .i64 0, .int .i64 0, .int .i64 0, .slice none 0 0]) ?_ 1 _ rfl; (with_reducible repeat (first | refine zc3 ?_ _ | refine zc4 ?_ | refine zc2 ?_ _)); refine blk_put (cs := #[.int .i64 0, .int .i64 0, .int .i64 0, .slice none 0 0]) ?_ 0 _ rfl; (with_reducible repeat (first | refine zc3 ?_ _ | refine zc4 ?_ | refine zc2 ?_ _)); exact BK259.out) Tryd.underlying26 rfl (by kernel_rfl)) rfl ?_
   exact ⟨_, by first | rfl | (simp [*] <;> rfl), by first | exact Kd.R_nil _ _ _ _ _ | exact Kd.N_nil _ _ _ _ _ | exact Kd.V_nil _ _ _ _ _ | exact Kd.Q_nil _ _ _ _ _ | exact Kd.S_nil _ _ _ _ _, by repeat (first | (with_reducible first | exact HB.out | apply zb3 | apply zb1 | apply zb2 | refine zb4 ?_ GE259.out) | exact HB.out)⟩
 ·rw [if_neg c3] at H
  have c3b0 : (t261 == 0) = false := beq_eq_false_iff_ne.mpr c3
  have c3b1 : (t261 != 0) = true := bne_iff_ne.mpr c3
  simp only [Option.some.injEq, Prod.mk.injEq] at H
  obtain ⟨rfl, rfl, rfl, rfl, rfl⟩ := H
  go_enter Tryd.func28, Tryd.ntmps28
  go_wp2_with (first | ((with_reducible refine gate_dst (N := 2) rfl ?_); refine box_event ?hg (N := 2) ?hd (cs := #[.int .i64 0, .int .i64 0, .int .i64 0, .slice none 0 0]) (t := 26) ?hr ?_; (case hd => rfl); (case hg => rfl); (case hr => first | (go_simp; done) | (go_simp; rfl)); intro gb259 hg w113 hbox hb; have n0_ := zA (zb5 (by repeat (first | (with_reducible first | exact HB.out | apply zb3 | apply zb1 | apply zb2) | exact HB.out)) hb); have n1_ := zA (hbox); have n2_ := zA ((by rw [hg]; exact (zb6 (by repeat (first | (with_reducible first | exact HB.out | apply zb3 | apply zb1 | apply zb2) | exact HB.out))) : w.heap.size ≤ gb259)); have n3_ := zA ((by rw [hg]; exact (zb6 (by repeat (first | (with_reducible first | exact HB.out | apply zb3 | apply zb1 | apply zb2) | exact HB.out))) : w.heap.size ≤ gb259)); clear HB; have HB := n0_; have BK259 := n1_; have GW259 := n2_; have GE259 := n3_; clear n0_ n1_ n2_ n3_; clear hb hbox hg) | ((with_reducible refine gate_callee (f := 55) rfl ?_); refine goesL_ (some 12) rfl rfl Tryd.func55 (by kernel_rfl) rfl #[.slice A0 l0.length c0] rfl (by (try simp only [zm1, zm2, zm3]); first | done | rfl | (simp only [List.length_drop, List.length_take]; rfl) | (simp only [Int.emod_add_emod, Int.add_emod_emod]; rfl)) ?_; (with_reducible refine (remoraref02_Open.calls k _ _ l0 t260 t261 _ ?side1 ?side2 A2.out).mono ?_); (case side1 => repeat (first | exact (Kd.C_below HR0.out HB.out) | (with_reducible refine Kd.C_alloc ?_ _) | (with_reducible refine Kd.C_drewN ?_ _) | (with_reducible refine Kd.C_drew ?_))); (case side2 => exact HC0.out); rintro e w114 ⟨v262, rfl, ho0, hb⟩; refine ⟨_, rfl, ?_⟩; have n0_ := zA (Kd.R_lower ho0 (zb6 (by repeat (first | (with_reducible first | exact HB.out | apply zb3 | apply zb1 | apply zb2 | refine zb4 ?_ GE259.out) | exact HB.out)))); have n1_ := zA (zc6 (g := gb259) (o := .cells #[.int .i64 0, .int .i64 0, .int .i64 0, .slice none 0 0] 26 (0, 0)) (by (with_reducible repeat (first | refine zc3 ?_ _ | refine zc4 ?_ | refine zc2 ?_ _)); exact BK259.out) hb); have n2_ := zA (zb5 (by repeat (first | (with_reducible first | exact HB.out | apply zb3 | apply zb1 | apply zb2 | refine zb4 ?_ GE259.out) | exact HB.out)) hb); clear BK259; clear HB; have HO263 := n0_; have BK259 := n1_; have HB := n2_; clear n0_ n1_ n2_; (try clear hb); (try clear hb2); (try clear hk); (try clear hi); (try clear ho0); have hcz115_0 : w114.cell? ⟨gb259, 0, none⟩ = some (.int .i64 0) := (zc1 BK259.out 0).trans rfl; have hcz115_1 : w114.cell? ⟨gb259, 1, none⟩ = some (.int .i64 0) := (zc1 BK259.out 1).trans rfl; have hcz115_2 : w114.cell? ⟨gb259, 2, none⟩ = some (.int .i64 0) := (zc1 BK259.out 2).trans rfl; have hcz115_3 : w114.cell? ⟨gb259, 3, none⟩ = some (.slice none 0 0) := (zc1 BK259.out 3).trans rfl; have hfz115_0 := zc5 BK259.out 0; have hfz115_1 := zc5 BK259.out 1; have hfz115_2 := zc5 BK259.out 2; have hfz115_3 := zc5 BK259.out 3))
  refine bodyPost_ret (results_ct rfl _ _ gb259 26 #[.int .i64 0, .int .i64 0, .int .i64 0, .slice none 0 0] (0, 0) _ rfl (by (with_reducible repeat (first | refine zc3 ?_ _ | refine zc4 ?_ | refine zc2 ?_ _)); refine blk_put (cs := #[.int .i64 0, .int .i64 0, .int .i64 0, .slice none 0 0]) ?_ 3 _ rfl; (with_reducible repeat (first | refine zc3 ?_ _ | refine zc4 ?_ | refine zc2 ?_ _)); refine blk_put (cs := #[.int .i64 0, .int .i64 0, .int .i64 0, .slice none 0 0]) ?_ 2 _ rfl; (with_reducible repeat (first | refine zc3 ?_ _ | refine zc4 ?_ | refine zc2 ?_ _)); refine blk_put (cs := #[.int .i64 0, .int .i64 0, .int .i64 0, .slice none 0 0]) ?_ 1 _ rfl; (with_reducible repeat (first | refine zc3 ?_ _ | refine zc4 ?_ | refine zc2 ?_ _)); refine blk_put (cs := #[.int .i64 0, .int .i64 0, .int .i64 0, .slice none 0 0]) ?_ 0 _ rfl; (with_reducible repeat (first | refine zc3 ?_ _ | refine zc4 ?_ | refine zc2 ?_ _)); exact BK259.out) Tryd.underlying26 rfl (by kernel_rfl)) rfl ?_
  exact ⟨_, by first | rfl | (simp [*] <;> rfl), by first | exact Kd.R_nil _ _ _ _ _ | exact Kd.N_nil _ _ _ _ _ | exact Kd.V_nil _ _ _ _ _ | exact Kd.Q_nil _ _ _ _ _ | exact Kd.S_nil _ _ _ _ _, by repeat (first | (with_reducible first | exact HB.out | apply zb3 | apply zb1 | apply zb2 | refine zb4 ?_ GE259.out) | exact HB.out)⟩

end Go.Proofs.YtjhgeppjpofjpaaDoor.PSigReads
