-- Written by a program of this session (the kit's printer with hand-written contracts among its functions).
import Derived.Test.YtpelnalhdpjabaaDoorPGearSamex0
import Derived.Test.YtpelnalhdpjabaaDoorPGearSamex1
import Derived.Test.YtpelnalhdpjabaaDoorPGearSamex2
namespace Go.Proofs.YtpelnalhdpjabaaDoor.PGearSame
open Go.RowKit Go.Proofs.YtpelnalhdpjabaaDoorW.PrintWords Go.Proofs.YtpelnalhdpjabaaDoorW.PrintLast Go.Proofs.YtpelnalhdpjabaaDoorW.PrintMore
attribute [local go_sem] max2_int min2_int max_two min_two max_three min_three max_four min_four   -- for this text's walks alone
set_option linter.unusedVariables false
set_option linter.unusedSimpArgs false

/-! ### remoralaw11_GearSame: function 5 -/
mutual
def remoralaw11_GearSame.j0 : Nat → List Int → Bool → List Int → List Int → Int → Int → Int → Option (Bool)
  | 0, _, _, _, _, _, _, _ => none
  | k + 1, x1, x39, x121000, x121001, x122000, x122001, x122002 => if x39 = true then ((remoralaw11_awake.f).bind fun t123 => (some t123)) else ((some (([] : List Int) : List Int)).bind fun y124 => (if y124.length + x121000.length < 140737488355328 then ((some (y124 ++ x121000 : List Int)).bind fun y127 => (if y127.length + x1.length < 140737488355328 then ((some (y127 ++ x1 : List Int)).bind fun y130 => ((some (([] : List Int) : List Int)).bind fun y133 => (if y133.length + x121001.length < 140737488355328 then ((some (y133 ++ x121001 : List Int)).bind fun y136 => (if y136.length + x1.length < 140737488355328 then ((remoralaw11_Of.f x122000 x122001 x122002).bind fun bt142 => ((gear_Cuts.f k y130 bt142.1 bt142.2.1 bt142.2.2).bind fun bt145 => ((remoralaw11_Of.f x122000 x122001 x122002).bind fun bt149 => ((gear_Cuts.f k (y136 ++ x1) bt149.1 bt149.2.1 bt149.2.2).bind fun bt152 => (if bt145.2 = 0 then (remoralaw11_GearSame.j1 k y130 bt145.1 bt152.1 (bt152.2 != 0) x121000 x121001 x122000 x122001 x122002) else (remoralaw11_GearSame.j1 k y130 bt145.1 bt152.1 true x121000 x121001 x122000 x122001 x122002)))))) else (none))) else (none)))) else (none))) else (none)))
def remoralaw11_GearSame.j1 : Nat → List Int → List Int → List Int → Bool → List Int → List Int → Int → Int → Int → Option (Bool)
  | 0, _, _, _, _, _, _, _, _, _ => none
  | k + 1, x7, x9, x11, x72, x121000, x121001, x122000, x122001, x122002 => if x72 = true then (some false) else (remoralaw11_GearSame.l0 k x7 x9 x11 0 x121000 x121001 x122000 x122001 x122002)
def remoralaw11_GearSame.l0 : Nat → List Int → List Int → List Int → Int → List Int → List Int → Int → Int → Int → Option (Bool)
  | 0, _, _, _, _, _, _, _, _, _ => none
  | k + 1, x7, x9, x11, x13, x121000, x121001, x122000, x122001, x122002 => if x13 < (x9.length : Int) then (if 0 ≤ x13 then (if (rd x9 x13) < 0 then (remoralaw11_GearSame.j3 k x7 x9 x11 x13 true x121000 x121001 x122000 x122001 x122002) else (remoralaw11_GearSame.j3 k x7 x9 x11 x13 (decide ((rd x9 x13) > (x7.length : Int))) x121000 x121001 x122000 x122001 x122002)) else (none)) else ((remoralaw11_place.f k x9 (x121000.length : Int)).bind fun t173 => ((remoralaw11_place.f k x11 (x121001.length : Int)).bind fun t174 => (if t173 < 0 then (remoralaw11_GearSame.j6 k x9 x11 t173 t174 true x121000 x121001) else (remoralaw11_GearSame.j6 k x9 x11 t173 t174 (decide (t174 < 0)) x121000 x121001))))
def remoralaw11_GearSame.j3 : Nat → List Int → List Int → List Int → Int → Bool → List Int → List Int → Int → Int → Int → Option (Bool)
  | 0, _, _, _, _, _, _, _, _, _, _ => none
  | k + 1, x7, x9, x11, x13, x92, x121000, x121001, x122000, x122001, x122002 => if x92 = true then (some false) else (if 0 ≤ x13 then (if x13 < (x9.length : Int) then (if 0 ≤ (rd x9 x13) then (if (rd x9 x13) ≤ (x7.length : Int) then ((remoralaw11_Of.f x122000 x122001 x122002).bind fun bt163 => ((gear_Cuts.f k (x7.drop ((rd x9 x13) : Int).toNat) bt163.1 bt163.2.1 bt163.2.2).bind fun bt166 => (if bt166.2 = 0 then (remoralaw11_GearSame.j4 k x7 x9 x11 x13 bt166.1 ((bt166.1.length : Int) != (wrap64 ((wrap64 ((x9.length : Int) - x13)) - 1))) x121000 x121001 x122000 x122001 x122002) else (remoralaw11_GearSame.j4 k x7 x9 x11 x13 bt166.1 true x121000 x121001 x122000 x122001 x122002)))) else (none)) else (none)) else (none)) else (none))
def remoralaw11_GearSame.j4 : Nat → List Int → List Int → List Int → Int → List Int → Bool → List Int → List Int → Int → Int → Int → Option (Bool)
  | 0, _, _, _, _, _, _, _, _, _, _, _ => none
  | k + 1, x7, x9, x11, x13, x14, x116, x121000, x121001, x122000, x122001, x122002 => if x116 = true then (some false) else (remoralaw11_GearSame.l1 k x7 x9 x11 x13 x14 0 x121000 x121001 x122000 x122001 x122002)
def remoralaw11_GearSame.l1 : Nat → List Int → List Int → List Int → Int → List Int → Int → List Int → List Int → Int → Int → Int → Option (Bool)
  | 0, _, _, _, _, _, _, _, _, _, _, _ => none
  | k + 1, x7, x9, x11, x13, x14, x16, x121000, x121001, x122000, x122001, x122002 => if x16 < (x14.length : Int) then (if 0 ≤ x16 then (if 0 ≤ x13 then (if x13 < (x9.length : Int) then (if 0 ≤ (wrap64 ((wrap64 (x13 + 1)) + x16)) then (if (wrap64 ((wrap64 (x13 + 1)) + x16)) < (x9.length : Int) then (if (wrap64 ((rd x14 x16) + (rd x9 x13))) = (rd x9 (wrap64 ((wrap64 (x13 + 1)) + x16))) then (remoralaw11_GearSame.l1 k x7 x9 x11 x13 x14 (wrap64 (x16 + 1)) x121000 x121001 x122000 x122001 x122002) else (some false)) else (none)) else (none)) else (none)) else (none)) else (none)) else (remoralaw11_GearSame.l0 k x7 x9 x11 (wrap64 (x13 + 1)) x121000 x121001 x122000 x122001 x122002)
def remoralaw11_GearSame.j6 : Nat → List Int → List Int → Int → Int → Bool → List Int → List Int → Option (Bool)
  | 0, _, _, _, _, _, _, _ => none
  | k + 1, x9, x11, x17, x18, x155, x121000, x121001 => if x155 = true then ((remoralaw11_awake.f).bind fun t175 => (some t175)) else (if (wrap64 ((x9.length : Int) - x17)) = (wrap64 ((x11.length : Int) - x18)) then (remoralaw11_GearSame.l2 k x9 x11 x17 x18 0 x121000 x121001) else (some false))
def remoralaw11_GearSame.l2 : Nat → List Int → List Int → Int → Int → Int → List Int → List Int → Option (Bool)
  | 0, _, _, _, _, _, _, _ => none
  | k + 1, x9, x11, x17, x18, x19, x121000, x121001 => if (wrap64 (x17 + x19)) < (x9.length : Int) then (if 0 ≤ (wrap64 (x17 + x19)) then (if 0 ≤ (wrap64 (x18 + x19)) then (if (wrap64 (x18 + x19)) < (x11.length : Int) then (if (wrap64 ((rd x9 (wrap64 (x17 + x19))) - (x121000.length : Int))) = (wrap64 ((rd x11 (wrap64 (x18 + x19))) - (x121001.length : Int))) then (remoralaw11_GearSame.l2 k x9 x11 x17 x18 (wrap64 (x19 + 1)) x121000 x121001) else (some false)) else (none)) else (none)) else (none)) else ((remoralaw11_awake.f).bind fun t178 => (some t178))
end
def remoralaw11_GearSame.f (k : Nat) (l0_0 : List Int) (l0_1 : List Int) (l1 : List Int) (a2_0 : Int) (a2_1 : Int) (a2_2 : Int) : Option (Bool) := if (l0_0.length : Int) > 1000 then (remoralaw11_GearSame.j0 k l1 true l0_0 l0_1 a2_0 a2_1 a2_2) else (if (l0_1.length : Int) > 1000 then (remoralaw11_GearSame.j0 k l1 true l0_0 l0_1 a2_0 a2_1 a2_2) else (if (l1.length : Int) > 1000 then (remoralaw11_GearSame.j0 k l1 true l0_0 l0_1 a2_0 a2_1 a2_2) else ((remoraref11_Check.f a2_0 a2_1 a2_2).bind fun t122 => (remoralaw11_GearSame.j0 k l1 (t122 != 0) l0_0 l0_1 a2_0 a2_1 a2_2))))
theorem remoralaw11_GearSame.mono_l : ∀ k, (∀ y0 y1 y2 y3 y4 y5 y6, LeO (remoralaw11_GearSame.j0 k y0 y1 y2 y3 y4 y5 y6) (remoralaw11_GearSame.j0 (k + 1) y0 y1 y2 y3 y4 y5 y6)) ∧ (∀ y0 y1 y2 y3 y4 y5 y6 y7 y8, LeO (remoralaw11_GearSame.j1 k y0 y1 y2 y3 y4 y5 y6 y7 y8) (remoralaw11_GearSame.j1 (k + 1) y0 y1 y2 y3 y4 y5 y6 y7 y8)) ∧ (∀ y0 y1 y2 y3 y4 y5 y6 y7 y8, LeO (remoralaw11_GearSame.l0 k y0 y1 y2 y3 y4 y5 y6 y7 y8) (remoralaw11_GearSame.l0 (k + 1) y0 y1 y2 y3 y4 y5 y6 y7 y8)) ∧ (∀ y0 y1 y2 y3 y4 y5 y6 y7 y8 y9, LeO (remoralaw11_GearSame.j3 k y0 y1 y2 y3 y4 y5 y6 y7 y8 y9) (remoralaw11_GearSame.j3 (k + 1) y0 y1 y2 y3 y4 y5 y6 y7 y8 y9)) ∧ (∀ y0 y1 y2 y3 y4 y5 y6 y7 y8 y9 y10, LeO (remoralaw11_GearSame.j4 k y0 y1 y2 y3 y4 y5 y6 y7 y8 y9 y10) (remoralaw11_GearSame.j4 (k + 1) y0 y1 y2 y3 y4 y5 y6 y7 y8 y9 y10)) ∧ (∀ y0 y1 y2 y3 y4 y5 y6 y7 y8 y9 y10, LeO (remoralaw11_GearSame.l1 k y0 y1 y2 y3 y4 y5 y6 y7 y8 y9 y10) (remoralaw11_GearSame.l1 (k + 1) y0 y1 y2 y3 y4 y5 y6 y7 y8 y9 y10)) ∧ (∀ y0 y1 y2 y3 y4 y5 y6, LeO (remoralaw11_GearSame.j6 k y0 y1 y2 y3 y4 y5 y6) (remoralaw11_GearSame.j6 (k + 1) y0 y1 y2 y3 y4 y5 y6)) ∧ (∀ y0 y1 y2 y3 y4 y5 y6, LeO (remoralaw11_GearSame.l2 k y0 y1 y2 y3 y4 y5 y6) (remoralaw11_GearSame.l2 (k + 1) y0 y1 y2 y3 y4 y5 y6))
  | 0 => ⟨fun _ _ _ _ _ _ _ r h => by simp [remoralaw11_GearSame.j0] at h, fun _ _ _ _ _ _ _ _ _ r h => by simp [remoralaw11_GearSame.j1] at h, fun _ _ _ _ _ _ _ _ _ r h => by simp [remoralaw11_GearSame.l0] at h, fun _ _ _ _ _ _ _ _ _ _ r h => by simp [remoralaw11_GearSame.j3] at h, fun _ _ _ _ _ _ _ _ _ _ _ r h => by simp [remoralaw11_GearSame.j4] at h, fun _ _ _ _ _ _ _ _ _ _ _ r h => by simp [remoralaw11_GearSame.l1] at h, fun _ _ _ _ _ _ _ r h => by simp [remoralaw11_GearSame.j6] at h, fun _ _ _ _ _ _ _ r h => by simp [remoralaw11_GearSame.l2] at h⟩
  | k + 1 => by
    obtain ⟨ih0, ih1, ih2, ih3, ih4, ih5, ih6, ih7⟩ := remoralaw11_GearSame.mono_l k
    refine ⟨?_, ?_, ?_, ?_, ?_, ?_, ?_, ?_⟩
    · intro y0 y1 y2 y3 y4 y5 y6
      unfold remoralaw11_GearSame.j0
      repeat' first
      | (with_reducible exact ih0 _ _ _ _ _ _ _)
      | (with_reducible exact ih1 _ _ _ _ _ _ _ _ _)
      | (with_reducible exact ih2 _ _ _ _ _ _ _ _ _)
      | (with_reducible exact ih3 _ _ _ _ _ _ _ _ _ _)
      | (with_reducible exact ih4 _ _ _ _ _ _ _ _ _ _ _)
      | (with_reducible exact ih5 _ _ _ _ _ _ _ _ _ _ _)
      | (with_reducible exact ih6 _ _ _ _ _ _ _)
      | (with_reducible exact ih7 _ _ _ _ _ _ _)
      | (with_reducible exact gear_Cuts.mono _ _ _ _ _)
      | (with_reducible exact remoralaw11_place.mono _ _ _)
      | (with_reducible exact LeO.refl _)
      | (with_reducible exact LeO.none _)
      | (with_reducible refine LeO.ite ?_ ?_)
      | (with_reducible refine LeO.bind ?_ (fun _ => ?_))
      | exact ih0 _ _ _ _ _ _ _
      | exact ih1 _ _ _ _ _ _ _ _ _
      | exact ih2 _ _ _ _ _ _ _ _ _
      | exact ih3 _ _ _ _ _ _ _ _ _ _
      | exact ih4 _ _ _ _ _ _ _ _ _ _ _
      | exact ih5 _ _ _ _ _ _ _ _ _ _ _
      | exact ih6 _ _ _ _ _ _ _
      | exact ih7 _ _ _ _ _ _ _
      | exact gear_Cuts.mono _ _ _ _ _
      | exact remoralaw11_place.mono _ _ _
      | exact LeO.none _
      | refine LeO.ite ?_ ?_
      | refine LeO.bind ?_ (fun _ => ?_)
    · intro y0 y1 y2 y3 y4 y5 y6 y7 y8
      unfold remoralaw11_GearSame.j1
      repeat' first
      | (with_reducible exact ih0 _ _ _ _ _ _ _)
      | (with_reducible exact ih1 _ _ _ _ _ _ _ _ _)
      | (with_reducible exact ih2 _ _ _ _ _ _ _ _ _)
      | (with_reducible exact ih3 _ _ _ _ _ _ _ _ _ _)
      | (with_reducible exact ih4 _ _ _ _ _ _ _ _ _ _ _)
      | (with_reducible exact ih5 _ _ _ _ _ _ _ _ _ _ _)
      | (with_reducible exact ih6 _ _ _ _ _ _ _)
      | (with_reducible exact ih7 _ _ _ _ _ _ _)
      | (with_reducible exact gear_Cuts.mono _ _ _ _ _)
      | (with_reducible exact remoralaw11_place.mono _ _ _)
      | (with_reducible exact LeO.refl _)
      | (with_reducible exact LeO.none _)
      | (with_reducible refine LeO.ite ?_ ?_)
      | (with_reducible refine LeO.bind ?_ (fun _ => ?_))
      | exact ih0 _ _ _ _ _ _ _
      | exact ih1 _ _ _ _ _ _ _ _ _
      | exact ih2 _ _ _ _ _ _ _ _ _
      | exact ih3 _ _ _ _ _ _ _ _ _ _
      | exact ih4 _ _ _ _ _ _ _ _ _ _ _
      | exact ih5 _ _ _ _ _ _ _ _ _ _ _
      | exact ih6 _ _ _ _ _ _ _
      | exact ih7 _ _ _ _ _ _ _
      | exact gear_Cuts.mono _ _ _ _ _
      | exact remoralaw11_place.mono _ _ _
      | exact LeO.none _
      | refine LeO.ite ?_ ?_
      | refine LeO.bind ?_ (fun _ => ?_)
    · intro y0 y1 y2 y3 y4 y5 y6 y7 y8
      unfold remoralaw11_GearSame.l0
      repeat' first
      | (with_reducible exact ih0 _ _ _ _ _ _ _)
      | (with_reducible exact ih1 _ _ _ _ _ _ _ _ _)
      | (with_reducible exact ih2 _ _ _ _ _ _ _ _ _)
      | (with_reducible exact ih3 _ _ _ _ _ _ _ _ _ _)
      | (with_reducible exact ih4 _ _ _ _ _ _ _ _ _ _ _)
      | (with_reducible exact ih5 _ _ _ _ _ _ _ _ _ _ _)
      | (with_reducible exact ih6 _ _ _ _ _ _ _)
      | (with_reducible exact ih7 _ _ _ _ _ _ _)
      | (with_reducible exact gear_Cuts.mono _ _ _ _ _)
      | (with_reducible exact remoralaw11_place.mono _ _ _)
      | (with_reducible exact LeO.refl _)
      | (with_reducible exact LeO.none _)
      | (with_reducible refine LeO.ite ?_ ?_)
      | (with_reducible refine LeO.bind ?_ (fun _ => ?_))
      | exact ih0 _ _ _ _ _ _ _
      | exact ih1 _ _ _ _ _ _ _ _ _
      | exact ih2 _ _ _ _ _ _ _ _ _
      | exact ih3 _ _ _ _ _ _ _ _ _ _
      | exact ih4 _ _ _ _ _ _ _ _ _ _ _
      | exact ih5 _ _ _ _ _ _ _ _ _ _ _
      | exact ih6 _ _ _ _ _ _ _
      | exact ih7 _ _ _ _ _ _ _
      | exact gear_Cuts.mono _ _ _ _ _
      | exact remoralaw11_place.mono _ _ _
      | exact LeO.none _
      | refine LeO.ite ?_ ?_
      | refine LeO.bind ?_ (fun _ => ?_)
    · intro y0 y1 y2 y3 y4 y5 y6 y7 y8 y9
      unfold remoralaw11_GearSame.j3
      repeat' first
      | (with_reducible exact ih0 _ _ _ _ _ _ _)
      | (with_reducible exact ih1 _ _ _ _ _ _ _ _ _)
      | (with_reducible exact ih2 _ _ _ _ _ _ _ _ _)
      | (with_reducible exact ih3 _ _ _ _ _ _ _ _ _ _)
      | (with_reducible exact ih4 _ _ _ _ _ _ _ _ _ _ _)
      | (with_reducible exact ih5 _ _ _ _ _ _ _ _ _ _ _)
      | (with_reducible exact ih6 _ _ _ _ _ _ _)
      | (with_reducible exact ih7 _ _ _ _ _ _ _)
      | (with_reducible exact gear_Cuts.mono _ _ _ _ _)
      | (with_reducible exact remoralaw11_place.mono _ _ _)
      | (with_reducible exact LeO.refl _)
      | (with_reducible exact LeO.none _)
      | (with_reducible refine LeO.ite ?_ ?_)
      | (with_reducible refine LeO.bind ?_ (fun _ => ?_))
      | exact ih0 _ _ _ _ _ _ _
      | exact ih1 _ _ _ _ _ _ _ _ _
      | exact ih2 _ _ _ _ _ _ _ _ _
      | exact ih3 _ _ _ _ _ _ _ _ _ _
      | exact ih4 _ _ _ _ _ _ _ _ _ _ _
      | exact ih5 _ _ _ _ _ _ _ _ _ _ _
      | exact ih6 _ _ _ _ _ _ _
      | exact ih7 _ _ _ _ _ _ _
      | exact gear_Cuts.mono _ _ _ _ _
      | exact remoralaw11_place.mono _ _ _
      | exact LeO.none _
      | refine LeO.ite ?_ ?_
      | refine LeO.bind ?_ (fun _ => ?_)
    · intro y0 y1 y2 y3 y4 y5 y6 y7 y8 y9 y10
      unfold remoralaw11_GearSame.j4
      repeat' first
      | (with_reducible exact ih0 _ _ _ _ _ _ _)
      | (with_reducible exact ih1 _ _ _ _ _ _ _ _ _)
      | (with_reducible exact ih2 _ _ _ _ _ _ _ _ _)
      | (with_reducible exact ih3 _ _ _ _ _ _ _ _ _ _)
      | (with_reducible exact ih4 _ _ _ _ _ _ _ _ _ _ _)
      | (with_reducible exact ih5 _ _ _ _ _ _ _ _ _ _ _)
      | (with_reducible exact ih6 _ _ _ _ _ _ _)
      | (with_reducible exact ih7 _ _ _ _ _ _ _)
      | (with_reducible exact gear_Cuts.mono _ _ _ _ _)
      | (with_reducible exact remoralaw11_place.mono _ _ _)
      | (with_reducible exact LeO.refl _)
      | (with_reducible exact LeO.none _)
      | (with_reducible refine LeO.ite ?_ ?_)
      | (with_reducible refine LeO.bind ?_ (fun _ => ?_))
      | exact ih0 _ _ _ _ _ _ _
      | exact ih1 _ _ _ _ _ _ _ _ _
      | exact ih2 _ _ _ _ _ _ _ _ _
      | exact ih3 _ _ _ _ _ _ _ _ _ _
      | exact ih4 _ _ _ _ _ _ _ _ _ _ _
      | exact ih5 _ _ _ _ _ _ _ _ _ _ _
      | exact ih6 _ _ _ _ _ _ _
      | exact ih7 _ _ _ _ _ _ _
      | exact gear_Cuts.mono _ _ _ _ _
      | exact remoralaw11_place.mono _ _ _
      | exact LeO.none _
      | refine LeO.ite ?_ ?_
      | refine LeO.bind ?_ (fun _ => ?_)
    · intro y0 y1 y2 y3 y4 y5 y6 y7 y8 y9 y10
      unfold remoralaw11_GearSame.l1
      repeat' first
      | (with_reducible exact ih0 _ _ _ _ _ _ _)
      | (with_reducible exact ih1 _ _ _ _ _ _ _ _ _)
      | (with_reducible exact ih2 _ _ _ _ _ _ _ _ _)
      | (with_reducible exact ih3 _ _ _ _ _ _ _ _ _ _)
      | (with_reducible exact ih4 _ _ _ _ _ _ _ _ _ _ _)
      | (with_reducible exact ih5 _ _ _ _ _ _ _ _ _ _ _)
      | (with_reducible exact ih6 _ _ _ _ _ _ _)
      | (with_reducible exact ih7 _ _ _ _ _ _ _)
      | (with_reducible exact gear_Cuts.mono _ _ _ _ _)
      | (with_reducible exact remoralaw11_place.mono _ _ _)
      | (with_reducible exact LeO.refl _)
      | (with_reducible exact LeO.none _)
      | (with_reducible refine LeO.ite ?_ ?_)
      | (with_reducible refine LeO.bind ?_ (fun _ => ?_))
      | exact ih0 _ _ _ _ _ _ _
      | exact ih1 _ _ _ _ _ _ _ _ _
      | exact ih2 _ _ _ _ _ _ _ _ _
      | exact ih3 _ _ _ _ _ _ _ _ _ _
      | exact ih4 _ _ _ _ _ _ _ _ _ _ _
      | exact ih5 _ _ _ _ _ _ _ _ _ _ _
      | exact ih6 _ _ _ _ _ _ _
      | exact ih7 _ _ _ _ _ _ _
      | exact gear_Cuts.mono _ _ _ _ _
      | exact remoralaw11_place.mono _ _ _
      | exact LeO.none _
      | refine LeO.ite ?_ ?_
      | refine LeO.bind ?_ (fun _ => ?_)
    · intro y0 y1 y2 y3 y4 y5 y6
      unfold remoralaw11_GearSame.j6
      repeat' first
      | (with_reducible exact ih0 _ _ _ _ _ _ _)
      | (with_reducible exact ih1 _ _ _ _ _ _ _ _ _)
      | (with_reducible exact ih2 _ _ _ _ _ _ _ _ _)
      | (with_reducible exact ih3 _ _ _ _ _ _ _ _ _ _)
      | (with_reducible exact ih4 _ _ _ _ _ _ _ _ _ _ _)
      | (with_reducible exact ih5 _ _ _ _ _ _ _ _ _ _ _)
      | (with_reducible exact ih6 _ _ _ _ _ _ _)
      | (with_reducible exact ih7 _ _ _ _ _ _ _)
      | (with_reducible exact gear_Cuts.mono _ _ _ _ _)
      | (with_reducible exact remoralaw11_place.mono _ _ _)
      | (with_reducible exact LeO.refl _)
      | (with_reducible exact LeO.none _)
      | (with_reducible refine LeO.ite ?_ ?_)
      | (with_reducible refine LeO.bind ?_ (fun _ => ?_))
      | exact ih0 _ _ _ _ _ _ _
      | exact ih1 _ _ _ _ _ _ _ _ _
      | exact ih2 _ _ _ _ _ _ _ _ _
      | exact ih3 _ _ _ _ _ _ _ _ _ _
      | exact ih4 _ _ _ _ _ _ _ _ _ _ _
      | exact ih5 _ _ _ _ _ _ _ _ _ _ _
      | exact ih6 _ _ _ _ _ _ _
      | exact ih7 _ _ _ _ _ _ _
      | exact gear_Cuts.mono _ _ _ _ _
      | exact remoralaw11_place.mono _ _ _
      | exact LeO.none _
      | refine LeO.ite ?_ ?_
      | refine LeO.bind ?_ (fun _ => ?_)
    · intro y0 y1 y2 y3 y4 y5 y6
      unfold remoralaw11_GearSame.l2
      repeat' first
      | (with_reducible exact ih0 _ _ _ _ _ _ _)
      | (with_reducible exact ih1 _ _ _ _ _ _ _ _ _)
      | (with_reducible exact ih2 _ _ _ _ _ _ _ _ _)
      | (with_reducible exact ih3 _ _ _ _ _ _ _ _ _ _)
      | (with_reducible exact ih4 _ _ _ _ _ _ _ _ _ _ _)
      | (with_reducible exact ih5 _ _ _ _ _ _ _ _ _ _ _)
      | (with_reducible exact ih6 _ _ _ _ _ _ _)
      | (with_reducible exact ih7 _ _ _ _ _ _ _)
      | (with_reducible exact gear_Cuts.mono _ _ _ _ _)
      | (with_reducible exact remoralaw11_place.mono _ _ _)
      | (with_reducible exact LeO.refl _)
      | (with_reducible exact LeO.none _)
      | (with_reducible refine LeO.ite ?_ ?_)
      | (with_reducible refine LeO.bind ?_ (fun _ => ?_))
      | exact ih0 _ _ _ _ _ _ _
      | exact ih1 _ _ _ _ _ _ _ _ _
      | exact ih2 _ _ _ _ _ _ _ _ _
      | exact ih3 _ _ _ _ _ _ _ _ _ _
      | exact ih4 _ _ _ _ _ _ _ _ _ _ _
      | exact ih5 _ _ _ _ _ _ _ _ _ _ _
      | exact ih6 _ _ _ _ _ _ _
      | exact ih7 _ _ _ _ _ _ _
      | exact gear_Cuts.mono _ _ _ _ _
      | exact remoralaw11_place.mono _ _ _
      | exact LeO.none _
      | refine LeO.ite ?_ ?_
      | refine LeO.bind ?_ (fun _ => ?_)
theorem remoralaw11_GearSame.mono : ∀ a0 a1 a2 a3 a4 a5 k, LeO (remoralaw11_GearSame.f k a0 a1 a2 a3 a4 a5) (remoralaw11_GearSame.f (k + 1) a0 a1 a2 a3 a4 a5) := by
  intro a0 a1 a2 a3 a4 a5 k
  obtain ⟨ih0, ih1, ih2, ih3, ih4, ih5, ih6, ih7⟩ := remoralaw11_GearSame.mono_l k
  unfold remoralaw11_GearSame.f
  repeat' first
      | (with_reducible exact ih0 _ _ _ _ _ _ _)
      | (with_reducible exact ih1 _ _ _ _ _ _ _ _ _)
      | (with_reducible exact ih2 _ _ _ _ _ _ _ _ _)
      | (with_reducible exact ih3 _ _ _ _ _ _ _ _ _ _)
      | (with_reducible exact ih4 _ _ _ _ _ _ _ _ _ _ _)
      | (with_reducible exact ih5 _ _ _ _ _ _ _ _ _ _ _)
      | (with_reducible exact ih6 _ _ _ _ _ _ _)
      | (with_reducible exact ih7 _ _ _ _ _ _ _)
      | (with_reducible exact gear_Cuts.mono _ _ _ _ _)
      | (with_reducible exact remoralaw11_place.mono _ _ _)
      | (with_reducible exact LeO.refl _)
      | (with_reducible exact LeO.none _)
      | (with_reducible refine LeO.ite ?_ ?_)
      | (with_reducible refine LeO.bind ?_ (fun _ => ?_))
      | exact ih0 _ _ _ _ _ _ _
      | exact ih1 _ _ _ _ _ _ _ _ _
      | exact ih2 _ _ _ _ _ _ _ _ _
      | exact ih3 _ _ _ _ _ _ _ _ _ _
      | exact ih4 _ _ _ _ _ _ _ _ _ _ _
      | exact ih5 _ _ _ _ _ _ _ _ _ _ _
      | exact ih6 _ _ _ _ _ _ _
      | exact ih7 _ _ _ _ _ _ _
      | exact gear_Cuts.mono _ _ _ _ _
      | exact remoralaw11_place.mono _ _ _
      | exact LeO.none _
      | refine LeO.ite ?_ ?_
      | refine LeO.bind ?_ (fun _ => ?_)
def remoralaw11_GearSame.T14 : Bool × List (List Nat × List Nat) := (true, [([], []), ([], []), ([], []), ([1, 2], [1, 2]), ([3], [3]), ([0, 4], [0, 4]), ([], []), ([6], [6]), ([5, 7, 7], [5, 7]), ([8], [8]), ([9], [9]), ([9], [9]), ([10, 8, 0, 1, 2, 3, 4, 5, 6, 7, 8, 9, 10], [10]), ([11, 12, 0, 1, 2, 3, 4, 5, 6, 7, 8, 9, 10, 11, 12], [11])])
def remoralaw11_GearSame.B14 : List Nat := [0, 0, 0, 6, 14, 31, 0, 64, 255, 511, 1023, 1023, 2047, 8191]
theorem remoralaw11_GearSame.tab14 : rtab .any (opsOf Tryd.f5 14) = remoralaw11_GearSame.T14 := by kernel_rfl
theorem remoralaw11_GearSame.bits14 : waitsOk remoralaw11_GearSame.T14.2 remoralaw11_GearSame.B14 = true := by kernel_rfl
def remoralaw11_GearSame.T20 : Bool × List (List Nat × List Nat) := (true, [([], []), ([], []), ([0, 1], [0, 1]), ([2], [2]), ([], []), ([], []), ([4, 5], [4, 5]), ([6], [6]), ([3, 7], [3, 7]), ([], []), ([], []), ([10], [10]), ([], []), ([11, 12], [11, 12]), ([9, 13], [9, 13]), ([14], [14]), ([8, 15], [8, 15])])
def remoralaw11_GearSame.B20 : List Nat := [0, 0, 3, 7, 0, 0, 48, 112, 255, 0, 0, 1024, 0, 7168, 15872, 32256, 65535]
theorem remoralaw11_GearSame.tab20 : rtab .any (opsOf Tryd.f5 20) = remoralaw11_GearSame.T20 := by kernel_rfl
theorem remoralaw11_GearSame.bits20 : waitsOk remoralaw11_GearSame.T20.2 remoralaw11_GearSame.B20 = true := by kernel_rfl
def remoralaw11_GearSame.T22 : Bool × List (List Nat × List Nat) := (true, [([], []), ([], []), ([1], [1]), ([2], [2]), ([0, 3], [0, 3]), ([], []), ([], []), ([6], [6]), ([7], [7]), ([5, 8, 4], [5, 8]), ([4, 9, 0, 1, 2, 3, 4], [4]), ([9, 10, 0, 1, 2, 3, 4, 5, 6, 7, 8, 9, 10], [9])])
def remoralaw11_GearSame.B22 : List Nat := [0, 0, 2, 6, 15, 0, 0, 64, 192, 511, 1023, 2047]
theorem remoralaw11_GearSame.tab22 : rtab .any (opsOf Tryd.f5 22) = remoralaw11_GearSame.T22 := by kernel_rfl
theorem remoralaw11_GearSame.bits22 : waitsOk remoralaw11_GearSame.T22.2 remoralaw11_GearSame.B22 = true := by kernel_rfl
def remoralaw11_GearSame.T30 : Bool × List (List Nat × List Nat) := (true, [([], []), ([], []), ([], []), ([1, 2], [1, 2]), ([0, 3], [0, 3]), ([4], [4]), ([], []), ([6], [6]), ([7], [7]), ([5, 8], [5, 8]), ([], []), ([], []), ([], []), ([11, 12], [11, 12]), ([10, 13], [10, 13]), ([14], [14]), ([], []), ([16], [16]), ([17], [17]), ([15, 18], [15, 18]), ([9, 19], [9, 19])])
def remoralaw11_GearSame.B30 : List Nat := [0, 0, 0, 6, 15, 31, 0, 64, 192, 511, 0, 0, 0, 6144, 15360, 31744, 0, 65536, 196608, 523264, 1048575]
theorem remoralaw11_GearSame.tab30 : rtab .any (opsOf Tryd.f5 30) = remoralaw11_GearSame.T30 := by kernel_rfl
theorem remoralaw11_GearSame.bits30 : waitsOk remoralaw11_GearSame.T30.2 remoralaw11_GearSame.B30 = true := by kernel_rfl
set_option maxHeartbeats 8000000 in
set_option maxRecDepth 100000 in
theorem remoralaw11_GearSame.calls (k : Nat) (A0_0 : Option Addr) (c0_0 : Nat) (l0_0 : List Int) (A0_1 : Option Addr) (c0_1 : Nat) (l0_1 : List Int) (A1 : Option Addr) (c1 : Nat) (l1 : List Int) (a2_0 : Int) (a2_1 : Int) (a2_2 : Int) (r : Bool) (w : World) (hr0_0 : Kd.C (Kd.int .u8) w A0_0 l0_0.length l0_0) (hc0_0 : l0_0.length ≤ c0_0) (hr0_1 : Kd.C (Kd.int .u8) w A0_1 l0_1.length l0_1) (hc0_1 : l0_1.length ≤ c0_1) (hr1 : Kd.C (Kd.int .u8) w A1 l1.length l1) (hc1 : l1.length ≤ c1) (h : remoralaw11_GearSame.f k l0_0 l0_1 l1 a2_0 a2_1 a2_2 = some r) (hG : GL w) :
    Calls Tryd.prog 5 #[.agg #[.slice A0_0 l0_0.length c0_0, .slice A0_1 l0_1.length c0_1], .slice A1 l1.length c1, .agg #[.int .i64 a2_0, .int .i64 a2_1, .int .i64 a2_2]] w fun e w' => e = .returned (.bool r) ∧ Below w.heap.size w w' := by
  have hu37 := Tryd.underlying37
  have hu23 := Tryd.underlying23
  have HR0_0 := Aside0.mk hr0_0
  have HC0_0 := Aside0.mk hc0_0
  clear hr0_0 hc0_0
  have HR0_1 := Aside0.mk hr0_1
  have HC0_1 := Aside0.mk hc0_1
  clear hr0_1 hc0_1
  have HR1 := Aside0.mk hr1
  have HC1 := Aside0.mk hc1
  clear hr1 hc1
  have HB := Aside0.mk (Below.refl w.heap.size w)
  have H : (if (l0_0.length : Int) > 1000 then (remoralaw11_GearSame.j0 k l1 true l0_0 l0_1 a2_0 a2_1 a2_2) else (if (l0_1.length : Int) > 1000 then (remoralaw11_GearSame.j0 k l1 true l0_0 l0_1 a2_0 a2_1 a2_2) else (if (l1.length : Int) > 1000 then (remoralaw11_GearSame.j0 k l1 true l0_0 l0_1 a2_0 a2_1 a2_2) else ((remoraref11_Check.f a2_0 a2_1 a2_2).bind fun t122 => (remoralaw11_GearSame.j0 k l1 (t122 != 0) l0_0 l0_1 a2_0 a2_1 a2_2))))) = some r := h
  clear h
  have HC4 := Aside0.mk H
  clear H
  go_enter Tryd.func5, Tryd.ntmps5
  go_upto_region 1 with (first | ((with_reducible refine gate_dst (N := 3) rfl ?_); (try (refine gate_guard (by rfl) ?_; dsimp only)); refine box_event ?hg (N := 3) ?hd (cs := #[.slice A0_0 l0_0.length c0_0, .slice A0_1 l0_1.length c0_1]) (t := 37) ?hr ?_; (case hd => rfl); (case hg => rfl); (case hr => first | (go_simp; done) | (go_simp; rfl)); intro gb120 hg w5 hbox hb; have n0_ := Aside0.mk (below_step (by repeat (first | (with_reducible first | exact HB.out | apply below_alloc | apply pw_below_drewN | apply below_drew1) | exact HB.out)) hb); have n1_ := Aside0.mk (hbox); have n2_ := Aside0.mk ((by rw [hg]; exact (below_size (by repeat (first | (with_reducible first | exact HB.out | apply below_alloc | apply pw_below_drewN | apply below_drew1) | exact HB.out))) : w.heap.size ≤ gb120)); have n3_ := Aside0.mk ((by rw [hg]; exact (below_size (by repeat (first | (with_reducible first | exact HB.out | apply below_alloc | apply pw_below_drewN | apply below_drew1) | exact HB.out))) : w.heap.size ≤ gb120)); clear HB; have HB := n0_; have BK120 := n1_; have GW120 := n2_; have GE120 := n3_; clear n0_ n1_ n2_ n3_; clear hb hbox hg) | ((with_reducible refine gate_dst (N := 5) rfl ?_); (try (refine gate_guard (by rfl) ?_; dsimp only)); refine box_event ?hg (N := 5) ?hd (cs := #[.int .i64 a2_0, .int .i64 a2_1, .int .i64 a2_2]) (t := 23) ?hr ?_; (case hd => rfl); (case hg => rfl); (case hr => first | (go_simp; done) | (go_simp; rfl)); intro gb121 hg w6 hbox hb; have n0_ := Aside0.mk (blk_below (g := gb120) (o := .cells #[.slice A0_0 l0_0.length c0_0, .slice A0_1 l0_1.length c0_1] 37 (0, 0)) (by (with_reducible repeat (first | refine blk_drewN ?_ _ | refine blk_drew ?_ | refine blk_alloc ?_ _)); exact BK120.out) hb); have n1_ := Aside0.mk (below_step (by repeat (first | (with_reducible first | exact HB.out | apply below_alloc | apply pw_below_drewN | apply below_drew1 | refine below_set ?_ GE120.out) | exact HB.out)) hb); have n2_ := Aside0.mk (hbox); have n3_ := Aside0.mk ((by rw [hg]; exact (below_size (by repeat (first | (with_reducible first | exact HB.out | apply below_alloc | apply pw_below_drewN | apply below_drew1 | refine below_set ?_ GE120.out) | exact HB.out))) : w.heap.size ≤ gb121)); have n4_ := Aside0.mk ((by rw [hg]; exact (below_size (by repeat (first | (with_reducible first | exact HB.out | apply below_alloc | apply pw_below_drewN | apply below_drew1 | refine below_set ?_ GE120.out) | exact HB.out))) : w.heap.size ≤ gb121)); have n5_ := Aside0.mk ((by rw [hg]; exact Nat.ne_of_lt (blk_lt (g := gb120) (o := .cells #[.slice A0_0 l0_0.length c0_0, .slice A0_1 l0_1.length c0_1] 37 (0, 0)) (by (with_reducible repeat (first | refine blk_drewN ?_ _ | refine blk_drew ?_ | refine blk_alloc ?_ _)); exact BK120.out)) : gb120 ≠ gb121)); have n6_ := Aside0.mk ((by rw [hg]; exact Nat.ne_of_gt (blk_lt (g := gb120) (o := .cells #[.slice A0_0 l0_0.length c0_0, .slice A0_1 l0_1.length c0_1] 37 (0, 0)) (by (with_reducible repeat (first | refine blk_drewN ?_ _ | refine blk_drew ?_ | refine blk_alloc ?_ _)); exact BK120.out)) : gb121 ≠ gb120)); clear BK120; clear HB; have BK120 := n0_; have HB := n1_; have BK121 := n2_; have GW121 := n3_; have GE121 := n4_; have NB120_121 := n5_; have NB121_120 := n6_; clear n0_ n1_ n2_ n3_ n4_ n5_ n6_; clear hb hbox hg))
  (try simp only [Act.put, List.setIfInBounds_toArray, List.set_cons_zero, List.set_cons_succ])
  go_cut [39] (fun v39 wc => ∃ (kq : Nat) (x39_3 : Bool), v39 = .bool x39_3 ∧ Aside0 (remoralaw11_GearSame.j0 kq l1 x39_3 l0_0 l0_1 a2_0 a2_1 a2_2 = some r) ∧ Aside0 (kq ≤ k) ∧ Aside0 (wc.heap[gb120]? = some (.cells #[(.slice A0_0 l0_0.length c0_0), (.slice A0_1 l0_1.length c0_1)] 37 (0, 0))) ∧ Aside0 (wc.heap[gb121]? = some (.cells #[.int .i64 a2_0, .int .i64 a2_1, .int .i64 a2_2] 23 (0, 0))) ∧ Aside0 (Below w.heap.size w wc))
  case first =>
    have H := HC4.out
    clear HC4
    by_cases c7 : (l0_0.length : Int) > 1000
    · rw [if_pos c7] at H
      have c7b0 : decide (1000 < (l0_0.length : Int)) = true := decide_eq_true c7
      have c7b1 : decide (1000 < l0_0.length) = true := decide_eq_true (by omega)
      clear c7
      (first | rw [c7b0] | (simp only [i64_w, i32_w]; rw [c7b0]) | skip)
      have H' := Aside0.mk H
      clear H
      have hnb8 := NB120_121.out
      have hnc8 := NB121_120.out
      have hcz9_0 : w6.cell? ⟨gb120, 0, none⟩ = some (.slice A0_0 l0_0.length c0_0) := (blk_cell BK120.out 0).trans rfl
      have hcz9_1 : w6.cell? ⟨gb120, 1, none⟩ = some (.slice A0_1 l0_1.length c0_1) := (blk_cell BK120.out 1).trans rfl
      have hfz9_0 := blk_frozen BK120.out 0
      have hfz9_1 := blk_frozen BK120.out 1
      go_wp2
      go_meet
      case rel => exact ⟨_, (true), (by first | rfl | (simp; done) | (simp [*]; done)), H', ⟨by first | omega | exact Nat.le_refl _⟩, ⟨by (with_reducible repeat (first | refine blk_drewN ?_ _ | refine blk_drew ?_ | refine blk_alloc ?_ _)); exact BK120.out⟩, ⟨by (with_reducible repeat (first | refine blk_drewN ?_ _ | refine blk_drew ?_ | refine blk_alloc ?_ _)); exact BK121.out⟩, ⟨by repeat (first | (with_reducible first | exact HB.out | apply below_alloc | apply pw_below_drewN | apply below_drew1 | refine below_set ?_ GE120.out | refine below_set ?_ GE121.out) | exact HB.out)⟩⟩
    · rw [if_neg c7] at H
      have c7b0 : decide (1000 < (l0_0.length : Int)) = false := decide_eq_false c7
      have c7b1 : decide (1000 < l0_0.length) = false := decide_eq_false (by omega)
      clear c7
      (first | rw [c7b0] | (simp only [i64_w, i32_w]; rw [c7b0]) | skip)
      by_cases c10 : (l0_1.length : Int) > 1000
      · rw [if_pos c10] at H
        have c10b0 : decide (1000 < (l0_1.length : Int)) = true := decide_eq_true c10
        have c10b1 : decide (1000 < l0_1.length) = true := decide_eq_true (by omega)
        clear c10
        have H' := Aside0.mk H
        clear H
        have hnb11 := NB120_121.out
        have hnc11 := NB121_120.out
        have hcz12_0 : w6.cell? ⟨gb120, 0, none⟩ = some (.slice A0_0 l0_0.length c0_0) := (blk_cell BK120.out 0).trans rfl
        have hcz12_1 : w6.cell? ⟨gb120, 1, none⟩ = some (.slice A0_1 l0_1.length c0_1) := (blk_cell BK120.out 1).trans rfl
        have hfz12_0 := blk_frozen BK120.out 0
        have hfz12_1 := blk_frozen BK120.out 1
        go_wp2
        go_meet
        case rel => exact ⟨_, (true), (by first | rfl | (simp; done) | (simp [*]; done)), H', ⟨by first | omega | exact Nat.le_refl _⟩, ⟨by (with_reducible repeat (first | refine blk_drewN ?_ _ | refine blk_drew ?_ | refine blk_alloc ?_ _)); exact BK120.out⟩, ⟨by (with_reducible repeat (first | refine blk_drewN ?_ _ | refine blk_drew ?_ | refine blk_alloc ?_ _)); exact BK121.out⟩, ⟨by repeat (first | (with_reducible first | exact HB.out | apply below_alloc | apply pw_below_drewN | apply below_drew1 | refine below_set ?_ GE120.out | refine below_set ?_ GE121.out) | exact HB.out)⟩⟩
      · rw [if_neg c10] at H
        have c10b0 : decide (1000 < (l0_1.length : Int)) = false := decide_eq_false c10
        have c10b1 : decide (1000 < l0_1.length) = false := decide_eq_false (by omega)
        clear c10
        by_cases c13 : (l1.length : Int) > 1000
        · rw [if_pos c13] at H
          have c13b0 : decide (1000 < (l1.length : Int)) = true := decide_eq_true c13
          have c13b1 : decide (1000 < l1.length) = true := decide_eq_true (by omega)
          clear c13
          have H' := Aside0.mk H
          clear H
          have hnb14 := NB120_121.out
          have hnc14 := NB121_120.out
          have hcz15_0 : w6.cell? ⟨gb120, 0, none⟩ = some (.slice A0_0 l0_0.length c0_0) := (blk_cell BK120.out 0).trans rfl
          have hcz15_1 : w6.cell? ⟨gb120, 1, none⟩ = some (.slice A0_1 l0_1.length c0_1) := (blk_cell BK120.out 1).trans rfl
          have hfz15_0 := blk_frozen BK120.out 0
          have hfz15_1 := blk_frozen BK120.out 1
          go_wp2
          go_meet
          case rel => exact ⟨_, (true), (by first | rfl | (simp; done) | (simp [*]; done)), H', ⟨by first | omega | exact Nat.le_refl _⟩, ⟨by (with_reducible repeat (first | refine blk_drewN ?_ _ | refine blk_drew ?_ | refine blk_alloc ?_ _)); exact BK120.out⟩, ⟨by (with_reducible repeat (first | refine blk_drewN ?_ _ | refine blk_drew ?_ | refine blk_alloc ?_ _)); exact BK121.out⟩, ⟨by repeat (first | (with_reducible first | exact HB.out | apply below_alloc | apply pw_below_drewN | apply below_drew1 | refine below_set ?_ GE120.out | refine below_set ?_ GE121.out) | exact HB.out)⟩⟩
        · rw [if_neg c13] at H
          have c13b0 : decide (1000 < (l1.length : Int)) = false := decide_eq_false c13
          have c13b1 : decide (1000 < l1.length) = false := decide_eq_false (by omega)
          clear c13
          replace H := Option.bind_eq_some_iff.mp H
          obtain ⟨t122, A160, H⟩ := H
          replace H : (remoralaw11_GearSame.j0 k l1 (t122 != 0) l0_0 l0_1 a2_0 a2_1 a2_2) = some r := H
          have A16 := Aside0.mk A160
          clear A160
          have H' := Aside0.mk H
          clear H
          have hnb17 := NB120_121.out
          have hnc17 := NB121_120.out
          have hcz18_0 : w6.cell? ⟨gb120, 0, none⟩ = some (.slice A0_0 l0_0.length c0_0) := (blk_cell BK120.out 0).trans rfl
          have hcz18_1 : w6.cell? ⟨gb120, 1, none⟩ = some (.slice A0_1 l0_1.length c0_1) := (blk_cell BK120.out 1).trans rfl
          have hfz18_0 := blk_frozen BK120.out 0
          have hfz18_1 := blk_frozen BK120.out 1
          have hcz19_0 : w6.cell? ⟨gb121, 0, none⟩ = some (.int .i64 a2_0) := (blk_cell BK121.out 0).trans rfl
          have hcz19_1 : w6.cell? ⟨gb121, 1, none⟩ = some (.int .i64 a2_1) := (blk_cell BK121.out 1).trans rfl
          have hcz19_2 : w6.cell? ⟨gb121, 2, none⟩ = some (.int .i64 a2_2) := (blk_cell BK121.out 2).trans rfl
          have hfz19_0 := blk_frozen BK121.out 0
          have hfz19_1 := blk_frozen BK121.out 1
          have hfz19_2 := blk_frozen BK121.out 2
          go_wp2_with (first | (go_at_call 14; (with_reducible refine (remoraref11_Check.calls a2_0 a2_1 a2_2 t122 _ A16.out).mono ?_); rintro e w20 ⟨rfl, hb⟩; have n0_ := Aside0.mk (blk_below (g := gb120) (o := .cells #[.slice A0_0 l0_0.length c0_0, .slice A0_1 l0_1.length c0_1] 37 (0, 0)) (by (with_reducible repeat (first | refine blk_drewN ?_ _ | refine blk_drew ?_ | refine blk_alloc ?_ _)); exact BK120.out) hb); have n1_ := Aside0.mk (blk_below (g := gb121) (o := .cells #[.int .i64 a2_0, .int .i64 a2_1, .int .i64 a2_2] 23 (0, 0)) (by (with_reducible repeat (first | refine blk_drewN ?_ _ | refine blk_drew ?_ | refine blk_alloc ?_ _)); exact BK121.out) hb); have n2_ := Aside0.mk (below_step (by repeat (first | (with_reducible first | exact HB.out | apply below_alloc | apply pw_below_drewN | apply below_drew1 | refine below_set ?_ GE120.out | refine below_set ?_ GE121.out) | exact HB.out)) hb); clear BK120; clear BK121; clear HB; have BK120 := n0_; have BK121 := n1_; have HB := n2_; clear n0_ n1_ n2_; (try clear hb); (try clear hb2); (try clear hk); (try clear hi)))
          go_meet
          case rel => exact ⟨_, ((t122 != 0)), (by first | rfl | (simp; done) | (simp [*]; done)), H', ⟨by first | omega | exact Nat.le_refl _⟩, ⟨by (with_reducible repeat (first | refine blk_drewN ?_ _ | refine blk_drew ?_ | refine blk_alloc ?_ _)); exact BK120.out⟩, ⟨by (with_reducible repeat (first | refine blk_drewN ?_ _ | refine blk_drew ?_ | refine blk_alloc ?_ _)); exact BK121.out⟩, ⟨by repeat (first | (with_reducible first | exact HB.out | apply below_alloc | apply pw_below_drewN | apply below_drew1 | refine below_set ?_ GE120.out | refine below_set ?_ GE121.out) | exact HB.out)⟩⟩
  case rest =>
    clear HC4
    try clear c1
    try clear p2
    try clear c5
    try clear c7
    try clear c7b0
    try clear c7b1
    try clear c8
    try clear c10
    try clear c10b0
    try clear c10b1
    try clear c11
    try clear c13
    try clear c13b0
    try clear c13b1
    try clear c14
    try clear c17
    try clear hcz12_0
    try clear hcz12_1
    try clear hcz15_0
    try clear hcz15_1
    try clear hcz18_0
    try clear hcz18_1
    try clear hcz19_0
    try clear hcz19_1
    try clear hcz19_2
    try clear hcz9_0
    try clear hcz9_1
    try clear hfz12_0
    try clear hfz12_1
    try clear hfz15_0
    try clear hfz15_1
    try clear hfz18_0
    try clear hfz18_1
    try clear hfz19_0
    try clear hfz19_1
    try clear hfz19_2
    try clear hfz9_0
    try clear hfz9_1
    obtain ⟨kq, x39_3, rfl, HA, HJ3, BK120, BK121, HB⟩ := hcut
    cases kq with
    | zero => exact absurd HA.out (by simp [remoralaw11_GearSame.j0])
    | succ kj3 =>
      have H := HA.out
      clear HA
      simp only [remoralaw11_GearSame.j0] at H
      by_cases c21 : x39_3 = true
      · subst c21
        have H1 : ((remoralaw11_awake.f).bind fun t123 => (some t123)) = some r := by rw [if_pos rfl] at H; exact H
        clear H
        have H := H1
        clear H1
        replace H := Option.bind_eq_some_iff.mp H
        obtain ⟨t123, A220, H⟩ := H
        replace H : (some t123) = some r := H
        have A22 := Aside0.mk A220
        clear A220
        obtain rfl := Option.some.inj H
        go_wp2_with (first | ((with_reducible refine gate_callee (f := 15) rfl ?_); refine goesL_ (some 40) rfl rfl Tryd.func15 (by kernel_rfl) rfl #[] rfl (by (try simp only [List.map_toArray, List.map_cons, List.map_nil]); first | done | rfl | (simp only [List.length_drop, List.length_take]; rfl)) ?_; (with_reducible refine (remoralaw11_awake.calls  t123 _ A22.out ?sideG).mono ?_); (case sideG => first | exact hG.below (by repeat (first | (with_reducible first | exact HB.out | apply below_alloc | apply pw_below_drewN | apply below_drew1) | exact HB.out | exact Below.refl _ _)) | exact hG); rintro e w23 ⟨rfl, hb⟩; refine ⟨_, rfl, ?_⟩; have n0_ := Aside0.mk (blk_below (g := gb120) (o := .cells #[.slice A0_0 l0_0.length c0_0, .slice A0_1 l0_1.length c0_1] 37 (0, 0)) (by (with_reducible repeat (first | refine blk_drewN ?_ _ | refine blk_drew ?_ | refine blk_alloc ?_ _)); exact BK120.out) hb); have n1_ := Aside0.mk (blk_below (g := gb121) (o := .cells #[.int .i64 a2_0, .int .i64 a2_1, .int .i64 a2_2] 23 (0, 0)) (by (with_reducible repeat (first | refine blk_drewN ?_ _ | refine blk_drew ?_ | refine blk_alloc ?_ _)); exact BK121.out) hb); have n2_ := Aside0.mk (below_step (by repeat (first | (with_reducible first | exact HB.out | apply below_alloc | apply pw_below_drewN | apply below_drew1 | refine below_set ?_ GE120.out | refine below_set ?_ GE121.out) | exact HB.out)) hb); clear BK120; clear BK121; clear HB; have BK120 := n0_; have BK121 := n1_; have HB := n2_; clear n0_ n1_ n2_; (try clear hb); (try clear hb2); (try clear hk); (try clear hi)))
        go_ret
        exact ⟨by first | rfl | (simp [errW_none, errW_some] <;> rfl) | (simp [*, errW_none, errW_some] <;> rfl), by repeat (first | (with_reducible first | exact HB.out | apply below_alloc | apply pw_below_drewN | apply below_drew1 | refine below_set ?_ GE120.out | refine below_set ?_ GE121.out) | exact HB.out)⟩
      · replace c21 := Bool.eq_false_iff.mpr c21
        subst c21
        have H1 : ((some (([] : List Int) : List Int)).bind fun y124 => (if y124.length + l0_0.length < 140737488355328 then ((some (y124 ++ l0_0 : List Int)).bind fun y127 => (if y127.length + l1.length < 140737488355328 then ((some (y127 ++ l1 : List Int)).bind fun y130 => ((some (([] : List Int) : List Int)).bind fun y133 => (if y133.length + l0_1.length < 140737488355328 then ((some (y133 ++ l0_1 : List Int)).bind fun y136 => (if y136.length + l1.length < 140737488355328 then ((remoralaw11_Of.f a2_0 a2_1 a2_2).bind fun bt142 => ((gear_Cuts.f kj3 y130 bt142.1 bt142.2.1 bt142.2.2).bind fun bt145 => ((remoralaw11_Of.f a2_0 a2_1 a2_2).bind fun bt149 => ((gear_Cuts.f kj3 (y136 ++ l1) bt149.1 bt149.2.1 bt149.2.2).bind fun bt152 => (if bt145.2 = 0 then (remoralaw11_GearSame.j1 kj3 y130 bt145.1 bt152.1 (bt152.2 != 0) l0_0 l0_1 a2_0 a2_1 a2_2) else (remoralaw11_GearSame.j1 kj3 y130 bt145.1 bt152.1 true l0_0 l0_1 a2_0 a2_1 a2_2)))))) else (none))) else (none)))) else (none))) else (none))) = some r := by rw [if_neg (show ¬ (false = true) by decide)] at H; exact H
        clear H
        have H := H1
        clear H1
        obtain ⟨y124, hy124⟩ : ∃ y_ : List Int, y_ = (([] : List Int)) := ⟨_, rfl⟩
        replace H : (if y124.length + l0_0.length < 140737488355328 then ((some (y124 ++ l0_0 : List Int)).bind fun y127 => (if y127.length + l1.length < 140737488355328 then ((some (y127 ++ l1 : List Int)).bind fun y130 => ((some (([] : List Int) : List Int)).bind fun y133 => (if y133.length + l0_1.length < 140737488355328 then ((some (y133 ++ l0_1 : List Int)).bind fun y136 => (if y136.length + l1.length < 140737488355328 then ((remoralaw11_Of.f a2_0 a2_1 a2_2).bind fun bt142 => ((gear_Cuts.f kj3 y130 bt142.1 bt142.2.1 bt142.2.2).bind fun bt145 => ((remoralaw11_Of.f a2_0 a2_1 a2_2).bind fun bt149 => ((gear_Cuts.f kj3 (y136 ++ l1) bt149.1 bt149.2.1 bt149.2.2).bind fun bt152 => (if bt145.2 = 0 then (remoralaw11_GearSame.j1 kj3 y130 bt145.1 bt152.1 (bt152.2 != 0) l0_0 l0_1 a2_0 a2_1 a2_2) else (remoralaw11_GearSame.j1 kj3 y130 bt145.1 bt152.1 true l0_0 l0_1 a2_0 a2_1 a2_2)))))) else (none))) else (none)))) else (none))) else (none)) = some r := by first | (rw [hy124]; with_reducible exact H) | (have H2_ := (Option.bind_some _ _).symm.trans H; rw [hy124]; with_reducible exact H2_) | (have H2_ := (Option.bind_some _ _).symm.trans H; with_reducible exact H2_) | with_reducible exact H | (rw [hy124]; exact H) | exact H
        have Ny124 := Aside0.mk hy124
        clear hy124
        by_cases c24 : y124.length + l0_0.length < 140737488355328
        · rw [if_pos c24] at H
          have LMc24 := Aside0.mk c24
          clear c24
          obtain ⟨y127, hy127⟩ : ∃ y_ : List Int, y_ = (y124 ++ l0_0) := ⟨_, rfl⟩
          replace H : (if y127.length + l1.length < 140737488355328 then ((some (y127 ++ l1 : List Int)).bind fun y130 => ((some (([] : List Int) : List Int)).bind fun y133 => (if y133.length + l0_1.length < 140737488355328 then ((some (y133 ++ l0_1 : List Int)).bind fun y136 => (if y136.length + l1.length < 140737488355328 then ((remoralaw11_Of.f a2_0 a2_1 a2_2).bind fun bt142 => ((gear_Cuts.f kj3 y130 bt142.1 bt142.2.1 bt142.2.2).bind fun bt145 => ((remoralaw11_Of.f a2_0 a2_1 a2_2).bind fun bt149 => ((gear_Cuts.f kj3 (y136 ++ l1) bt149.1 bt149.2.1 bt149.2.2).bind fun bt152 => (if bt145.2 = 0 then (remoralaw11_GearSame.j1 kj3 y130 bt145.1 bt152.1 (bt152.2 != 0) l0_0 l0_1 a2_0 a2_1 a2_2) else (remoralaw11_GearSame.j1 kj3 y130 bt145.1 bt152.1 true l0_0 l0_1 a2_0 a2_1 a2_2)))))) else (none))) else (none)))) else (none)) = some r := by first | (rw [hy127]; with_reducible exact H) | (have H2_ := (Option.bind_some _ _).symm.trans H; rw [hy127]; with_reducible exact H2_) | (have H2_ := (Option.bind_some _ _).symm.trans H; with_reducible exact H2_) | with_reducible exact H | (rw [hy127]; exact H) | exact H
          have Ny127 := Aside0.mk hy127
          clear hy127
          by_cases c25 : y127.length + l1.length < 140737488355328
          · rw [if_pos c25] at H
            have LMc25 := Aside0.mk c25
            clear c25
            obtain ⟨y130, hy130⟩ : ∃ y_ : List Int, y_ = (y127 ++ l1) := ⟨_, rfl⟩
            replace H : ((some (([] : List Int) : List Int)).bind fun y133 => (if y133.length + l0_1.length < 140737488355328 then ((some (y133 ++ l0_1 : List Int)).bind fun y136 => (if y136.length + l1.length < 140737488355328 then ((remoralaw11_Of.f a2_0 a2_1 a2_2).bind fun bt142 => ((gear_Cuts.f kj3 y130 bt142.1 bt142.2.1 bt142.2.2).bind fun bt145 => ((remoralaw11_Of.f a2_0 a2_1 a2_2).bind fun bt149 => ((gear_Cuts.f kj3 (y136 ++ l1) bt149.1 bt149.2.1 bt149.2.2).bind fun bt152 => (if bt145.2 = 0 then (remoralaw11_GearSame.j1 kj3 y130 bt145.1 bt152.1 (bt152.2 != 0) l0_0 l0_1 a2_0 a2_1 a2_2) else (remoralaw11_GearSame.j1 kj3 y130 bt145.1 bt152.1 true l0_0 l0_1 a2_0 a2_1 a2_2)))))) else (none))) else (none))) = some r := by first | (rw [hy130]; with_reducible exact H) | (have H2_ := (Option.bind_some _ _).symm.trans H; rw [hy130]; with_reducible exact H2_) | (have H2_ := (Option.bind_some _ _).symm.trans H; with_reducible exact H2_) | with_reducible exact H | (rw [hy130]; exact H) | exact H
            have Ny130 := Aside0.mk hy130
            clear hy130
            obtain ⟨y133, hy133⟩ : ∃ y_ : List Int, y_ = (([] : List Int)) := ⟨_, rfl⟩
            replace H : (if y133.length + l0_1.length < 140737488355328 then ((some (y133 ++ l0_1 : List Int)).bind fun y136 => (if y136.length + l1.length < 140737488355328 then ((remoralaw11_Of.f a2_0 a2_1 a2_2).bind fun bt142 => ((gear_Cuts.f kj3 y130 bt142.1 bt142.2.1 bt142.2.2).bind fun bt145 => ((remoralaw11_Of.f a2_0 a2_1 a2_2).bind fun bt149 => ((gear_Cuts.f kj3 (y136 ++ l1) bt149.1 bt149.2.1 bt149.2.2).bind fun bt152 => (if bt145.2 = 0 then (remoralaw11_GearSame.j1 kj3 y130 bt145.1 bt152.1 (bt152.2 != 0) l0_0 l0_1 a2_0 a2_1 a2_2) else (remoralaw11_GearSame.j1 kj3 y130 bt145.1 bt152.1 true l0_0 l0_1 a2_0 a2_1 a2_2)))))) else (none))) else (none)) = some r := by first | (rw [hy133]; with_reducible exact H) | (have H2_ := (Option.bind_some _ _).symm.trans H; rw [hy133]; with_reducible exact H2_) | (have H2_ := (Option.bind_some _ _).symm.trans H; with_reducible exact H2_) | with_reducible exact H | (rw [hy133]; exact H) | exact H
            have Ny133 := Aside0.mk hy133
            clear hy133
            by_cases c26 : y133.length + l0_1.length < 140737488355328
            · rw [if_pos c26] at H
              have LMc26 := Aside0.mk c26
              clear c26
              obtain ⟨y136, hy136⟩ : ∃ y_ : List Int, y_ = (y133 ++ l0_1) := ⟨_, rfl⟩
              replace H : (if y136.length + l1.length < 140737488355328 then ((remoralaw11_Of.f a2_0 a2_1 a2_2).bind fun bt142 => ((gear_Cuts.f kj3 y130 bt142.1 bt142.2.1 bt142.2.2).bind fun bt145 => ((remoralaw11_Of.f a2_0 a2_1 a2_2).bind fun bt149 => ((gear_Cuts.f kj3 (y136 ++ l1) bt149.1 bt149.2.1 bt149.2.2).bind fun bt152 => (if bt145.2 = 0 then (remoralaw11_GearSame.j1 kj3 y130 bt145.1 bt152.1 (bt152.2 != 0) l0_0 l0_1 a2_0 a2_1 a2_2) else (remoralaw11_GearSame.j1 kj3 y130 bt145.1 bt152.1 true l0_0 l0_1 a2_0 a2_1 a2_2)))))) else (none)) = some r := by first | (rw [hy136]; with_reducible exact H) | (have H2_ := (Option.bind_some _ _).symm.trans H; rw [hy136]; with_reducible exact H2_) | (have H2_ := (Option.bind_some _ _).symm.trans H; with_reducible exact H2_) | with_reducible exact H | (rw [hy136]; exact H) | exact H
              have Ny136 := Aside0.mk hy136
              clear hy136
              by_cases c27 : y136.length + l1.length < 140737488355328
              · rw [if_pos c27] at H
                have LMc27 := Aside0.mk c27
                clear c27
                obtain ⟨y139, hy139⟩ : ∃ y_ : List Int, y_ = (y136 ++ l1) := ⟨_, rfl⟩
                replace H : ((remoralaw11_Of.f a2_0 a2_1 a2_2).bind fun bt142 => ((gear_Cuts.f kj3 y130 bt142.1 bt142.2.1 bt142.2.2).bind fun bt145 => ((remoralaw11_Of.f a2_0 a2_1 a2_2).bind fun bt149 => ((gear_Cuts.f kj3 y139 bt149.1 bt149.2.1 bt149.2.2).bind fun bt152 => (if bt145.2 = 0 then (remoralaw11_GearSame.j1 kj3 y130 bt145.1 bt152.1 (bt152.2 != 0) l0_0 l0_1 a2_0 a2_1 a2_2) else (remoralaw11_GearSame.j1 kj3 y130 bt145.1 bt152.1 true l0_0 l0_1 a2_0 a2_1 a2_2)))))) = some r := by first | (rw [hy139]; with_reducible exact H) | (have H2_ := (Option.bind_some _ _).symm.trans H; rw [hy139]; with_reducible exact H2_) | (have H2_ := (Option.bind_some _ _).symm.trans H; with_reducible exact H2_) | with_reducible exact H | (rw [hy139]; exact H) | exact H
                have Ny139 := Aside0.mk hy139
                clear hy139
                replace H := Option.bind_eq_some_iff.mp H
                obtain ⟨⟨t142, t143, t144⟩, A280, H⟩ := H
                replace H : ((gear_Cuts.f kj3 y130 t142 t143 t144).bind fun bt145 => ((remoralaw11_Of.f a2_0 a2_1 a2_2).bind fun bt149 => ((gear_Cuts.f kj3 y139 bt149.1 bt149.2.1 bt149.2.2).bind fun bt152 => (if bt145.2 = 0 then (remoralaw11_GearSame.j1 kj3 y130 bt145.1 bt152.1 (bt152.2 != 0) l0_0 l0_1 a2_0 a2_1 a2_2) else (remoralaw11_GearSame.j1 kj3 y130 bt145.1 bt152.1 true l0_0 l0_1 a2_0 a2_1 a2_2))))) = some r := H
                have A28 := Aside0.mk A280
                clear A280
                replace H := Option.bind_eq_some_iff.mp H
                obtain ⟨⟨t145, t148⟩, A290, H⟩ := H
                replace H : ((remoralaw11_Of.f a2_0 a2_1 a2_2).bind fun bt149 => ((gear_Cuts.f kj3 y139 bt149.1 bt149.2.1 bt149.2.2).bind fun bt152 => (if t148 = 0 then (remoralaw11_GearSame.j1 kj3 y130 t145 bt152.1 (bt152.2 != 0) l0_0 l0_1 a2_0 a2_1 a2_2) else (remoralaw11_GearSame.j1 kj3 y130 t145 bt152.1 true l0_0 l0_1 a2_0 a2_1 a2_2)))) = some r := H
                have A29 := Aside0.mk A290
                clear A290
                replace H := Option.bind_eq_some_iff.mp H
                obtain ⟨⟨t149, t150, t151⟩, A300, H⟩ := H
                obtain ⟨rfl, rfl, rfl⟩ : t142 = t149 ∧ t143 = t150 ∧ t144 = t151 := by
                  have e_ := Option.some.inj (A28.out.symm.trans A300)
                  simpa only [Prod.mk.injEq] using e_
                replace H : ((gear_Cuts.f kj3 y139 t142 t143 t144).bind fun bt152 => (if t148 = 0 then (remoralaw11_GearSame.j1 kj3 y130 t145 bt152.1 (bt152.2 != 0) l0_0 l0_1 a2_0 a2_1 a2_2) else (remoralaw11_GearSame.j1 kj3 y130 t145 bt152.1 true l0_0 l0_1 a2_0 a2_1 a2_2))) = some r := H
                have A30 := Aside0.mk A300
                clear A300
                replace H := Option.bind_eq_some_iff.mp H
                obtain ⟨⟨t152, t155⟩, A310, H⟩ := H
                replace H : (if t148 = 0 then (remoralaw11_GearSame.j1 kj3 y130 t145 t152 (t155 != 0) l0_0 l0_1 a2_0 a2_1 a2_2) else (remoralaw11_GearSame.j1 kj3 y130 t145 t152 true l0_0 l0_1 a2_0 a2_1 a2_2)) = some r := H
                have A31 := Aside0.mk A310
                clear A310
                have HC32 := Aside0.mk H
                clear H
                go_upto_region 7 with (first | ((with_reducible refine gate_dst (N := 41) rfl ?_); (try (refine gate_guard (by rfl) ?_; dsimp only)); refine Kd.R_lit (Kd.int .u8) _ 5 ?hg (N := 41) ?hd (xs := ([] : List Int)) (inner := []) (ok := fun _ => True) (okp := fun _ => True) ?hr ?hp (fun _ hk => hk) trivial (Below.refl _ _) (Nat.le_refl _) (by simp) ?_; (case hd => rfl); (case hg => rfl); (case hr => first | (go_simp; done) | (go_simp; rfl)); (case hp => exact (Reps.none _ _)); intro v125 w33 ho34 hb hg_ hnew_; clear hg_ hnew_; (first | rw [← Ny124.out] at ho34 | (simp only [Int.reduceToNat] at ho34; rw [← Ny124.out] at ho34)); have n0_ := Aside0.mk (Kd.R_lower ho34 (below_size (by repeat (first | (with_reducible first | exact HB.out | apply below_alloc | apply pw_below_drewN | apply below_drew1 | refine below_set ?_ GE120.out | refine below_set ?_ GE121.out) | exact HB.out)))); have n1_ := Aside0.mk (blk_below (g := gb120) (o := .cells #[.slice A0_0 l0_0.length c0_0, .slice A0_1 l0_1.length c0_1] 37 (0, 0)) (by (with_reducible repeat (first | refine blk_drewN ?_ _ | refine blk_drew ?_ | refine blk_alloc ?_ _)); exact BK120.out) hb); have n2_ := Aside0.mk (blk_below (g := gb121) (o := .cells #[.int .i64 a2_0, .int .i64 a2_1, .int .i64 a2_2] 23 (0, 0)) (by (with_reducible repeat (first | refine blk_drewN ?_ _ | refine blk_drew ?_ | refine blk_alloc ?_ _)); exact BK121.out) hb); have n3_ := Aside0.mk (below_step (by repeat (first | (with_reducible first | exact HB.out | apply below_alloc | apply pw_below_drewN | apply below_drew1 | refine below_set ?_ GE120.out | refine below_set ?_ GE121.out) | exact HB.out)) hb); clear BK120; clear BK121; clear HB; have HO126 := n0_; have BK120 := n1_; have BK121 := n2_; have HB := n3_; clear n0_ n1_ n2_ n3_; clear hb ho34; have hnb35 := NB120_121.out; have hnc35 := NB121_120.out; have hcz36_0 : w33.cell? ⟨gb120, 0, none⟩ = some (.slice A0_0 l0_0.length c0_0) := (blk_cell BK120.out 0).trans rfl; have hcz36_1 : w33.cell? ⟨gb120, 1, none⟩ = some (.slice A0_1 l0_1.length c0_1) := (blk_cell BK120.out 1).trans rfl; have hfz36_0 := blk_frozen BK120.out 0; have hfz36_1 := blk_frozen BK120.out 1) | ((with_reducible refine gate_builtin (b := .append) (xs := #[.tmp 41, .tmp 43]) rfl ?_); (try (refine gate_guard (by rfl) ?_; dsimp only)); at_builtin; refine Kd.R_append_rows (Kd.int .u8) (w0 := w) w.heap.size rfl (.tmp 41) (.tmp 43) 33 5 (.int .u8 0) 1 rfl Tryd.underlying33 info5 rfl (by decide) (by omega) v125 y124 l0_0 _ _ _ (fun _ => True) (fun _ => False) rfl rfl ?aO ?aR (fun _ _ h => h) (fun _ h => h.elim) ?aF ?aB ?aS ?aL ?_; (case aR => repeat (first | exact (Kd.C_below HR0_0.out HB.out) | (with_reducible refine Kd.C_alloc ?_ _) | (with_reducible refine Kd.C_drewN ?_ _) | (with_reducible refine Kd.C_drew ?_))); (case aB => exact (by repeat (first | (with_reducible first | exact HB.out | apply below_alloc | apply pw_below_drewN | apply below_drew1 | refine below_set ?_ GE120.out | refine below_set ?_ GE121.out) | exact HB.out))); (case aF => exact (fun _ _ => trivial)); (case aO => exact (by (with_reducible repeat (first | apply Kd.R_alloc | apply Kd.R_drewN | apply Kd.R_drew)); exact HO126.out)); (case aS => exact (below_size (by repeat (first | (with_reducible first | exact HB.out | apply below_alloc | apply pw_below_drewN | apply below_drew1 | refine below_set ?_ GE120.out | refine below_set ?_ GE121.out) | exact HB.out)))); (case aL => have := LMc24.out; omega); intro v128 w37 ho hb hg hat; rw [← Ny127.out] at ho; have n0_ := Aside0.mk (blk_grown (g := gb120) (o := .cells #[.slice A0_0 l0_0.length c0_0, .slice A0_1 l0_1.length c0_1] 37 (0, 0)) (by (with_reducible repeat (first | refine blk_drewN ?_ _ | refine blk_drew ?_ | refine blk_alloc ?_ _)); exact BK120.out) hg (Kd.R_ne HO126.out BK120.out (by decide))); have n1_ := Aside0.mk (blk_grown (g := gb121) (o := .cells #[.int .i64 a2_0, .int .i64 a2_1, .int .i64 a2_2] 23 (0, 0)) (by (with_reducible repeat (first | refine blk_drewN ?_ _ | refine blk_drew ?_ | refine blk_alloc ?_ _)); exact BK121.out) hg (Kd.R_ne HO126.out BK121.out (by decide))); have n2_ := Aside0.mk (hb); have n3_ := Aside0.mk (ho); clear BK120; clear BK121; clear HB; clear HO126; have BK120 := n0_; have BK121 := n1_; have HB := n2_; have HO129 := n3_; clear n0_ n1_ n2_ n3_; clear ho hb hg hat) | ((with_reducible refine gate_builtin (b := .append) (xs := #[.tmp 44, .tmp 45]) rfl ?_); (try (refine gate_guard (by rfl) ?_; dsimp only)); at_builtin; refine Kd.R_append_rows (Kd.int .u8) (w0 := w) w.heap.size rfl (.tmp 44) (.tmp 45) 33 5 (.int .u8 0) 1 rfl Tryd.underlying33 info5 rfl (by decide) (by omega) v128 y127 l1 _ _ _ (fun _ => True) (fun _ => False) rfl rfl ?aO ?aR (fun _ _ h => h) (fun _ h => h.elim) ?aF ?aB ?aS ?aL ?_; (case aR => repeat (first | exact (Kd.C_below HR1.out HB.out) | (with_reducible refine Kd.C_alloc ?_ _) | (with_reducible refine Kd.C_drewN ?_ _) | (with_reducible refine Kd.C_drew ?_))); (case aB => exact (by repeat (first | (with_reducible first | exact HB.out | apply below_alloc | apply pw_below_drewN | apply below_drew1 | refine below_set ?_ GE120.out | refine below_set ?_ GE121.out) | exact HB.out))); (case aF => exact (fun _ _ => trivial)); (case aO => exact (by (with_reducible repeat (first | apply Kd.R_alloc | apply Kd.R_drewN | apply Kd.R_drew)); exact HO129.out)); (case aS => exact (below_size (by repeat (first | (with_reducible first | exact HB.out | apply below_alloc | apply pw_below_drewN | apply below_drew1 | refine below_set ?_ GE120.out | refine below_set ?_ GE121.out) | exact HB.out)))); (case aL => have := LMc25.out; omega); intro v131 w38 ho hb hg hat; rw [← Ny130.out] at ho; have n0_ := Aside0.mk (blk_grown (g := gb120) (o := .cells #[.slice A0_0 l0_0.length c0_0, .slice A0_1 l0_1.length c0_1] 37 (0, 0)) (by (with_reducible repeat (first | refine blk_drewN ?_ _ | refine blk_drew ?_ | refine blk_alloc ?_ _)); exact BK120.out) hg (Kd.R_ne HO129.out BK120.out (by decide))); have n1_ := Aside0.mk (blk_grown (g := gb121) (o := .cells #[.int .i64 a2_0, .int .i64 a2_1, .int .i64 a2_2] 23 (0, 0)) (by (with_reducible repeat (first | refine blk_drewN ?_ _ | refine blk_drew ?_ | refine blk_alloc ?_ _)); exact BK121.out) hg (Kd.R_ne HO129.out BK121.out (by decide))); have n2_ := Aside0.mk (hb); have n3_ := Aside0.mk (ho); clear BK120; clear BK121; clear HB; clear HO129; have BK120 := n0_; have BK121 := n1_; have HB := n2_; have HO132 := n3_; clear n0_ n1_ n2_ n3_; clear ho hb hg hat) | ((with_reducible refine gate_dst (N := 47) rfl ?_); (try (refine gate_guard (by rfl) ?_; dsimp only)); refine Kd.R_lit (Kd.int .u8) _ 5 ?hg (N := 47) ?hd (xs := ([] : List Int)) (inner := []) (ok := fun _ => True) (okp := fun _ => True) ?hr ?hp (fun _ hk => hk) trivial (Below.refl _ _) (Nat.le_refl _) (by simp) ?_; (case hd => rfl); (case hg => rfl); (case hr => first | (go_simp; done) | (go_simp; rfl)); (case hp => exact (Reps.none _ _)); intro v134 w39 ho40 hb hg_ hnew_; clear hg_ hnew_; (first | rw [← Ny133.out] at ho40 | (simp only [Int.reduceToNat] at ho40; rw [← Ny133.out] at ho40)); have n0_ := Aside0.mk (Kd.R_elder' (by (with_reducible repeat (first | apply Kd.R_alloc | apply Kd.R_drewN | apply Kd.R_drew)); exact HO132.out) (Kd.R_base ho40) hb); have n1_ := Aside0.mk (Kd.R_lower (Kd.R_new' ho40 (Kd.R_lt (by (with_reducible repeat (first | apply Kd.R_alloc | apply Kd.R_drewN | apply Kd.R_drew)); exact HO132.out))) (below_size (by repeat (first | (with_reducible first | exact HB.out | apply below_alloc | apply pw_below_drewN | apply below_drew1 | refine below_set ?_ GE120.out | refine below_set ?_ GE121.out) | exact HB.out)))); have n2_ := Aside0.mk (blk_below (g := gb120) (o := .cells #[.slice A0_0 l0_0.length c0_0, .slice A0_1 l0_1.length c0_1] 37 (0, 0)) (by (with_reducible repeat (first | refine blk_drewN ?_ _ | refine blk_drew ?_ | refine blk_alloc ?_ _)); exact BK120.out) hb); have n3_ := Aside0.mk (blk_below (g := gb121) (o := .cells #[.int .i64 a2_0, .int .i64 a2_1, .int .i64 a2_2] 23 (0, 0)) (by (with_reducible repeat (first | refine blk_drewN ?_ _ | refine blk_drew ?_ | refine blk_alloc ?_ _)); exact BK121.out) hb); have n4_ := Aside0.mk (below_step (by repeat (first | (with_reducible first | exact HB.out | apply below_alloc | apply pw_below_drewN | apply below_drew1 | refine below_set ?_ GE120.out | refine below_set ?_ GE121.out) | exact HB.out)) hb); clear HO132; clear BK120; clear BK121; clear HB; have HO132 := n0_; have HO135 := n1_; have BK120 := n2_; have BK121 := n3_; have HB := n4_; clear n0_ n1_ n2_ n3_ n4_; clear hb ho40; have hcz41_0 : w39.cell? ⟨gb120, 0, none⟩ = some (.slice A0_0 l0_0.length c0_0) := (blk_cell BK120.out 0).trans rfl; have hcz41_1 : w39.cell? ⟨gb120, 1, none⟩ = some (.slice A0_1 l0_1.length c0_1) := (blk_cell BK120.out 1).trans rfl; have hfz41_0 := blk_frozen BK120.out 0; have hfz41_1 := blk_frozen BK120.out 1) | ((with_reducible refine gate_builtin (b := .append) (xs := #[.tmp 47, .tmp 49]) rfl ?_); (try (refine gate_guard (by rfl) ?_; dsimp only)); at_builtin; refine Kd.R_append_rows (Kd.int .u8) (w0 := w) w.heap.size rfl (.tmp 47) (.tmp 49) 33 5 (.int .u8 0) 1 rfl Tryd.underlying33 info5 rfl (by decide) (by omega) v134 y133 l0_1 _ _ _ (fun k_ => some k_ ≠ (v131 : Value).ownBlock) (fun _ => False) rfl rfl ?aO ?aR (fun _ _ h => h) (fun _ h => h.elim) ?aF ?aB ?aS ?aL ?_; (case aR => repeat (first | exact (Kd.C_below HR0_1.out HB.out) | (with_reducible refine Kd.C_alloc ?_ _) | (with_reducible refine Kd.C_drewN ?_ _) | (with_reducible refine Kd.C_drew ?_))); (case aB => exact (by repeat (first | (with_reducible first | exact HB.out | apply below_alloc | apply pw_below_drewN | apply below_drew1 | refine below_set ?_ GE120.out | refine below_set ?_ GE121.out) | exact HB.out))); (case aF => exact (fun k_ hk => Kd.fresh' (Kd.R_lt (by (with_reducible repeat (first | apply Kd.R_alloc | apply Kd.R_drewN | apply Kd.R_drew)); exact HO132.out)) k_ hk)); (case aO => exact (by (with_reducible repeat (first | apply Kd.R_alloc | apply Kd.R_drewN | apply Kd.R_drew)); exact Kd.R_mono HO135.out (fun _ hk => hk.2))); (case aS => exact (below_size (by repeat (first | (with_reducible first | exact HB.out | apply below_alloc | apply pw_below_drewN | apply below_drew1 | refine below_set ?_ GE120.out | refine below_set ?_ GE121.out) | exact HB.out)))); (case aL => have := LMc26.out; omega); intro v137 w42 ho hb hg hat; rw [← Ny136.out] at ho; have n0_ := Aside0.mk (blk_grown (g := gb120) (o := .cells #[.slice A0_0 l0_0.length c0_0, .slice A0_1 l0_1.length c0_1] 37 (0, 0)) (by (with_reducible repeat (first | refine blk_drewN ?_ _ | refine blk_drew ?_ | refine blk_alloc ?_ _)); exact BK120.out) hg (Kd.R_ne HO135.out BK120.out (by decide))); have n1_ := Aside0.mk (blk_grown (g := gb121) (o := .cells #[.int .i64 a2_0, .int .i64 a2_1, .int .i64 a2_2] 23 (0, 0)) (by (with_reducible repeat (first | refine blk_drewN ?_ _ | refine blk_drew ?_ | refine blk_alloc ?_ _)); exact BK121.out) hg (Kd.R_ne HO135.out BK121.out (by decide))); have n2_ := Aside0.mk (Kd.R_after (ok := (fun _ => True)) (by (with_reducible repeat (first | apply Kd.R_alloc | apply Kd.R_drewN | apply Kd.R_drew)); exact HO132.out) hg hat); have n3_ := Aside0.mk (hb); have n4_ := Aside0.mk (ho); clear BK120; clear BK121; clear HO132; clear HB; clear HO135; have BK120 := n0_; have BK121 := n1_; have HO132 := n2_; have HB := n3_; have HO138 := n4_; clear n0_ n1_ n2_ n3_ n4_; clear ho hb hg hat) | ((with_reducible refine gate_builtin (b := .append) (xs := #[.tmp 50, .tmp 51]) rfl ?_); (try (refine gate_guard (by rfl) ?_; dsimp only)); at_builtin; refine Kd.R_append_rows (Kd.int .u8) (w0 := w) w.heap.size rfl (.tmp 50) (.tmp 51) 33 5 (.int .u8 0) 1 rfl Tryd.underlying33 info5 rfl (by decide) (by omega) v137 y136 l1 _ _ _ (fun k_ => some k_ ≠ (v131 : Value).ownBlock) (fun _ => False) rfl rfl ?aO ?aR (fun _ _ h => h) (fun _ h => h.elim) ?aF ?aB ?aS ?aL ?_; (case aR => repeat (first | exact (Kd.C_below HR1.out HB.out) | (with_reducible refine Kd.C_alloc ?_ _) | (with_reducible refine Kd.C_drewN ?_ _) | (with_reducible refine Kd.C_drew ?_))); (case aB => exact (by repeat (first | (with_reducible first | exact HB.out | apply below_alloc | apply pw_below_drewN | apply below_drew1 | refine below_set ?_ GE120.out | refine below_set ?_ GE121.out) | exact HB.out))); (case aF => exact (fun k_ hk => Kd.fresh' (Kd.R_lt (by (with_reducible repeat (first | apply Kd.R_alloc | apply Kd.R_drewN | apply Kd.R_drew)); exact HO132.out)) k_ hk)); (case aO => exact (by (with_reducible repeat (first | apply Kd.R_alloc | apply Kd.R_drewN | apply Kd.R_drew)); exact HO138.out)); (case aS => exact (below_size (by repeat (first | (with_reducible first | exact HB.out | apply below_alloc | apply pw_below_drewN | apply below_drew1 | refine below_set ?_ GE120.out | refine below_set ?_ GE121.out) | exact HB.out)))); (case aL => have := LMc27.out; omega); intro v140 w43 ho hb hg hat; rw [← Ny139.out] at ho; have n0_ := Aside0.mk (blk_grown (g := gb120) (o := .cells #[.slice A0_0 l0_0.length c0_0, .slice A0_1 l0_1.length c0_1] 37 (0, 0)) (by (with_reducible repeat (first | refine blk_drewN ?_ _ | refine blk_drew ?_ | refine blk_alloc ?_ _)); exact BK120.out) hg (Kd.R_ne HO138.out BK120.out (by decide))); have n1_ := Aside0.mk (blk_grown (g := gb121) (o := .cells #[.int .i64 a2_0, .int .i64 a2_1, .int .i64 a2_2] 23 (0, 0)) (by (with_reducible repeat (first | refine blk_drewN ?_ _ | refine blk_drew ?_ | refine blk_alloc ?_ _)); exact BK121.out) hg (Kd.R_ne HO138.out BK121.out (by decide))); have n2_ := Aside0.mk (Kd.R_after (ok := (fun _ => True)) (by (with_reducible repeat (first | apply Kd.R_alloc | apply Kd.R_drewN | apply Kd.R_drew)); exact HO132.out) hg hat); have n3_ := Aside0.mk (hb); have n4_ := Aside0.mk (ho); clear BK120; clear BK121; clear HO132; clear HB; clear HO138; have BK120 := n0_; have BK121 := n1_; have HO132 := n2_; have HB := n3_; have HO141 := n4_; clear n0_ n1_ n2_ n3_ n4_; clear ho hb hg hat; have hcz44_0 : w43.cell? ⟨gb121, 0, none⟩ = some (.int .i64 a2_0) := (blk_cell BK121.out 0).trans rfl; have hcz44_1 : w43.cell? ⟨gb121, 1, none⟩ = some (.int .i64 a2_1) := (blk_cell BK121.out 1).trans rfl; have hcz44_2 : w43.cell? ⟨gb121, 2, none⟩ = some (.int .i64 a2_2) := (blk_cell BK121.out 2).trans rfl; have hfz44_0 := blk_frozen BK121.out 0; have hfz44_1 := blk_frozen BK121.out 1; have hfz44_2 := blk_frozen BK121.out 2) | ((with_reducible refine gate_callee (f := 13) rfl ?_); refine goesL_ (some 56) rfl rfl Tryd.func13 (by kernel_rfl) rfl #[.agg #[.int .i64 a2_0, .int .i64 a2_1, .int .i64 a2_2]] rfl (by (try simp only [List.map_toArray, List.map_cons, List.map_nil]); first | done | rfl | (simp only [List.length_drop, List.length_take]; rfl)) ?_; (with_reducible refine (remoralaw11_Of.calls a2_0 a2_1 a2_2 t142 t143 t144 _ A28.out).mono ?_); clear A28; rintro e w45 ⟨rfl, hb⟩; refine ⟨_, rfl, ?_⟩; have n0_ := Aside0.mk (Kd.R_below (by (with_reducible repeat (first | apply Kd.R_alloc | apply Kd.R_drewN | apply Kd.R_drew)); exact HO132.out) hb); have n1_ := Aside0.mk (Kd.R_below (by (with_reducible repeat (first | apply Kd.R_alloc | apply Kd.R_drewN | apply Kd.R_drew)); exact HO141.out) hb); have n2_ := Aside0.mk (blk_below (g := gb120) (o := .cells #[.slice A0_0 l0_0.length c0_0, .slice A0_1 l0_1.length c0_1] 37 (0, 0)) (by (with_reducible repeat (first | refine blk_drewN ?_ _ | refine blk_drew ?_ | refine blk_alloc ?_ _)); exact BK120.out) hb); have n3_ := Aside0.mk (blk_below (g := gb121) (o := .cells #[.int .i64 a2_0, .int .i64 a2_1, .int .i64 a2_2] 23 (0, 0)) (by (with_reducible repeat (first | refine blk_drewN ?_ _ | refine blk_drew ?_ | refine blk_alloc ?_ _)); exact BK121.out) hb); have n4_ := Aside0.mk (below_step (by repeat (first | (with_reducible first | exact HB.out | apply below_alloc | apply pw_below_drewN | apply below_drew1 | refine below_set ?_ GE120.out | refine below_set ?_ GE121.out) | exact HB.out)) hb); clear HO132; clear HO141; clear BK120; clear BK121; clear HB; have HO132 := n0_; have HO141 := n1_; have BK120 := n2_; have BK121 := n3_; have HB := n4_; clear n0_ n1_ n2_ n3_ n4_; (try clear hb); (try clear hb2); (try clear hk); (try clear hi); obtain ⟨Ao46, co46, eo46⟩ := Kd.R_slice HO132.out; subst eo46) | ((with_reducible refine gate_callee (f := 18) rfl ?_); refine goesL_ (some 57) rfl rfl Tryd.func18 (by kernel_rfl) rfl #[.slice Ao46 y130.length co46, .agg #[.int .i64 t142, .int .i64 t143, .int .i64 t144]] rfl (by (try simp only [List.map_toArray, List.map_cons, List.map_nil]); first | done | rfl | (simp only [List.length_drop, List.length_take]; rfl)) ?_; (with_reducible refine (gear_Cuts.calls kj3 _ _ y130 t142 t143 t144 t145 t148 _ ?side1 ?side2 A29.out ?sideG).mono ?_); (case sideG => first | exact hG.below (by repeat (first | (with_reducible first | exact HB.out | apply below_alloc | apply pw_below_drewN | apply below_drew1) | exact HB.out | exact Below.refl _ _)) | exact hG); (case side1 => repeat (first | exact (Kd.R_reads' HO132.out).2.2 | (with_reducible refine Kd.C_alloc ?_ _) | (with_reducible refine Kd.C_drewN ?_ _) | (with_reducible refine Kd.C_drew ?_))); (case side2 => exact (Kd.R_reads' HO132.out).2.1); rintro e w47 ⟨v146, rfl, ho0, hb⟩; refine ⟨_, rfl, ?_⟩; have n0_ := Aside0.mk (Kd.R_below (by (with_reducible repeat (first | apply Kd.R_alloc | apply Kd.R_drewN | apply Kd.R_drew)); exact HO132.out) hb); have n1_ := Aside0.mk (Kd.R_below (by (with_reducible repeat (first | apply Kd.R_alloc | apply Kd.R_drewN | apply Kd.R_drew)); exact HO141.out) hb); have n2_ := Aside0.mk (Kd.R_lower ho0 (below_size (by repeat (first | (with_reducible first | exact HB.out | apply below_alloc | apply pw_below_drewN | apply below_drew1 | refine below_set ?_ GE120.out | refine below_set ?_ GE121.out) | exact HB.out)))); have n3_ := Aside0.mk (blk_below (g := gb120) (o := .cells #[.slice A0_0 l0_0.length c0_0, .slice A0_1 l0_1.length c0_1] 37 (0, 0)) (by (with_reducible repeat (first | refine blk_drewN ?_ _ | refine blk_drew ?_ | refine blk_alloc ?_ _)); exact BK120.out) hb); have n4_ := Aside0.mk (blk_below (g := gb121) (o := .cells #[.int .i64 a2_0, .int .i64 a2_1, .int .i64 a2_2] 23 (0, 0)) (by (with_reducible repeat (first | refine blk_drewN ?_ _ | refine blk_drew ?_ | refine blk_alloc ?_ _)); exact BK121.out) hb); have n5_ := Aside0.mk (below_step (by repeat (first | (with_reducible first | exact HB.out | apply below_alloc | apply pw_below_drewN | apply below_drew1 | refine below_set ?_ GE120.out | refine below_set ?_ GE121.out) | exact HB.out)) hb); clear HO132; clear HO141; clear BK120; clear BK121; clear HB; have HO132 := n0_; have HO141 := n1_; have HO147 := n2_; have BK120 := n3_; have BK121 := n4_; have HB := n5_; clear n0_ n1_ n2_ n3_ n4_ n5_; (try clear hb); (try clear hb2); (try clear hk); (try clear hi); (try clear ho0); have hcz48_0 : w47.cell? ⟨gb121, 0, none⟩ = some (.int .i64 a2_0) := (blk_cell BK121.out 0).trans rfl; have hcz48_1 : w47.cell? ⟨gb121, 1, none⟩ = some (.int .i64 a2_1) := (blk_cell BK121.out 1).trans rfl; have hcz48_2 : w47.cell? ⟨gb121, 2, none⟩ = some (.int .i64 a2_2) := (blk_cell BK121.out 2).trans rfl; have hfz48_0 := blk_frozen BK121.out 0; have hfz48_1 := blk_frozen BK121.out 1; have hfz48_2 := blk_frozen BK121.out 2) | ((with_reducible refine gate_callee (f := 13) rfl ?_); refine goesL_ (some 63) rfl rfl Tryd.func13 (by kernel_rfl) rfl #[.agg #[.int .i64 a2_0, .int .i64 a2_1, .int .i64 a2_2]] rfl (by (try simp only [List.map_toArray, List.map_cons, List.map_nil]); first | done | rfl | (simp only [List.length_drop, List.length_take]; rfl)) ?_; (with_reducible refine (remoralaw11_Of.calls a2_0 a2_1 a2_2 t142 t143 t144 _ A30.out).mono ?_); rintro e w49 ⟨rfl, hb⟩; refine ⟨_, rfl, ?_⟩; have n0_ := Aside0.mk (Kd.R_below (by (with_reducible repeat (first | apply Kd.R_alloc | apply Kd.R_drewN | apply Kd.R_drew)); exact HO132.out) hb); have n1_ := Aside0.mk (Kd.R_below (by (with_reducible repeat (first | apply Kd.R_alloc | apply Kd.R_drewN | apply Kd.R_drew)); exact HO141.out) hb); have n2_ := Aside0.mk (Kd.R_below (by (with_reducible repeat (first | apply Kd.R_alloc | apply Kd.R_drewN | apply Kd.R_drew)); exact HO147.out) hb); have n3_ := Aside0.mk (blk_below (g := gb120) (o := .cells #[.slice A0_0 l0_0.length c0_0, .slice A0_1 l0_1.length c0_1] 37 (0, 0)) (by (with_reducible repeat (first | refine blk_drewN ?_ _ | refine blk_drew ?_ | refine blk_alloc ?_ _)); exact BK120.out) hb); have n4_ := Aside0.mk (blk_below (g := gb121) (o := .cells #[.int .i64 a2_0, .int .i64 a2_1, .int .i64 a2_2] 23 (0, 0)) (by (with_reducible repeat (first | refine blk_drewN ?_ _ | refine blk_drew ?_ | refine blk_alloc ?_ _)); exact BK121.out) hb); have n5_ := Aside0.mk (below_step (by repeat (first | (with_reducible first | exact HB.out | apply below_alloc | apply pw_below_drewN | apply below_drew1 | refine below_set ?_ GE120.out | refine below_set ?_ GE121.out) | exact HB.out)) hb); clear HO132; clear HO141; clear HO147; clear BK120; clear BK121; clear HB; have HO132 := n0_; have HO141 := n1_; have HO147 := n2_; have BK120 := n3_; have BK121 := n4_; have HB := n5_; clear n0_ n1_ n2_ n3_ n4_ n5_; (try clear hb); (try clear hb2); (try clear hk); (try clear hi); obtain ⟨Ao50, co50, eo50⟩ := Kd.R_slice HO141.out; subst eo50) | ((with_reducible refine gate_callee (f := 18) rfl ?_); refine goesL_ (some 64) rfl rfl Tryd.func18 (by kernel_rfl) rfl #[.slice Ao50 y139.length co50, .agg #[.int .i64 t142, .int .i64 t143, .int .i64 t144]] rfl (by (try simp only [List.map_toArray, List.map_cons, List.map_nil]); first | done | rfl | (simp only [List.length_drop, List.length_take]; rfl)) ?_; (with_reducible refine (gear_Cuts.calls kj3 _ _ y139 t142 t143 t144 t152 t155 _ ?side1 ?side2 A31.out ?sideG).mono ?_); (case sideG => first | exact hG.below (by repeat (first | (with_reducible first | exact HB.out | apply below_alloc | apply pw_below_drewN | apply below_drew1) | exact HB.out | exact Below.refl _ _)) | exact hG); (case side1 => repeat (first | exact (Kd.R_reads' HO141.out).2.2 | (with_reducible refine Kd.C_alloc ?_ _) | (with_reducible refine Kd.C_drewN ?_ _) | (with_reducible refine Kd.C_drew ?_))); (case side2 => exact (Kd.R_reads' HO141.out).2.1); rintro e w51 ⟨v153, rfl, ho0, hb⟩; refine ⟨_, rfl, ?_⟩; have n0_ := Aside0.mk (Kd.R_below (by (with_reducible repeat (first | apply Kd.R_alloc | apply Kd.R_drewN | apply Kd.R_drew)); exact HO132.out) hb); have n1_ := Aside0.mk (Kd.R_below (by (with_reducible repeat (first | apply Kd.R_alloc | apply Kd.R_drewN | apply Kd.R_drew)); exact HO141.out) hb); have n2_ := Aside0.mk (Kd.R_elder' (by (with_reducible repeat (first | apply Kd.R_alloc | apply Kd.R_drewN | apply Kd.R_drew)); exact HO147.out) (Kd.R_base ho0) hb); have n3_ := Aside0.mk (Kd.R_lower (Kd.R_new' ho0 (Kd.R_lt (by (with_reducible repeat (first | apply Kd.R_alloc | apply Kd.R_drewN | apply Kd.R_drew)); exact HO147.out))) (below_size (by repeat (first | (with_reducible first | exact HB.out | apply below_alloc | apply pw_below_drewN | apply below_drew1 | refine below_set ?_ GE120.out | refine below_set ?_ GE121.out) | exact HB.out)))); have n4_ := Aside0.mk (blk_below (g := gb120) (o := .cells #[.slice A0_0 l0_0.length c0_0, .slice A0_1 l0_1.length c0_1] 37 (0, 0)) (by (with_reducible repeat (first | refine blk_drewN ?_ _ | refine blk_drew ?_ | refine blk_alloc ?_ _)); exact BK120.out) hb); have n5_ := Aside0.mk (blk_below (g := gb121) (o := .cells #[.int .i64 a2_0, .int .i64 a2_1, .int .i64 a2_2] 23 (0, 0)) (by (with_reducible repeat (first | refine blk_drewN ?_ _ | refine blk_drew ?_ | refine blk_alloc ?_ _)); exact BK121.out) hb); have n6_ := Aside0.mk (below_step (by repeat (first | (with_reducible first | exact HB.out | apply below_alloc | apply pw_below_drewN | apply below_drew1 | refine below_set ?_ GE120.out | refine below_set ?_ GE121.out) | exact HB.out)) hb); clear HO132; clear HO141; clear HO147; clear BK120; clear BK121; clear HB; have HO132 := n0_; have HO141 := n1_; have HO147 := n2_; have HO154 := n3_; have BK120 := n4_; have BK121 := n5_; have HB := n6_; clear n0_ n1_ n2_ n3_ n4_ n5_ n6_; (try clear hb); (try clear hb2); (try clear hk); (try clear hi); (try clear ho0)))
                (try simp only [Act.put, List.setIfInBounds_toArray, List.set_cons_zero, List.set_cons_succ])
                go_cut [72] (fun v72 wc => ∃ (kq : Nat) (x72_31 : Bool), v72 = .bool x72_31 ∧ Aside0 (remoralaw11_GearSame.j1 kq y130 t145 t152 x72_31 l0_0 l0_1 a2_0 a2_1 a2_2 = some r) ∧ Aside0 (kq ≤ kj3) ∧ Aside0 (Kd.R (Kd.int .u8) 5 wc w.heap.size (fun _ => True) (.slice Ao46 y130.length co46) y130) ∧ Aside0 (Kd.R (Kd.int .i64) 3 wc w.heap.size (fun k_ => some k_ ≠ (v153 : Value).ownBlock) v146 t145) ∧ Aside0 (Kd.R (Kd.int .i64) 3 wc w.heap.size (fun k_ => some k_ ≠ (v146 : Value).ownBlock) v153 t152) ∧ Aside0 (wc.heap[gb120]? = some (.cells #[(.slice A0_0 l0_0.length c0_0), (.slice A0_1 l0_1.length c0_1)] 37 (0, 0))) ∧ Aside0 (wc.heap[gb121]? = some (.cells #[.int .i64 a2_0, .int .i64 a2_1, .int .i64 a2_2] 23 (0, 0))) ∧ Aside0 (Below w.heap.size w wc))
                case first =>
                  have H := HC32.out
                  clear HC32
                  by_cases c52 : t148 = 0
                  · rw [if_pos c52] at H
                    have c52b0 : (t148 == 0) = true := beq_iff_eq.mpr c52
                    have c52b1 : (t148 != 0) = false := bne_eq_false_iff_eq.mpr c52
                    clear c52
                    (first | rw [c52b0] | (simp only [i64_w, i32_w]; rw [c52b0]) | skip)
                    have H' := Aside0.mk H
                    clear H
                    go_wp2
                    go_meet
                    case rel => exact ⟨_, ((t155 != 0)), (by first | rfl | (simp; done) | (simp [*]; done)), H', ⟨by have := HJ3.out; first | omega | exact Nat.le_refl _⟩, ⟨by (with_reducible repeat (first | apply Kd.R_alloc | apply Kd.R_drewN | apply Kd.R_drew)); exact Kd.R_mono HO132.out (fun _ hk => trivial)⟩, ⟨by (with_reducible repeat (first | apply Kd.R_alloc | apply Kd.R_drewN | apply Kd.R_drew)); exact Kd.R_mono HO147.out (fun _ hk => hk.2)⟩, ⟨by (with_reducible repeat (first | apply Kd.R_alloc | apply Kd.R_drewN | apply Kd.R_drew)); exact Kd.R_mono HO154.out (fun _ hk => hk.2)⟩, ⟨by (with_reducible repeat (first | refine blk_drewN ?_ _ | refine blk_drew ?_ | refine blk_alloc ?_ _)); exact BK120.out⟩, ⟨by (with_reducible repeat (first | refine blk_drewN ?_ _ | refine blk_drew ?_ | refine blk_alloc ?_ _)); exact BK121.out⟩, ⟨by repeat (first | (with_reducible first | exact HB.out | apply below_alloc | apply pw_below_drewN | apply below_drew1 | refine below_set ?_ GE120.out | refine below_set ?_ GE121.out) | exact HB.out)⟩⟩
                  · rw [if_neg c52] at H
                    have c52b0 : (t148 == 0) = false := beq_eq_false_iff_ne.mpr c52
                    have c52b1 : (t148 != 0) = true := bne_iff_ne.mpr c52
                    (first | rw [c52b0] | (simp only [i64_w, i32_w]; rw [c52b0]) | skip)
                    have H' := Aside0.mk H
                    clear H
                    go_wp2
                    go_meet
                    case rel => exact ⟨_, (true), (by first | rfl | (simp; done) | (simp [*]; done)), H', ⟨by have := HJ3.out; first | omega | exact Nat.le_refl _⟩, ⟨by (with_reducible repeat (first | apply Kd.R_alloc | apply Kd.R_drewN | apply Kd.R_drew)); exact Kd.R_mono HO132.out (fun _ hk => trivial)⟩, ⟨by (with_reducible repeat (first | apply Kd.R_alloc | apply Kd.R_drewN | apply Kd.R_drew)); exact Kd.R_mono HO147.out (fun _ hk => hk.2)⟩, ⟨by (with_reducible repeat (first | apply Kd.R_alloc | apply Kd.R_drewN | apply Kd.R_drew)); exact Kd.R_mono HO154.out (fun _ hk => hk.2)⟩, ⟨by (with_reducible repeat (first | refine blk_drewN ?_ _ | refine blk_drew ?_ | refine blk_alloc ?_ _)); exact BK120.out⟩, ⟨by (with_reducible repeat (first | refine blk_drewN ?_ _ | refine blk_drew ?_ | refine blk_alloc ?_ _)); exact BK121.out⟩, ⟨by repeat (first | (with_reducible first | exact HB.out | apply below_alloc | apply pw_below_drewN | apply below_drew1 | refine below_set ?_ GE120.out | refine below_set ?_ GE121.out) | exact HB.out)⟩⟩
                case rest =>
                  clear HC32
                  try clear c1
                  try clear c2
                  try clear p2
                  try clear c3
                  try clear c5
                  try clear c7
                  try clear c7b0
                  try clear c7b1
                  try clear c8
                  try clear c10
                  try clear c10b0
                  try clear c10b1
                  try clear c11
                  try clear c13
                  try clear c13b0
                  try clear c13b1
                  try clear c14
                  try clear c15
                  try clear c17
                  try clear c18
                  try clear c21
                  try clear c24
                  try clear c25
                  try clear c26
                  try clear c27
                  try clear c35
                  try clear c52
                  try clear c52b0
                  try clear c52b1
                  try clear hcz12_0
                  try clear hcz12_1
                  try clear hcz15_0
                  try clear hcz15_1
                  try clear hcz18_0
                  try clear hcz18_1
                  try clear hcz19_0
                  try clear hcz19_1
                  try clear hcz19_2
                  try clear hcz36_0
                  try clear hcz36_1
                  try clear hcz41_0
                  try clear hcz41_1
                  try clear hcz44_0
                  try clear hcz44_1
                  try clear hcz44_2
                  try clear hcz48_0
                  try clear hcz48_1
                  try clear hcz48_2
                  try clear hcz9_0
                  try clear hcz9_1
                  try clear hfz12_0
                  try clear hfz12_1
                  try clear hfz15_0
                  try clear hfz15_1
                  try clear hfz18_0
                  try clear hfz18_1
                  try clear hfz19_0
                  try clear hfz19_1
                  try clear hfz19_2
                  try clear hfz36_0
                  try clear hfz36_1
                  try clear hfz41_0
                  try clear hfz41_1
                  try clear hfz44_0
                  try clear hfz44_1
                  try clear hfz44_2
                  try clear hfz48_0
                  try clear hfz48_1
                  try clear hfz48_2
                  try clear hfz9_0
                  try clear hfz9_1
                  try clear p2
                  obtain ⟨kq, x72_31, rfl, HA, HJ31, HO_7, HO_9, HO_11, BK120, BK121, HB⟩ := hcut
                  cases kq with
                  | zero => exact absurd HA.out (by simp [remoralaw11_GearSame.j1])
                  | succ kj31 =>
                    have H := HA.out
                    clear HA
                    simp only [remoralaw11_GearSame.j1] at H
                    by_cases c53 : x72_31 = true
                    · subst c53
                      have H1 : (some false) = some r := by rw [if_pos rfl] at H; exact H
                      clear H
                      have H := H1
                      clear H1
                      obtain rfl := Option.some.inj H
                      go_wp2
                      go_ret
                      exact ⟨by first | rfl | (simp [errW_none, errW_some] <;> rfl) | (simp [*, errW_none, errW_some] <;> rfl), by repeat (first | (with_reducible first | exact HB.out | apply below_alloc | apply pw_below_drewN | apply below_drew1 | refine below_set ?_ GE120.out | refine below_set ?_ GE121.out) | exact HB.out)⟩
                    · replace c53 := Bool.eq_false_iff.mpr c53
                      subst c53
                      have H1 : (remoralaw11_GearSame.l0 kj31 y130 t145 t152 0 l0_0 l0_1 a2_0 a2_1 a2_2) = some r := by rw [if_neg (show ¬ (false = true) by decide)] at H; exact H
                      clear H
                      have H := H1
                      clear H1
                      have H' := Aside0.mk H
                      clear H
                      go_wp2
                      go_loopg [13] kj31 (fun kq v13 w' => ∃ (x13_3 : Int), v13 = .int .i64 x13_3 ∧ Aside0 (remoralaw11_GearSame.l0 kq y130 t145 t152 x13_3 l0_0 l0_1 a2_0 a2_1 a2_2 = some r) ∧ Aside0 (kq ≤ kj31) ∧ Aside0 (Kd.R (Kd.int .u8) 5 w' w.heap.size (fun _ => True) (.slice Ao46 y130.length co46) y130) ∧ Aside0 (Kd.R (Kd.int .i64) 3 w' w.heap.size (fun k_ => some k_ ≠ (v153 : Value).ownBlock) v146 t145) ∧ Aside0 (Kd.R (Kd.int .i64) 3 w' w.heap.size (fun k_ => some k_ ≠ (v146 : Value).ownBlock) v153 t152) ∧ Aside0 (w'.heap[gb120]? = some (.cells #[(.slice A0_0 l0_0.length c0_0), (.slice A0_1 l0_1.length c0_1)] 37 (0, 0))) ∧ Aside0 (w'.heap[gb121]? = some (.cells #[.int .i64 a2_0, .int .i64 a2_1, .int .i64 a2_2] 23 (0, 0))) ∧ Aside0 (Below w.heap.size w w'))
                      case atStart => exact ⟨(0), (by first | rfl | (simp; done) | (simp [*]; done)), H', ⟨Nat.le_refl _⟩, ⟨by (with_reducible repeat (first | apply Kd.R_alloc | apply Kd.R_drewN | apply Kd.R_drew)); exact HO_7.out⟩, ⟨by (with_reducible repeat (first | apply Kd.R_alloc | apply Kd.R_drewN | apply Kd.R_drew)); exact HO_9.out⟩, ⟨by (with_reducible repeat (first | apply Kd.R_alloc | apply Kd.R_drewN | apply Kd.R_drew)); exact HO_11.out⟩, ⟨by (with_reducible repeat (first | refine blk_drewN ?_ _ | refine blk_drew ?_ | refine blk_alloc ?_ _)); exact BK120.out⟩, ⟨by (with_reducible repeat (first | refine blk_drewN ?_ _ | refine blk_drew ?_ | refine blk_alloc ?_ _)); exact BK121.out⟩, ⟨by repeat (first | (with_reducible first | exact HB.out | apply below_alloc | apply pw_below_drewN | apply below_drew1 | refine below_set ?_ GE120.out | refine below_set ?_ GE121.out) | exact HB.out)⟩⟩
                      case round =>
                        clear H'
                        try clear c1
                        try clear c2
                        try clear p2
                        try clear c3
                        try clear c5
                        try clear c7
                        try clear c7b0
                        try clear c7b1
                        try clear c8
                        try clear c10
                        try clear c10b0
                        try clear c10b1
                        try clear c11
                        try clear c13
                        try clear c13b0
                        try clear c13b1
                        try clear c14
                        try clear c15
                        try clear c17
                        try clear c18
                        try clear c21
                        try clear c24
                        try clear c25
                        try clear c26
                        try clear c27
                        try clear c35
                        try clear c52
                        try clear c52b0
                        try clear c52b1
                        try clear c53
                        try clear hcz12_0
                        try clear hcz12_1
                        try clear hcz15_0
                        try clear hcz15_1
                        try clear hcz18_0
                        try clear hcz18_1
                        try clear hcz19_0
                        try clear hcz19_1
                        try clear hcz19_2
                        try clear hcz36_0
                        try clear hcz36_1
                        try clear hcz41_0
                        try clear hcz41_1
                        try clear hcz44_0
                        try clear hcz44_1
                        try clear hcz44_2
                        try clear hcz48_0
                        try clear hcz48_1
                        try clear hcz48_2
                        try clear hcz9_0
                        try clear hcz9_1
                        try clear hfz12_0
                        try clear hfz12_1
                        try clear hfz15_0
                        try clear hfz15_1
                        try clear hfz18_0
                        try clear hfz18_1
                        try clear hfz19_0
                        try clear hfz19_1
                        try clear hfz19_2
                        try clear hfz36_0
                        try clear hfz36_1
                        try clear hfz41_0
                        try clear hfz41_1
                        try clear hfz44_0
                        try clear hfz44_1
                        try clear hfz44_2
                        try clear hfz48_0
                        try clear hfz48_1
                        try clear hfz48_2
                        try clear hfz9_0
                        try clear hfz9_1
                        try clear p2
                        obtain ⟨x13_3, rfl, HA, HK3, HO_7, HO_9, HO_11, BK120, BK121, HB⟩ := hrel
                        cases gk with
                        | zero => exact absurd HA.out (by simp [remoralaw11_GearSame.l0])
                        | succ k3 =>
                          have H := HA.out
                          clear HA
                          simp only [remoralaw11_GearSame.l0] at H
                          by_cases c54 : x13_3 < (t145.length : Int)
                          · rw [if_pos c54] at H
                            have c54b0 : decide (x13_3 < (t145.length : Int)) = true := decide_eq_true c54
                            clear c54
                            have HC55 := Aside0.mk H
                            clear H
                            obtain ⟨Ao56, co56, eo56⟩ := Kd.R_slice HO_9.out
                            subst eo56
                            go_upto_region 12 with (fail)
                            go_cut [92] (fun v92 wc => ∃ (kq : Nat) (x92_54 : Bool), v92 = .bool x92_54 ∧ Aside0 (remoralaw11_GearSame.j3 kq y130 t145 t152 x13_3 x92_54 l0_0 l0_1 a2_0 a2_1 a2_2 = some r) ∧ Aside0 (kq ≤ k3) ∧ Aside0 (Kd.R (Kd.int .u8) 5 wc w.heap.size (fun _ => True) (.slice Ao46 y130.length co46) y130) ∧ Aside0 (Kd.R (Kd.int .i64) 3 wc w.heap.size (fun k_ => some k_ ≠ (v153 : Value).ownBlock) (.slice Ao56 t145.length co56) t145) ∧ Aside0 (Kd.R (Kd.int .i64) 3 wc w.heap.size (fun k_ => some k_ ≠ ((.slice Ao56 t145.length co56) : Value).ownBlock) v153 t152) ∧ Aside0 (wc.heap[gb120]? = some (.cells #[(.slice A0_0 l0_0.length c0_0), (.slice A0_1 l0_1.length c0_1)] 37 (0, 0))) ∧ Aside0 (wc.heap[gb121]? = some (.cells #[.int .i64 a2_0, .int .i64 a2_1, .int .i64 a2_2] 23 (0, 0))) ∧ Aside0 (Below w.heap.size w wc))
                            case first =>
                              have H := HC55.out
                              clear HC55
                              by_cases c57 : 0 ≤ x13_3
                              · rw [if_pos c57] at H
                                have c57b0 : decide (0 ≤ x13_3) = true := decide_eq_true c57
                                clear c57
                                (first | rw [c57b0] | (simp only [i64_w, i32_w]; rw [c57b0]) | skip)
                                by_cases c58 : (rd t145 x13_3) < 0
                                · rw [if_pos c58] at H
                                  have c58b0 : decide ((rd t145 x13_3) < 0) = true := decide_eq_true c58
                                  clear c58
                                  have H' := Aside0.mk H
                                  clear H
                                  have p156 : 0 ≤ (x13_3 : Int) := of_decide_eq_true (by first | (with_reducible assumption) | assumption)
                                  have q156 : x13_3 < (t145.length : Int) := of_decide_eq_true (by first | (with_reducible assumption) | assumption)
                                  obtain ⟨ad156, e156, hx156_0⟩ := Kd.at_int (Kd.R_reads' HO_9.out).2.2 x13_3 p156 q156
                                  cases e156
                                  replace p156 := eq_true p156
                                  replace q156 := eq_true q156
                                  go_wp2
                                  go_meet
                                  case rel => exact ⟨_, (true), (by first | rfl | (simp; done) | (simp [*]; done)), H', ⟨by have := HJ3.out; have := HJ31.out; have := HK3.out; first | omega | exact Nat.le_refl _⟩, ⟨by (with_reducible repeat (first | apply Kd.R_alloc | apply Kd.R_drewN | apply Kd.R_drew)); exact HO_7.out⟩, ⟨by (with_reducible repeat (first | apply Kd.R_alloc | apply Kd.R_drewN | apply Kd.R_drew)); exact HO_9.out⟩, ⟨by (with_reducible repeat (first | apply Kd.R_alloc | apply Kd.R_drewN | apply Kd.R_drew)); exact HO_11.out⟩, ⟨by (with_reducible repeat (first | refine blk_drewN ?_ _ | refine blk_drew ?_ | refine blk_alloc ?_ _)); exact BK120.out⟩, ⟨by (with_reducible repeat (first | refine blk_drewN ?_ _ | refine blk_drew ?_ | refine blk_alloc ?_ _)); exact BK121.out⟩, ⟨by repeat (first | (with_reducible first | exact HB.out | apply below_alloc | apply pw_below_drewN | apply below_drew1 | refine below_set ?_ GE120.out | refine below_set ?_ GE121.out) | exact HB.out)⟩⟩
                                · rw [if_neg c58] at H
                                  have c58b0 : decide ((rd t145 x13_3) < 0) = false := decide_eq_false c58
                                  clear c58
                                  have H' := Aside0.mk H
                                  clear H
                                  have p156 : 0 ≤ (x13_3 : Int) := of_decide_eq_true (by first | (with_reducible assumption) | assumption)
                                  have q156 : x13_3 < (t145.length : Int) := of_decide_eq_true (by first | (with_reducible assumption) | assumption)
                                  obtain ⟨ad156, e156, hx156_0⟩ := Kd.at_int (Kd.R_reads' HO_9.out).2.2 x13_3 p156 q156
                                  cases e156
                                  replace p156 := eq_true p156
                                  replace q156 := eq_true q156
                                  have p157 : 0 ≤ (x13_3 : Int) := of_decide_eq_true (by first | (with_reducible assumption) | assumption)
                                  have q157 : x13_3 < (t145.length : Int) := of_decide_eq_true (by first | (with_reducible assumption) | assumption)
                                  obtain ⟨ad157, e157, hx157_0⟩ := Kd.at_int (Kd.R_reads' HO_9.out).2.2 x13_3 p157 q157
                                  obtain rfl : ad156 = ad157 := (by injection e157)
                                  replace p157 := eq_true p157
                                  replace q157 := eq_true q157
                                  go_wp2
                                  go_meet
                                  case rel => exact ⟨_, (decide ((rd t145 x13_3) > (y130.length : Int))), (by first | rfl | (simp; done) | (simp [*]; done)), H', ⟨by have := HJ3.out; have := HJ31.out; have := HK3.out; first | omega | exact Nat.le_refl _⟩, ⟨by (with_reducible repeat (first | apply Kd.R_alloc | apply Kd.R_drewN | apply Kd.R_drew)); exact HO_7.out⟩, ⟨by (with_reducible repeat (first | apply Kd.R_alloc | apply Kd.R_drewN | apply Kd.R_drew)); exact HO_9.out⟩, ⟨by (with_reducible repeat (first | apply Kd.R_alloc | apply Kd.R_drewN | apply Kd.R_drew)); exact HO_11.out⟩, ⟨by (with_reducible repeat (first | refine blk_drewN ?_ _ | refine blk_drew ?_ | refine blk_alloc ?_ _)); exact BK120.out⟩, ⟨by (with_reducible repeat (first | refine blk_drewN ?_ _ | refine blk_drew ?_ | refine blk_alloc ?_ _)); exact BK121.out⟩, ⟨by repeat (first | (with_reducible first | exact HB.out | apply below_alloc | apply pw_below_drewN | apply below_drew1 | refine below_set ?_ GE120.out | refine below_set ?_ GE121.out) | exact HB.out)⟩⟩
                              · rw [if_neg c57] at H
                                exact absurd H (by simp)
                            case rest =>
                              clear HC55
                              try clear c1
                              try clear p1
                              try clear q1
                              try clear hx1
                              try clear c2
                              try clear p2
                              try clear c3
                              try clear c5
                              try clear c7
                              try clear c7b0
                              try clear c7b1
                              try clear c8
                              try clear c10
                              try clear c10b0
                              try clear c10b1
                              try clear c11
                              try clear c13
                              try clear c13b0
                              try clear c13b1
                              try clear c14
                              try clear c15
                              try clear p15
                              try clear q15
                              try clear hx15
                              try clear c17
                              try clear c18
                              try clear c21
                              try clear c24
                              try clear c25
                              try clear c26
                              try clear c27
                              try clear c35
                              try clear c52
                              try clear c52b0
                              try clear c52b1
                              try clear c53
                              try clear c54
                              try clear c54b0
                              try clear c57
                              try clear c57b0
                              try clear c58
                              try clear c58b0
                              try clear hcz12_0
                              try clear hcz12_1
                              try clear hcz15_0
                              try clear hcz15_1
                              try clear hcz18_0
                              try clear hcz18_1
                              try clear hcz19_0
                              try clear hcz19_1
                              try clear hcz19_2
                              try clear hcz36_0
                              try clear hcz36_1
                              try clear hcz41_0
                              try clear hcz41_1
                              try clear hcz44_0
                              try clear hcz44_1
                              try clear hcz44_2
                              try clear hcz48_0
                              try clear hcz48_1
                              try clear hcz48_2
                              try clear hcz9_0
                              try clear hcz9_1
                              try clear hfz12_0
                              try clear hfz12_1
                              try clear hfz15_0
                              try clear hfz15_1
                              try clear hfz18_0
                              try clear hfz18_1
                              try clear hfz19_0
                              try clear hfz19_1
                              try clear hfz19_2
                              try clear hfz36_0
                              try clear hfz36_1
                              try clear hfz41_0
                              try clear hfz41_1
                              try clear hfz44_0
                              try clear hfz44_1
                              try clear hfz44_2
                              try clear hfz48_0
                              try clear hfz48_1
                              try clear hfz48_2
                              try clear hfz9_0
                              try clear hfz9_1
                              try clear hx156_0
                              try clear hx157_0
                              try clear p156
                              try clear p157
                              try clear p2
                              try clear q156
                              try clear q157
                              obtain ⟨kq, x92_54, rfl, HA, HJ54, HO_7, HO_9, HO_11, BK120, BK121, HB⟩ := hcut
                              cases kq with
                              | zero => exact absurd HA.out (by simp [remoralaw11_GearSame.j3])
                              | succ kj54 =>
                                have H := HA.out
                                clear HA
                                simp only [remoralaw11_GearSame.j3] at H
                                by_cases c59 : x92_54 = true
                                · subst c59
                                  have H1 : (some false) = some r := by rw [if_pos rfl] at H; exact H
                                  clear H
                                  have H := H1
                                  clear H1
                                  obtain rfl := Option.some.inj H
                                  go_wp2
                                  go_ret
                                  exact ⟨by first | rfl | (simp [errW_none, errW_some] <;> rfl) | (simp [*, errW_none, errW_some] <;> rfl), by repeat (first | (with_reducible first | exact HB.out | apply below_alloc | apply pw_below_drewN | apply below_drew1 | refine below_set ?_ GE120.out | refine below_set ?_ GE121.out) | exact HB.out)⟩
                                · replace c59 := Bool.eq_false_iff.mpr c59
                                  subst c59
                                  have H1 : (if 0 ≤ x13_3 then (if x13_3 < (t145.length : Int) then (if 0 ≤ (rd t145 x13_3) then (if (rd t145 x13_3) ≤ (y130.length : Int) then ((remoralaw11_Of.f a2_0 a2_1 a2_2).bind fun bt163 => ((gear_Cuts.f kj54 (y130.drop ((rd t145 x13_3) : Int).toNat) bt163.1 bt163.2.1 bt163.2.2).bind fun bt166 => (if bt166.2 = 0 then (remoralaw11_GearSame.j4 kj54 y130 t145 t152 x13_3 bt166.1 ((bt166.1.length : Int) != (wrap64 ((wrap64 ((t145.length : Int) - x13_3)) - 1))) l0_0 l0_1 a2_0 a2_1 a2_2) else (remoralaw11_GearSame.j4 kj54 y130 t145 t152 x13_3 bt166.1 true l0_0 l0_1 a2_0 a2_1 a2_2)))) else (none)) else (none)) else (none)) else (none)) = some r := by rw [if_neg (show ¬ (false = true) by decide)] at H; exact H
                                  clear H
                                  have H := H1
                                  clear H1
                                  by_cases c60 : 0 ≤ x13_3
                                  · rw [if_pos c60] at H
                                    have c60b0 : decide (0 ≤ x13_3) = true := decide_eq_true c60
                                    clear c60
                                    by_cases c61 : x13_3 < (t145.length : Int)
                                    · rw [if_pos c61] at H
                                      have c61b0 : decide (x13_3 < (t145.length : Int)) = true := decide_eq_true c61
                                      clear c61
                                      by_cases c62 : 0 ≤ (rd t145 x13_3)
                                      · rw [if_pos c62] at H
                                        have c62b0 := eq_true c62
                                        have c62b1 : decide (0 ≤ (rd t145 x13_3)) = true := decide_eq_true c62
                                        clear c62
                                        by_cases c63 : (rd t145 x13_3) ≤ (y130.length : Int)
                                        · rw [if_pos c63] at H
                                          have c63b0 := eq_true c63
                                          have c63b1 : decide ((rd t145 x13_3) ≤ (y130.length : Int)) = true := decide_eq_true c63
                                          clear c63
                                          obtain ⟨y159, hy159⟩ : ∃ y_ : List Int, y_ = (y130.drop ((rd t145 x13_3) : Int).toNat) := ⟨_, rfl⟩
                                          replace H : ((remoralaw11_Of.f a2_0 a2_1 a2_2).bind fun bt163 => ((gear_Cuts.f kj54 y159 bt163.1 bt163.2.1 bt163.2.2).bind fun bt166 => (if bt166.2 = 0 then (remoralaw11_GearSame.j4 kj54 y130 t145 t152 x13_3 bt166.1 ((bt166.1.length : Int) != (wrap64 ((wrap64 ((t145.length : Int) - x13_3)) - 1))) l0_0 l0_1 a2_0 a2_1 a2_2) else (remoralaw11_GearSame.j4 kj54 y130 t145 t152 x13_3 bt166.1 true l0_0 l0_1 a2_0 a2_1 a2_2)))) = some r := by first | (rw [hy159]; with_reducible exact H) | (have H2_ := (Option.bind_some _ _).symm.trans H; rw [hy159]; with_reducible exact H2_) | (have H2_ := (Option.bind_some _ _).symm.trans H; with_reducible exact H2_) | with_reducible exact H | (rw [hy159]; exact H) | exact H
                                          have Ny159 := Aside0.mk hy159
                                          clear hy159
                                          replace H := Option.bind_eq_some_iff.mp H
                                          obtain ⟨⟨t163, t164, t165⟩, A640, H⟩ := H
                                          replace H : ((gear_Cuts.f kj54 y159 t163 t164 t165).bind fun bt166 => (if bt166.2 = 0 then (remoralaw11_GearSame.j4 kj54 y130 t145 t152 x13_3 bt166.1 ((bt166.1.length : Int) != (wrap64 ((wrap64 ((t145.length : Int) - x13_3)) - 1))) l0_0 l0_1 a2_0 a2_1 a2_2) else (remoralaw11_GearSame.j4 kj54 y130 t145 t152 x13_3 bt166.1 true l0_0 l0_1 a2_0 a2_1 a2_2))) = some r := H
                                          have A64 := Aside0.mk A640
                                          clear A640
                                          replace H := Option.bind_eq_some_iff.mp H
                                          obtain ⟨⟨t166, t169⟩, A650, H⟩ := H
                                          replace H : (if t169 = 0 then (remoralaw11_GearSame.j4 kj54 y130 t145 t152 x13_3 t166 ((t166.length : Int) != (wrap64 ((wrap64 ((t145.length : Int) - x13_3)) - 1))) l0_0 l0_1 a2_0 a2_1 a2_2) else (remoralaw11_GearSame.j4 kj54 y130 t145 t152 x13_3 t166 true l0_0 l0_1 a2_0 a2_1 a2_2)) = some r := H
                                          have A65 := Aside0.mk A650
                                          clear A650
                                          have HC66 := Aside0.mk H
                                          clear H
                                          try go_wp2
                                          have n0_ := Aside0.mk (Kd.R_drew HO_7.out)
                                          have n1_ := Aside0.mk (Kd.R_drew HO_9.out)
                                          have n2_ := Aside0.mk (Kd.R_drew HO_11.out)
                                          have n3_ := Aside0.mk (blk_drew BK120.out)
                                          have n4_ := Aside0.mk (blk_drew BK121.out)
                                          have n5_ := Aside0.mk (below_drew1 HB.out)
                                          clear HO_7
                                          clear HO_9
                                          clear HO_11
                                          clear BK120
                                          clear BK121
                                          clear HB
                                          have HO_7 := n0_
                                          have HO_9 := n1_
                                          have HO_11 := n2_
                                          have BK120 := n3_
                                          have BK121 := n4_
                                          have HB := n5_
                                          clear n0_ n1_ n2_ n3_ n4_ n5_
                                          have p158 : 0 ≤ (x13_3 : Int) := of_decide_eq_true (by first | (with_reducible assumption) | assumption)
                                          have q158 : x13_3 < (t145.length : Int) := of_decide_eq_true (by first | (with_reducible assumption) | assumption)
                                          obtain ⟨ad158, e158, hx158_0⟩ := Kd.at_int (Kd.R_reads' HO_9.out).2.2 x13_3 p158 q158
                                          cases e158
                                          replace p158 := eq_true p158
                                          replace q158 := eq_true q158
                                          have q68 : ((rd t145 x13_3) : Int) ≤ ((y130.length : Int) : Int) := of_decide_eq_true (by first | (with_reducible assumption) | assumption)
                                          obtain ⟨i068, hi068, _, hsz68, _⟩ := info_parts info5
                                          have hroom68 : y130.length ≤ co46 := (Kd.R_reads' HO_7.out).2.1
                                          have hC68 : Kd.C (Kd.int .u8) _ Ao46 y130.length y130 := (Kd.R_reads' HO_7.out).2.2
                                          have q068 : (0 : Int) ≤ ((rd t145 x13_3) : Int) := of_decide_eq_true (by first | (with_reducible assumption) | assumption)
                                          have hcut68 := cut_from (P := Tryd.prog) 33 5 .i64 Tryd.underlying33 hi068 1 hsz68 Ao46 y130.length co46 (rd t145 x13_3) q068 q68
                                          have hr68 := Kd.C_drop (m := ((rd t145 x13_3) : Int).toNat) (c := co46) hC68 (by omega) hroom68
                                          obtain ⟨A68, hA68⟩ : ∃ A1, A1 = (if co46 = ((rd t145 x13_3) : Int).toNat then Ao46 else (Ao46 : Option Addr).map (·.add (((rd t145 x13_3) : Int).toNat * 1))) := ⟨_, rfl⟩
                                          obtain ⟨c68, hc68⟩ : ∃ c1, c1 = co46 - ((rd t145 x13_3) : Int).toNat := ⟨_, rfl⟩
                                          have hy68 : y159.length = y130.length - ((rd t145 x13_3) : Int).toNat := (by rw [Ny159.out, List.length_drop] <;> omega)
                                          rw [show (y130).drop ((rd t145 x13_3) : Int).toNat = y159 from Ny159.out.symm] at hr68
                                          replace hr68 : Kd.C (Kd.int .u8) _ A68 y159.length y159 := (by rw [hA68]; exact hr68)
                                          rw [← hy68, ← hA68, ← hc68] at hcut68
                                          have HR162 := Aside0.mk hr68
                                          have HC162 := Aside0.mk (show y159.length ≤ c68 from by rw [hy68, hc68]; exact Nat.sub_le_sub_right hroom68 _)
                                          clear hr68 hC68 hroom68 hi068 hsz68 hc68
                                          have KY68 := Aside0.mk hy68
                                          have KA68 := Aside0.mk hA68
                                          clear hy68 hA68
                                          have KL68 := Aside0.mk (show ((rd t145 x13_3) : Int).toNat ≤ y130.length from by omega)
                                          replace q68 := eq_true q68
                                          refine start_ (n := 14) (S := fun w' => w'.cell? ⟨gb121, 0, none⟩ = some (.int .i64 a2_0) ∧ w'.cell? ⟨gb121, 1, none⟩ = some (.int .i64 a2_1) ∧ w'.cell? ⟨gb121, 2, none⟩ = some (.int .i64 a2_2) ∧ w'.cell? (ad158.add (x13_3).toNat) = some (.int .i64 (rd t145 x13_3))) (ds := []) #[false, false, false, false, false, false, false, false, false, false, false, false, false, false] (by kernel_rfl) rfl rfl ⟨(blk_cell BK121.out 0).trans rfl, (blk_cell BK121.out 1).trans rfl, (blk_cell BK121.out 2).trans rfl, hx158_0⟩ (fun hHeld => ?_); refine with_tabW remoralaw11_GearSame.tab14 remoralaw11_GearSame.bits14 (fun HT_ HW_ => ?_)
                                          generalize wc.drew = w67 at HO_7 HO_9 HO_11 BK120 BK121 HB HR162 hx158_0 hHeld ⊢
                                          refine pure_ (i := 0) (N := some 94) (v := ?_) (a' := ?_) #[true, false, false, false, false, false, false, false, false, false, false, false, false, false] rfl rfl (any_of HT_.out (by kernel_rfl)) (fun _ _ _ h => h) (Or.inl ⟨by rfl, ?_⟩) ?_ ?_
                                          rotate_left
                                          · intro w'
                                            go_simp
                                            with_reducible rfl
                                          rotate_left
                                          · simp only [Act.put, List.setIfInBounds_toArray, List.set_cons_zero, List.set_cons_succ, i64_w, i32_w]
                                            rfl
                                          refine pure_ (i := 1) (N := some 95) (v := ?_) (a' := ?_) #[true, true, false, false, false, false, false, false, false, false, false, false, false, false] rfl rfl (any_of HT_.out (by kernel_rfl)) (fun _ _ _ h => h) (Or.inl ⟨by rfl, ?_⟩) ?_ ?_
                                          rotate_left
                                          · intro w'
                                            go_simp
                                            with_reducible rfl
                                          rotate_left
                                          · simp only [Act.put, List.setIfInBounds_toArray, List.set_cons_zero, List.set_cons_succ, i64_w, i32_w]
                                            rfl
                                          refine pure_ (i := 2) (N := some 96) (v := ?_) (a' := ?_) #[true, true, true, false, false, false, false, false, false, false, false, false, false, false] rfl rfl (any_of HT_.out (by kernel_rfl)) (fun _ _ _ h => h) (Or.inl ⟨by rfl, ?_⟩) ?_ ?_
                                          rotate_left
                                          · intro w'
                                            go_simp
                                            with_reducible rfl
                                          rotate_left
                                          · simp only [Act.put, List.setIfInBounds_toArray, List.set_cons_zero, List.set_cons_succ, i64_w, i32_w]
                                            rfl
                                          refine pure_ (i := 3) (N := some 97) (v := ?_) (a' := ?_) #[true, true, true, true, false, false, false, false, false, false, false, false, false, false] rfl rfl (any_of HT_.out (by kernel_rfl)) (fun _ _ _ h => h) (Or.inl ⟨by rfl, ?_⟩) ?_ ?_
                                          rotate_left
                                          · intro w'
                                            go_simp
                                            with_reducible rfl
                                          rotate_left
                                          · simp only [Act.put, List.setIfInBounds_toArray, List.set_cons_zero, List.set_cons_succ, i64_w, i32_w]
                                            rfl
                                          refine take_ (i := 4) (N := some 98) (v := ?_) (a' := ?_) #[true, true, true, true, true, false, false, false, false, false, false, false, false, false] rfl rfl (take_ofW HT_.out HW_.out (by kernel_rfl)) (fun _ _ _ h => h) (Or.inl ⟨by rfl, ?_⟩) hHeld ?_ ?_
                                          rotate_left
                                          · rintro w' ⟨s0, s1, s2, s3⟩
                                            go_simp
                                            with_reducible rfl
                                          rotate_left
                                          · simp only [Act.put, List.setIfInBounds_toArray, List.set_cons_zero, List.set_cons_succ, i64_w, i32_w]
                                            rfl
                                          refine pure_ (i := 5) (N := some 99) (v := ?_) (a' := ?_) #[true, true, true, true, true, true, false, false, false, false, false, false, false, false] rfl rfl (any_of HT_.out (by kernel_rfl)) (fun _ _ _ h => h) (Or.inl ⟨by rfl, ?_⟩) ?_ ?_
                                          rotate_left
                                          · intro w'
                                            go_simp
                                            with_reducible rfl
                                          rotate_left
                                          · simp only [Act.put, List.setIfInBounds_toArray, List.set_cons_zero, List.set_cons_succ, i64_w, i32_w]
                                            rfl
                                          refine take_ (i := 6) (N := some 100) (v := ?_) (a' := ?_) #[true, true, true, true, true, true, true, false, false, false, false, false, false, false] rfl rfl (take_ofW HT_.out HW_.out (by kernel_rfl)) (fun _ _ _ h => h) (Or.inl ⟨by rfl, ?_⟩) hHeld ?_ ?_
                                          rotate_left
                                          · rintro w' ⟨s0, s1, s2, s3⟩
                                            go_simp
                                            with_reducible rfl
                                          rotate_left
                                          · simp only [Act.put, List.setIfInBounds_toArray, List.set_cons_zero, List.set_cons_succ, i64_w, i32_w]
                                            rfl
                                          refine one_ (i := 7) (N := some 101) #[true, true, true, true, true, true, true, true, false, false, false, false, false, false] rfl rfl (one_of HT_.out (by kernel_rfl)) (by decide) (fun K hK => ?_)
                                          refine goes_ Tryd.func13 (by kernel_rfl) rfl #[.agg #[.int .i64 a2_0, .int .i64 a2_1, .int .i64 a2_2]] (by rfl) rfl rfl (by (try simp only [List.map_toArray, List.map_cons, List.map_nil]); first | done | rfl | (simp only [List.length_drop, List.length_take]; rfl)) ?_
                                          with_reducible refine (remoralaw11_Of.calls a2_0 a2_1 a2_2 t163 t164 t165 _ A64.out).mono ?_
                                          rintro e w69 ⟨rfl, hb⟩
                                          have HS3_ := (hb.cell (World.block_lt_of_cell? _ _ (hHeld.2.2.2))).trans (hHeld.2.2.2)
                                          refine ⟨_, rfl, ?_⟩
                                          have n0_ := Aside0.mk (Kd.R_below (by (with_reducible repeat (first | apply Kd.R_alloc | apply Kd.R_drewN | apply Kd.R_drew)); exact HO_7.out) hb)
                                          have n1_ := Aside0.mk (Kd.R_below (by (with_reducible repeat (first | apply Kd.R_alloc | apply Kd.R_drewN | apply Kd.R_drew)); exact HO_9.out) hb)
                                          have n2_ := Aside0.mk (Kd.R_below (by (with_reducible repeat (first | apply Kd.R_alloc | apply Kd.R_drewN | apply Kd.R_drew)); exact HO_11.out) hb)
                                          have n3_ := Aside0.mk (blk_below (g := gb120) (o := .cells #[.slice A0_0 l0_0.length c0_0, .slice A0_1 l0_1.length c0_1] 37 (0, 0)) (by (with_reducible repeat (first | refine blk_drewN ?_ _ | refine blk_drew ?_ | refine blk_alloc ?_ _)); exact BK120.out) hb)
                                          have n4_ := Aside0.mk (blk_below (g := gb121) (o := .cells #[.int .i64 a2_0, .int .i64 a2_1, .int .i64 a2_2] 23 (0, 0)) (by (with_reducible repeat (first | refine blk_drewN ?_ _ | refine blk_drew ?_ | refine blk_alloc ?_ _)); exact BK121.out) hb)
                                          have n5_ := Aside0.mk (Kd.C_below (by repeat (first | (with_reducible exact HR162.out) | (with_reducible refine Kd.C_alloc ?_ _) | (with_reducible refine Kd.C_drewN ?_ _) | (with_reducible refine Kd.C_drew ?_) | exact HR162.out)) hb)
                                          have n6_ := Aside0.mk (below_step (by repeat (first | (with_reducible first | exact HB.out | apply below_alloc | apply pw_below_drewN | apply below_drew1 | refine below_set ?_ GE120.out | refine below_set ?_ GE121.out) | exact HB.out)) hb)
                                          clear HO_7
                                          clear HO_9
                                          clear HO_11
                                          clear BK120
                                          clear BK121
                                          clear HR162
                                          clear HB
                                          have HO_7 := n0_
                                          have HO_9 := n1_
                                          have HO_11 := n2_
                                          have BK120 := n3_
                                          have BK121 := n4_
                                          have HR162 := n5_
                                          have HB := n6_
                                          clear n0_ n1_ n2_ n3_ n4_ n5_ n6_
                                          (try clear hb)
                                          (try clear hb2)
                                          (try clear hk)
                                          (try clear hi)
                                          refine hK.out _ _ ⟨(blk_cell BK121.out 0).trans rfl, (blk_cell BK121.out 1).trans rfl, (blk_cell BK121.out 2).trans rfl, HS3_⟩ (fun hHeld => ?_)
                                          clear hK K
                                          refine norm_ (a' := ?_) ?_ ?_
                                          rotate_left
                                          · show Act.put _ (some 101) _ = _
                                            simp only [Act.put, List.setIfInBounds_toArray, List.set_cons_zero, List.set_cons_succ, i64_w, i32_w]
                                            rfl
                                          refine one_ (i := 8) (N := some 102) #[true, true, true, true, true, true, true, true, true, false, false, false, false, false] rfl rfl (one_of HT_.out (by kernel_rfl)) (by decide) (fun K hK => ?_)
                                          refine goes_ Tryd.func18 (by kernel_rfl) rfl #[.slice A68 y159.length c68, .agg #[.int .i64 t163, .int .i64 t164, .int .i64 t165]] (by rfl) rfl rfl (by (try simp only [List.map_toArray, List.map_cons, List.map_nil]); first | done | rfl | (simp only [List.length_drop, List.length_take]; rfl)) ?_
                                          with_reducible refine (gear_Cuts.calls kj54 _ _ y159 t163 t164 t165 t166 t169 _ ?side1 ?side2 A65.out ?sideG).mono ?_
                                          (case sideG => first | exact hG.below (by repeat (first | (with_reducible first | exact HB.out | apply below_alloc | apply pw_below_drewN | apply below_drew1) | exact HB.out | exact Below.refl _ _)) | exact hG)
                                          (case side1 => repeat (first | exact (by repeat (first | (with_reducible exact HR162.out) | (with_reducible refine Kd.C_alloc ?_ _) | (with_reducible refine Kd.C_drewN ?_ _) | (with_reducible refine Kd.C_drew ?_) | exact HR162.out)) | (with_reducible refine Kd.C_alloc ?_ _) | (with_reducible refine Kd.C_drewN ?_ _) | (with_reducible refine Kd.C_drew ?_)))
                                          (case side2 => exact HC162.out)
                                          rintro e w70 ⟨v167, rfl, ho0, hb⟩
                                          have HS3_ := (hb.cell (World.block_lt_of_cell? _ _ (hHeld.2.2.2))).trans (hHeld.2.2.2)
                                          refine ⟨_, rfl, ?_⟩
                                          have n0_ := Aside0.mk (Kd.R_below (by (with_reducible repeat (first | apply Kd.R_alloc | apply Kd.R_drewN | apply Kd.R_drew)); exact HO_7.out) hb)
                                          have n1_ := Aside0.mk (Kd.R_elder' (by (with_reducible repeat (first | apply Kd.R_alloc | apply Kd.R_drewN | apply Kd.R_drew)); exact HO_9.out) (Kd.R_base ho0) hb)
                                          have n2_ := Aside0.mk (Kd.R_elder' (by (with_reducible repeat (first | apply Kd.R_alloc | apply Kd.R_drewN | apply Kd.R_drew)); exact HO_11.out) (Kd.R_base ho0) hb)
                                          have n3_ := Aside0.mk (Kd.R_lower (Kd.R_new' (Kd.R_new' ho0 (Kd.R_lt (by (with_reducible repeat (first | apply Kd.R_alloc | apply Kd.R_drewN | apply Kd.R_drew)); exact HO_9.out))) (Kd.R_lt (by (with_reducible repeat (first | apply Kd.R_alloc | apply Kd.R_drewN | apply Kd.R_drew)); exact HO_11.out))) (below_size (by repeat (first | (with_reducible first | exact HB.out | apply below_alloc | apply pw_below_drewN | apply below_drew1 | refine below_set ?_ GE120.out | refine below_set ?_ GE121.out) | exact HB.out))))
                                          have n4_ := Aside0.mk (blk_below (g := gb120) (o := .cells #[.slice A0_0 l0_0.length c0_0, .slice A0_1 l0_1.length c0_1] 37 (0, 0)) (by (with_reducible repeat (first | refine blk_drewN ?_ _ | refine blk_drew ?_ | refine blk_alloc ?_ _)); exact BK120.out) hb)
                                          have n5_ := Aside0.mk (blk_below (g := gb121) (o := .cells #[.int .i64 a2_0, .int .i64 a2_1, .int .i64 a2_2] 23 (0, 0)) (by (with_reducible repeat (first | refine blk_drewN ?_ _ | refine blk_drew ?_ | refine blk_alloc ?_ _)); exact BK121.out) hb)
                                          have n6_ := Aside0.mk (Kd.C_below (by repeat (first | (with_reducible exact HR162.out) | (with_reducible refine Kd.C_alloc ?_ _) | (with_reducible refine Kd.C_drewN ?_ _) | (with_reducible refine Kd.C_drew ?_) | exact HR162.out)) hb)
                                          have n7_ := Aside0.mk (below_step (by repeat (first | (with_reducible first | exact HB.out | apply below_alloc | apply pw_below_drewN | apply below_drew1 | refine below_set ?_ GE120.out | refine below_set ?_ GE121.out) | exact HB.out)) hb)
                                          clear HO_7
                                          clear HO_9
                                          clear HO_11
                                          clear BK120
                                          clear BK121
                                          clear HR162
                                          clear HB
                                          have HO_7 := n0_
                                          have HO_9 := n1_
                                          have HO_11 := n2_
                                          have HO168 := n3_
                                          have BK120 := n4_
                                          have BK121 := n5_
                                          have HR162 := n6_
                                          have HB := n7_
                                          clear n0_ n1_ n2_ n3_ n4_ n5_ n6_ n7_
                                          (try clear hb)
                                          (try clear hb2)
                                          (try clear hk)
                                          (try clear hi)
                                          (try clear ho0)
                                          refine hK.out _ _ ⟨(blk_cell BK121.out 0).trans rfl, (blk_cell BK121.out 1).trans rfl, (blk_cell BK121.out 2).trans rfl, HS3_⟩ (fun hHeld => ?_)
                                          clear hK K
                                          refine norm_ (a' := ?_) ?_ ?_
                                          rotate_left
                                          · show Act.put _ (some 102) _ = _
                                            simp only [Act.put, List.setIfInBounds_toArray, List.set_cons_zero, List.set_cons_succ, i64_w, i32_w]
                                            rfl
                                          refine pure_ (i := 9) (N := some 93) (v := ?_) (a' := ?_) #[true, true, true, true, true, true, true, true, true, true, false, false, false, false] rfl rfl (any_of HT_.out (by kernel_rfl)) (fun _ _ _ h => h) (Or.inl ⟨by rfl, ?_⟩) ?_ ?_
                                          rotate_left
                                          · intro w'
                                            go_simp
                                            with_reducible rfl
                                          rotate_left
                                          · simp only [Act.put, List.setIfInBounds_toArray, List.set_cons_zero, List.set_cons_succ, i64_w, i32_w]
                                            rfl
                                          refine pure_ (i := 10) (N := some 103) (v := ?_) (a' := ?_) #[true, true, true, true, true, true, true, true, true, true, true, false, false, false] rfl rfl (any_of HT_.out (by kernel_rfl)) (fun _ _ _ h => h) (Or.inl ⟨by rfl, ?_⟩) ?_ ?_
                                          rotate_left
                                          · intro w'
                                            go_simp
                                            with_reducible rfl
                                          rotate_left
                                          · simp only [Act.put, List.setIfInBounds_toArray, List.set_cons_zero, List.set_cons_succ, i64_w, i32_w]
                                            rfl
                                          refine pure_ (i := 11) (N := some 104) (v := ?_) (a' := ?_) #[true, true, true, true, true, true, true, true, true, true, true, true, false, false] rfl rfl (any_of HT_.out (by kernel_rfl)) (fun _ _ _ h => h) (Or.inl ⟨by rfl, ?_⟩) ?_ ?_
                                          rotate_left
                                          · intro w'
                                            go_simp
                                            with_reducible rfl
                                          rotate_left
                                          · simp only [Act.put, List.setIfInBounds_toArray, List.set_cons_zero, List.set_cons_succ, i64_w, i32_w]
                                            rfl
                                          refine pure_ (i := 12) (N := some 14) (v := ?_) (a' := ?_) #[true, true, true, true, true, true, true, true, true, true, true, true, true, false] rfl rfl (any_of HT_.out (by kernel_rfl)) (fun _ _ _ h => h) (Or.inl ⟨by rfl, ?_⟩) ?_ ?_
                                          rotate_left
                                          · intro w'
                                            go_simp
                                            with_reducible rfl
                                          rotate_left
                                          · simp only [Act.put, List.setIfInBounds_toArray, List.set_cons_zero, List.set_cons_succ, i64_w, i32_w]
                                            rfl
                                          refine pure_ (i := 13) (N := some 15) (v := ?_) (a' := ?_) #[true, true, true, true, true, true, true, true, true, true, true, true, true, true] rfl rfl (any_of HT_.out (by kernel_rfl)) (fun _ _ _ h => h) (Or.inl ⟨by rfl, ?_⟩) ?_ ?_
                                          rotate_left
                                          · intro w'
                                            go_simp
                                            with_reducible rfl
                                          rotate_left
                                          · simp only [Act.put, List.setIfInBounds_toArray, List.set_cons_zero, List.set_cons_succ, i64_w, i32_w]
                                            rfl
                                          refine done_ (done_of HT_.out (by kernel_rfl)) ?_
                                          go_upto_region 15 with (fail)
                                          go_cut [116] (fun v116 wc => ∃ (kq : Nat) (x116_65 : Bool), v116 = .bool x116_65 ∧ Aside0 (remoralaw11_GearSame.j4 kq y130 t145 t152 x13_3 t166 x116_65 l0_0 l0_1 a2_0 a2_1 a2_2 = some r) ∧ Aside0 (kq ≤ kj54) ∧ Aside0 (Kd.R (Kd.int .u8) 5 wc w.heap.size (fun _ => True) (.slice Ao46 y130.length co46) y130) ∧ Aside0 (Kd.R (Kd.int .i64) 3 wc w.heap.size (fun k_ => some k_ ≠ (v153 : Value).ownBlock ∧ some k_ ≠ (v167 : Value).ownBlock) (.slice (some ad158) t145.length co56) t145) ∧ Aside0 (Kd.R (Kd.int .i64) 3 wc w.heap.size (fun k_ => some k_ ≠ ((.slice (some ad158) t145.length co56) : Value).ownBlock ∧ some k_ ≠ (v167 : Value).ownBlock) v153 t152) ∧ Aside0 (Kd.R (Kd.int .i64) 3 wc w.heap.size (fun k_ => some k_ ≠ ((.slice (some ad158) t145.length co56) : Value).ownBlock ∧ some k_ ≠ (v153 : Value).ownBlock) v167 t166) ∧ Aside0 (wc.heap[gb120]? = some (.cells #[(.slice A0_0 l0_0.length c0_0), (.slice A0_1 l0_1.length c0_1)] 37 (0, 0))) ∧ Aside0 (wc.heap[gb121]? = some (.cells #[.int .i64 a2_0, .int .i64 a2_1, .int .i64 a2_2] 23 (0, 0))) ∧ Aside0 (Kd.C (Kd.int .u8) wc A68 y159.length y159) ∧ Aside0 (Below w.heap.size w wc))
                                          case first =>
                                            have H := HC66.out
                                            clear HC66
                                            by_cases c71 : t169 = 0
                                            · rw [if_pos c71] at H
                                              have c71b0 : (t169 == 0) = true := beq_iff_eq.mpr c71
                                              have c71b1 : (t169 != 0) = false := bne_eq_false_iff_eq.mpr c71
                                              clear c71
                                              (first | rw [c71b0] | (simp only [i64_w, i32_w]; rw [c71b0]) | skip)
                                              have H' := Aside0.mk H
                                              clear H
                                              obtain ⟨Ao72, co72, eo72⟩ := Kd.R_slice HO168.out
                                              subst eo72
                                              go_wp2
                                              go_meet
                                              case rel => exact ⟨_, (((t166.length : Int) != (wrap64 ((wrap64 ((t145.length : Int) - x13_3)) - 1)))), (by first | rfl | (simp; done) | (simp [*]; done)), H', ⟨by have := HJ3.out; have := HJ31.out; have := HK3.out; have := HJ54.out; first | omega | exact Nat.le_refl _⟩, ⟨by (with_reducible repeat (first | apply Kd.R_alloc | apply Kd.R_drewN | apply Kd.R_drew)); exact HO_7.out⟩, ⟨by (with_reducible repeat (first | apply Kd.R_alloc | apply Kd.R_drewN | apply Kd.R_drew)); exact HO_9.out⟩, ⟨by (with_reducible repeat (first | apply Kd.R_alloc | apply Kd.R_drewN | apply Kd.R_drew)); exact HO_11.out⟩, ⟨by (with_reducible repeat (first | apply Kd.R_alloc | apply Kd.R_drewN | apply Kd.R_drew)); exact Kd.R_mono HO168.out (fun _ hk => ⟨hk.1.2, hk.2⟩)⟩, ⟨by (with_reducible repeat (first | refine blk_drewN ?_ _ | refine blk_drew ?_ | refine blk_alloc ?_ _)); exact BK120.out⟩, ⟨by (with_reducible repeat (first | refine blk_drewN ?_ _ | refine blk_drew ?_ | refine blk_alloc ?_ _)); exact BK121.out⟩, ⟨by repeat (first | (with_reducible exact HR162.out) | (with_reducible refine Kd.C_alloc ?_ _) | (with_reducible refine Kd.C_drewN ?_ _) | (with_reducible refine Kd.C_drew ?_) | exact HR162.out)⟩, ⟨by repeat (first | (with_reducible first | exact HB.out | apply below_alloc | apply pw_below_drewN | apply below_drew1 | refine below_set ?_ GE120.out | refine below_set ?_ GE121.out) | exact HB.out)⟩⟩
                                            · rw [if_neg c71] at H
                                              have c71b0 : (t169 == 0) = false := beq_eq_false_iff_ne.mpr c71
                                              have c71b1 : (t169 != 0) = true := bne_iff_ne.mpr c71
                                              (first | rw [c71b0] | (simp only [i64_w, i32_w]; rw [c71b0]) | skip)
                                              have H' := Aside0.mk H
                                              clear H
                                              go_wp2
                                              go_meet
                                              case rel => exact ⟨_, (true), (by first | rfl | (simp; done) | (simp [*]; done)), H', ⟨by have := HJ3.out; have := HJ31.out; have := HK3.out; have := HJ54.out; first | omega | exact Nat.le_refl _⟩, ⟨by (with_reducible repeat (first | apply Kd.R_alloc | apply Kd.R_drewN | apply Kd.R_drew)); exact HO_7.out⟩, ⟨by (with_reducible repeat (first | apply Kd.R_alloc | apply Kd.R_drewN | apply Kd.R_drew)); exact HO_9.out⟩, ⟨by (with_reducible repeat (first | apply Kd.R_alloc | apply Kd.R_drewN | apply Kd.R_drew)); exact HO_11.out⟩, ⟨by (with_reducible repeat (first | apply Kd.R_alloc | apply Kd.R_drewN | apply Kd.R_drew)); exact Kd.R_mono HO168.out (fun _ hk => ⟨hk.1.2, hk.2⟩)⟩, ⟨by (with_reducible repeat (first | refine blk_drewN ?_ _ | refine blk_drew ?_ | refine blk_alloc ?_ _)); exact BK120.out⟩, ⟨by (with_reducible repeat (first | refine blk_drewN ?_ _ | refine blk_drew ?_ | refine blk_alloc ?_ _)); exact BK121.out⟩, ⟨by repeat (first | (with_reducible exact HR162.out) | (with_reducible refine Kd.C_alloc ?_ _) | (with_reducible refine Kd.C_drewN ?_ _) | (with_reducible refine Kd.C_drew ?_) | exact HR162.out)⟩, ⟨by repeat (first | (with_reducible first | exact HB.out | apply below_alloc | apply pw_below_drewN | apply below_drew1 | refine below_set ?_ GE120.out | refine below_set ?_ GE121.out) | exact HB.out)⟩⟩
                                          case rest =>
                                            clear HC66
                                            try clear c1
                                            try clear p1
                                            try clear q1
                                            try clear hx1
                                            try clear c2
                                            try clear p2
                                            try clear c3
                                            try clear c5
                                            try clear c6
                                            try clear p6
                                            try clear q6
                                            try clear c7
                                            try clear c7b0
                                            try clear c7b1
                                            try clear c8
                                            try clear c10
                                            try clear c10b0
                                            try clear c10b1
                                            try clear c11
                                            try clear c13
                                            try clear c13b0
                                            try clear c13b1
                                            try clear c14
                                            try clear c15
                                            try clear p15
                                            try clear q15
                                            try clear hx15
                                            try clear c17
                                            try clear c18
                                            try clear c21
                                            try clear c24
                                            try clear c25
                                            try clear c26
                                            try clear c27
                                            try clear c35
                                            try clear c52
                                            try clear c52b0
                                            try clear c52b1
                                            try clear c53
                                            try clear c54
                                            try clear c54b0
                                            try clear c57
                                            try clear c57b0
                                            try clear c58
                                            try clear c58b0
                                            try clear c59
                                            try clear c60
                                            try clear c60b0
                                            try clear c61
                                            try clear c61b0
                                            try clear c62
                                            try clear c62b0
                                            try clear c62b1
                                            try clear c63
                                            try clear c63b0
                                            try clear c63b1
                                            try clear p64
                                            try clear c68
                                            try clear q68
                                            try clear c71
                                            try clear c71b0
                                            try clear c71b1
                                            try clear hcz12_0
                                            try clear hcz12_1
                                            try clear hcz15_0
                                            try clear hcz15_1
                                            try clear hcz18_0
                                            try clear hcz18_1
                                            try clear hcz19_0
                                            try clear hcz19_1
                                            try clear hcz19_2
                                            try clear hcz36_0
                                            try clear hcz36_1
                                            try clear hcz41_0
                                            try clear hcz41_1
                                            try clear hcz44_0
                                            try clear hcz44_1
                                            try clear hcz44_2
                                            try clear hcz48_0
                                            try clear hcz48_1
                                            try clear hcz48_2
                                            try clear hcz9_0
                                            try clear hcz9_1
                                            try clear hfz12_0
                                            try clear hfz12_1
                                            try clear hfz15_0
                                            try clear hfz15_1
                                            try clear hfz18_0
                                            try clear hfz18_1
                                            try clear hfz19_0
                                            try clear hfz19_1
                                            try clear hfz19_2
                                            try clear hfz36_0
                                            try clear hfz36_1
                                            try clear hfz41_0
                                            try clear hfz41_1
                                            try clear hfz44_0
                                            try clear hfz44_1
                                            try clear hfz44_2
                                            try clear hfz48_0
                                            try clear hfz48_1
                                            try clear hfz48_2
                                            try clear hfz9_0
                                            try clear hfz9_1
                                            try clear hx156_0
                                            try clear hx157_0
                                            try clear hx158_0
                                            try clear p1
                                            try clear p15
                                            try clear p156
                                            try clear p157
                                            try clear p158
                                            try clear p2
                                            try clear q068
                                            try clear q1
                                            try clear q15
                                            try clear q156
                                            try clear q157
                                            try clear q158
                                            try clear q68
                                            obtain ⟨kq, x116_65, rfl, HA, HJ65, HO_7, HO_9, HO_11, HO_14, BK120, BK121, HR162, HB⟩ := hcut
                                            cases kq with
                                            | zero => exact absurd HA.out (by simp [remoralaw11_GearSame.j4])
                                            | succ kj65 =>
                                              have H := HA.out
                                              clear HA
                                              simp only [remoralaw11_GearSame.j4] at H
                                              by_cases c73 : x116_65 = true
                                              · subst c73
                                                have H1 : (some false) = some r := by rw [if_pos rfl] at H; exact H
                                                clear H
                                                have H := H1
                                                clear H1
                                                obtain rfl := Option.some.inj H
                                                go_wp2
                                                go_ret
                                                exact ⟨by first | rfl | (simp [errW_none, errW_some] <;> rfl) | (simp [*, errW_none, errW_some] <;> rfl), by repeat (first | (with_reducible first | exact HB.out | apply below_alloc | apply pw_below_drewN | apply below_drew1 | refine below_set ?_ GE120.out | refine below_set ?_ GE121.out) | exact HB.out)⟩
                                              · replace c73 := Bool.eq_false_iff.mpr c73
                                                subst c73
                                                have H1 : (remoralaw11_GearSame.l1 kj65 y130 t145 t152 x13_3 t166 0 l0_0 l0_1 a2_0 a2_1 a2_2) = some r := by rw [if_neg (show ¬ (false = true) by decide)] at H; exact H
                                                clear H
                                                have H := H1
                                                clear H1
                                                have H' := Aside0.mk H
                                                clear H
                                                go_wp2
                                                go_loopg [16] kj65 (fun kq v16 w' => ∃ (x16_6 : Int), v16 = .int .i64 x16_6 ∧ Aside0 (remoralaw11_GearSame.l1 kq y130 t145 t152 x13_3 t166 x16_6 l0_0 l0_1 a2_0 a2_1 a2_2 = some r) ∧ Aside0 (kq ≤ kj65) ∧ Aside0 (Kd.R (Kd.int .u8) 5 w' w.heap.size (fun _ => True) (.slice Ao46 y130.length co46) y130) ∧ Aside0 (Kd.R (Kd.int .i64) 3 w' w.heap.size (fun k_ => some k_ ≠ (v153 : Value).ownBlock ∧ some k_ ≠ (v167 : Value).ownBlock) (.slice (some ad158) t145.length co56) t145) ∧ Aside0 (Kd.R (Kd.int .i64) 3 w' w.heap.size (fun k_ => some k_ ≠ ((.slice (some ad158) t145.length co56) : Value).ownBlock ∧ some k_ ≠ (v167 : Value).ownBlock) v153 t152) ∧ Aside0 (Kd.R (Kd.int .i64) 3 w' w.heap.size (fun k_ => some k_ ≠ ((.slice (some ad158) t145.length co56) : Value).ownBlock ∧ some k_ ≠ (v153 : Value).ownBlock) v167 t166) ∧ Aside0 (w'.heap[gb120]? = some (.cells #[(.slice A0_0 l0_0.length c0_0), (.slice A0_1 l0_1.length c0_1)] 37 (0, 0))) ∧ Aside0 (w'.heap[gb121]? = some (.cells #[.int .i64 a2_0, .int .i64 a2_1, .int .i64 a2_2] 23 (0, 0))) ∧ Aside0 (Kd.C (Kd.int .u8) w' A68 y159.length y159) ∧ Aside0 (Below w.heap.size w w'))
                                                case atStart => exact ⟨(0), (by first | rfl | (simp; done) | (simp [*]; done)), H', ⟨Nat.le_refl _⟩, ⟨by (with_reducible repeat (first | apply Kd.R_alloc | apply Kd.R_drewN | apply Kd.R_drew)); exact HO_7.out⟩, ⟨by (with_reducible repeat (first | apply Kd.R_alloc | apply Kd.R_drewN | apply Kd.R_drew)); exact HO_9.out⟩, ⟨by (with_reducible repeat (first | apply Kd.R_alloc | apply Kd.R_drewN | apply Kd.R_drew)); exact HO_11.out⟩, ⟨by (with_reducible repeat (first | apply Kd.R_alloc | apply Kd.R_drewN | apply Kd.R_drew)); exact HO_14.out⟩, ⟨by (with_reducible repeat (first | refine blk_drewN ?_ _ | refine blk_drew ?_ | refine blk_alloc ?_ _)); exact BK120.out⟩, ⟨by (with_reducible repeat (first | refine blk_drewN ?_ _ | refine blk_drew ?_ | refine blk_alloc ?_ _)); exact BK121.out⟩, ⟨by repeat (first | (with_reducible exact HR162.out) | (with_reducible refine Kd.C_alloc ?_ _) | (with_reducible refine Kd.C_drewN ?_ _) | (with_reducible refine Kd.C_drew ?_) | exact HR162.out)⟩, ⟨by repeat (first | (with_reducible first | exact HB.out | apply below_alloc | apply pw_below_drewN | apply below_drew1 | refine below_set ?_ GE120.out | refine below_set ?_ GE121.out) | exact HB.out)⟩⟩
                                                case round =>
                                                  clear H'
                                                  try clear c1
                                                  try clear p1
                                                  try clear q1
                                                  try clear hx1
                                                  try clear c2
                                                  try clear p2
                                                  try clear c3
                                                  try clear c5
                                                  try clear c6
                                                  try clear p6
                                                  try clear q6
                                                  try clear c7
                                                  try clear c7b0
                                                  try clear c7b1
                                                  try clear c8
                                                  try clear c10
                                                  try clear c10b0
                                                  try clear c10b1
                                                  try clear c11
                                                  try clear c13
                                                  try clear c13b0
                                                  try clear c13b1
                                                  try clear c14
                                                  try clear c15
                                                  try clear p15
                                                  try clear q15
                                                  try clear hx15
                                                  try clear c17
                                                  try clear c18
                                                  try clear c21
                                                  try clear c24
                                                  try clear c25
                                                  try clear c26
                                                  try clear c27
                                                  try clear c35
                                                  try clear c52
                                                  try clear c52b0
                                                  try clear c52b1
                                                  try clear c53
                                                  try clear c54
                                                  try clear c54b0
                                                  try clear c57
                                                  try clear c57b0
                                                  try clear c58
                                                  try clear c58b0
                                                  try clear c59
                                                  try clear c60
                                                  try clear c60b0
                                                  try clear c61
                                                  try clear c61b0
                                                  try clear c62
                                                  try clear c62b0
                                                  try clear c62b1
                                                  try clear c63
                                                  try clear c63b0
                                                  try clear c63b1
                                                  try clear p64
                                                  try clear c68
                                                  try clear q68
                                                  try clear c71
                                                  try clear c71b0
                                                  try clear c71b1
                                                  try clear c73
                                                  try clear hcz12_0
                                                  try clear hcz12_1
                                                  try clear hcz15_0
                                                  try clear hcz15_1
                                                  try clear hcz18_0
                                                  try clear hcz18_1
                                                  try clear hcz19_0
                                                  try clear hcz19_1
                                                  try clear hcz19_2
                                                  try clear hcz36_0
                                                  try clear hcz36_1
                                                  try clear hcz41_0
                                                  try clear hcz41_1
                                                  try clear hcz44_0
                                                  try clear hcz44_1
                                                  try clear hcz44_2
                                                  try clear hcz48_0
                                                  try clear hcz48_1
                                                  try clear hcz48_2
                                                  try clear hcz9_0
                                                  try clear hcz9_1
                                                  try clear hfz12_0
                                                  try clear hfz12_1
                                                  try clear hfz15_0
                                                  try clear hfz15_1
                                                  try clear hfz18_0
                                                  try clear hfz18_1
                                                  try clear hfz19_0
                                                  try clear hfz19_1
                                                  try clear hfz19_2
                                                  try clear hfz36_0
                                                  try clear hfz36_1
                                                  try clear hfz41_0
                                                  try clear hfz41_1
                                                  try clear hfz44_0
                                                  try clear hfz44_1
                                                  try clear hfz44_2
                                                  try clear hfz48_0
                                                  try clear hfz48_1
                                                  try clear hfz48_2
                                                  try clear hfz9_0
                                                  try clear hfz9_1
                                                  try clear hx156_0
                                                  try clear hx157_0
                                                  try clear hx158_0
                                                  try clear p1
                                                  try clear p15
                                                  try clear p156
                                                  try clear p157
                                                  try clear p158
                                                  try clear p2
                                                  try clear p6
                                                  try clear p64
                                                  try clear q068
                                                  try clear q1
                                                  try clear q15
                                                  try clear q156
                                                  try clear q157
                                                  try clear q158
                                                  try clear q6
                                                  try clear q68
                                                  obtain ⟨x16_6, rfl, HA, HK6, HO_7, HO_9, HO_11, HO_14, BK120, BK121, HR162, HB⟩ := hrel
                                                  cases gk with
                                                  | zero => exact absurd HA.out (by simp [remoralaw11_GearSame.l1])
                                                  | succ k6 =>
                                                    have H := HA.out
                                                    clear HA
                                                    simp only [remoralaw11_GearSame.l1] at H
                                                    by_cases c74 : x16_6 < (t166.length : Int)
                                                    · rw [if_pos c74] at H
                                                      have c74b0 : decide (x16_6 < (t166.length : Int)) = true := decide_eq_true c74
                                                      clear c74
                                                      by_cases c75 : 0 ≤ x16_6
                                                      · rw [if_pos c75] at H
                                                        have c75b0 : decide (0 ≤ x16_6) = true := decide_eq_true c75
                                                        clear c75
                                                        by_cases c76 : 0 ≤ x13_3
                                                        · rw [if_pos c76] at H
                                                          have c76b0 : decide (0 ≤ x13_3) = true := decide_eq_true c76
                                                          clear c76
                                                          by_cases c77 : x13_3 < (t145.length : Int)
                                                          · rw [if_pos c77] at H
                                                            have c77b0 : decide (x13_3 < (t145.length : Int)) = true := decide_eq_true c77
                                                            clear c77
                                                            obtain ⟨ji78, hji78⟩ : ∃ j_ : Int, (wrap64 ((wrap64 (x13_3 + 1)) + x16_6)) = j_ := ⟨_, rfl⟩
                                                            replace H : (if 0 ≤ (ji78) then (if (ji78) < (t145.length : Int) then (if (wrap64 ((rd t166 x16_6) + (rd t145 x13_3))) = (rd t145 (ji78)) then (remoralaw11_GearSame.l1 k6 y130 t145 t152 x13_3 t166 (wrap64 (x16_6 + 1)) l0_0 l0_1 a2_0 a2_1 a2_2) else (some false)) else (none)) else (none)) = some r := by first | (rw [hji78] at H; exact H) | (simp only [hji78] at H ⊢; exact H)
                                                            have hji78w : (IntKind.i64.wrap ((wrap64 (x13_3 + 1)) + x16_6)) = ji78 := (i64_w _).trans hji78
                                                            by_cases c79 : 0 ≤ (ji78)
                                                            · rw [if_pos c79] at H
                                                              have c79b0 : decide (0 ≤ (ji78)) = true := decide_eq_true c79
                                                              clear c79
                                                              by_cases c80 : (ji78) < (t145.length : Int)
                                                              · rw [if_pos c80] at H
                                                                have c80b0 : decide ((ji78) < (t145.length : Int)) = true := decide_eq_true c80
                                                                clear c80
                                                                by_cases c81 : (wrap64 ((rd t166 x16_6) + (rd t145 x13_3))) = (rd t145 (ji78))
                                                                · rw [if_pos c81] at H
                                                                  have c81b0 : ((wrap64 ((rd t166 x16_6) + (rd t145 x13_3))) == (rd t145 (ji78))) = true := beq_iff_eq.mpr c81
                                                                  have c81b1 : ((wrap64 ((rd t166 x16_6) + (rd t145 x13_3))) != (rd t145 (ji78))) = false := bne_eq_false_iff_eq.mpr c81
                                                                  clear c81
                                                                  have H' := Aside0.mk H
                                                                  clear H
                                                                  obtain ⟨Ao82, co82, eo82⟩ := Kd.R_slice HO_14.out
                                                                  subst eo82
                                                                  try go_wp2
                                                                  have n0_ := Aside0.mk (Kd.R_drew HO_7.out)
                                                                  have n1_ := Aside0.mk (Kd.R_drew HO_9.out)
                                                                  have n2_ := Aside0.mk (Kd.R_drew HO_11.out)
                                                                  have n3_ := Aside0.mk (Kd.R_drew HO_14.out)
                                                                  have n4_ := Aside0.mk (blk_drew BK120.out)
                                                                  have n5_ := Aside0.mk (blk_drew BK121.out)
                                                                  have n6_ := Aside0.mk (Kd.C_drew HR162.out)
                                                                  have n7_ := Aside0.mk (below_drew1 HB.out)
                                                                  clear HO_7
                                                                  clear HO_9
                                                                  clear HO_11
                                                                  clear HO_14
                                                                  clear BK120
                                                                  clear BK121
                                                                  clear HR162
                                                                  clear HB
                                                                  have HO_7 := n0_
                                                                  have HO_9 := n1_
                                                                  have HO_11 := n2_
                                                                  have HO_14 := n3_
                                                                  have BK120 := n4_
                                                                  have BK121 := n5_
                                                                  have HR162 := n6_
                                                                  have HB := n7_
                                                                  clear n0_ n1_ n2_ n3_ n4_ n5_ n6_ n7_
                                                                  have p170 : 0 ≤ (x16_6 : Int) := of_decide_eq_true (by first | (with_reducible assumption) | assumption)
                                                                  have q170 : x16_6 < (t166.length : Int) := of_decide_eq_true (by first | (with_reducible assumption) | assumption)
                                                                  obtain ⟨ad170, e170, hx170_0⟩ := Kd.at_int (Kd.R_reads' HO_14.out).2.2 x16_6 p170 q170
                                                                  cases e170
                                                                  replace p170 := eq_true p170
                                                                  replace q170 := eq_true q170
                                                                  have p171 : 0 ≤ (x13_3 : Int) := of_decide_eq_true (by first | (with_reducible assumption) | assumption)
                                                                  have q171 : x13_3 < (t145.length : Int) := of_decide_eq_true (by first | (with_reducible assumption) | assumption)
                                                                  obtain ⟨ad171, e171, hx171_0⟩ := Kd.at_int (Kd.R_reads' HO_9.out).2.2 x13_3 p171 q171
                                                                  obtain rfl : ad158 = ad171 := (by injection e171)
                                                                  replace p171 := eq_true p171
                                                                  replace q171 := eq_true q171
                                                                  have p172 : 0 ≤ ((ji78) : Int) := of_decide_eq_true (by first | (with_reducible assumption) | assumption)
                                                                  have q172 : (ji78) < (t145.length : Int) := of_decide_eq_true (by first | (with_reducible assumption) | assumption)
                                                                  obtain ⟨ad172, e172, hx172_0⟩ := Kd.at_int (Kd.R_reads' HO_9.out).2.2 (ji78) p172 q172
                                                                  obtain rfl : ad158 = ad172 := (by injection e172)
                                                                  replace p172 := eq_true p172
                                                                  replace q172 := eq_true q172
                                                                  refine start_ (n := 17) (S := fun w' => w'.cell? (ad170.add (x16_6).toNat) = some (.int .i64 (rd t166 x16_6)) ∧ w'.cell? (ad158.add (x13_3).toNat) = some (.int .i64 (rd t145 x13_3)) ∧ w'.cell? (ad158.add ((ji78)).toNat) = some (.int .i64 (rd t145 (ji78)))) (ds := []) #[false, false, false, false, false, false, false, false, false, false, false, false, false, false, false, false, false] (by kernel_rfl) rfl rfl ⟨hx170_0, hx171_0, hx172_0⟩ (fun hHeld => ?_); refine with_tabW remoralaw11_GearSame.tab20 remoralaw11_GearSame.bits20 (fun HT_ HW_ => ?_)
                                                                  generalize wr.drew = w83 at HO_7 HO_9 HO_11 HO_14 BK120 BK121 HR162 HB hx170_0 hx171_0 hx172_0 hHeld ⊢
                                                                  refine pure_ (i := 0) (N := some 123) (v := ?_) (a' := ?_) #[true, false, false, false, false, false, false, false, false, false, false, false, false, false, false, false, false] rfl rfl (any_of HT_.out (by kernel_rfl)) (fun _ _ _ h => h) (Or.inl ⟨by rfl, ?_⟩) ?_ ?_
                                                                  rotate_left
                                                                  · intro w'
                                                                    go_simp
                                                                    with_reducible rfl
                                                                  rotate_left
                                                                  · simp only [Act.put, List.setIfInBounds_toArray, List.set_cons_zero, List.set_cons_succ, i64_w, i32_w]
                                                                    rfl
                                                                  refine pure_ (i := 1) (N := some 124) (v := ?_) (a' := ?_) #[true, true, false, false, false, false, false, false, false, false, false, false, false, false, false, false, false] rfl rfl (any_of HT_.out (by kernel_rfl)) (fun _ _ _ h => h) (Or.inl ⟨by rfl, ?_⟩) ?_ ?_
                                                                  rotate_left
                                                                  · intro w'
                                                                    go_simp
                                                                    with_reducible rfl
                                                                  rotate_left
                                                                  · simp only [Act.put, List.setIfInBounds_toArray, List.set_cons_zero, List.set_cons_succ, i64_w, i32_w]
                                                                    rfl
                                                                  refine pure_ (i := 2) (N := some 125) (v := ?_) (a' := ?_) #[true, true, true, false, false, false, false, false, false, false, false, false, false, false, false, false, false] rfl rfl (any_of HT_.out (by kernel_rfl)) (fun _ _ _ h => h) (Or.inl ⟨by rfl, ?_⟩) ?_ ?_
                                                                  rotate_left
                                                                  · intro w'
                                                                    go_simp
                                                                    with_reducible rfl
                                                                  rotate_left
                                                                  · simp only [Act.put, List.setIfInBounds_toArray, List.set_cons_zero, List.set_cons_succ, i64_w, i32_w]
                                                                    rfl
                                                                  refine pure_ (i := 4) (N := some 127) (v := ?_) (a' := ?_) #[true, true, true, false, true, false, false, false, false, false, false, false, false, false, false, false, false] rfl rfl (any_of HT_.out (by kernel_rfl)) (fun _ _ _ h => h) (Or.inl ⟨by rfl, ?_⟩) ?_ ?_
                                                                  rotate_left
                                                                  · intro w'
                                                                    go_simp
                                                                    with_reducible rfl
                                                                  rotate_left
                                                                  · simp only [Act.put, List.setIfInBounds_toArray, List.set_cons_zero, List.set_cons_succ, i64_w, i32_w]
                                                                    rfl
                                                                  refine pure_ (i := 5) (N := some 128) (v := ?_) (a' := ?_) #[true, true, true, false, true, true, false, false, false, false, false, false, false, false, false, false, false] rfl rfl (any_of HT_.out (by kernel_rfl)) (fun _ _ _ h => h) (Or.inl ⟨by rfl, ?_⟩) ?_ ?_
                                                                  rotate_left
                                                                  · intro w'
                                                                    go_simp
                                                                    with_reducible rfl
                                                                  rotate_left
                                                                  · simp only [Act.put, List.setIfInBounds_toArray, List.set_cons_zero, List.set_cons_succ, i64_w, i32_w]
                                                                    rfl
                                                                  refine pure_ (i := 6) (N := some 129) (v := ?_) (a' := ?_) #[true, true, true, false, true, true, true, false, false, false, false, false, false, false, false, false, false] rfl rfl (any_of HT_.out (by kernel_rfl)) (fun _ _ _ h => h) (Or.inl ⟨by rfl, ?_⟩) ?_ ?_
                                                                  rotate_left
                                                                  · intro w'
                                                                    go_simp
                                                                    with_reducible rfl
                                                                  rotate_left
                                                                  · simp only [Act.put, List.setIfInBounds_toArray, List.set_cons_zero, List.set_cons_succ, i64_w, i32_w]
                                                                    rfl
                                                                  refine pure_ (i := 9) (N := some 132) (v := ?_) (a' := ?_) #[true, true, true, false, true, true, true, false, false, true, false, false, false, false, false, false, false] rfl rfl (any_of HT_.out (by kernel_rfl)) (fun _ _ _ h => h) (Or.inl ⟨by rfl, ?_⟩) ?_ ?_
                                                                  rotate_left
                                                                  · intro w'
                                                                    go_simp
                                                                    with_reducible rfl
                                                                  rotate_left
                                                                  · simp only [Act.put, List.setIfInBounds_toArray, List.set_cons_zero, List.set_cons_succ, i64_w, i32_w]
                                                                    rfl
                                                                  refine pure_ (i := 10) (N := some 133) (v := ?_) (a' := ?_) #[true, true, true, false, true, true, true, false, false, true, true, false, false, false, false, false, false] rfl rfl (any_of HT_.out (by kernel_rfl)) (fun _ _ _ h => h) (Or.inl ⟨by rfl, ?_⟩) ?_ ?_
                                                                  rotate_left
                                                                  · intro w'
                                                                    go_simp
                                                                    with_reducible rfl
                                                                  rotate_left
                                                                  · simp only [Act.put, List.setIfInBounds_toArray, List.set_cons_zero, List.set_cons_succ, i64_w, i32_w]
                                                                    rfl
                                                                  refine pure_ (i := 11) (N := some 134) (v := ?_) (a' := ?_) #[true, true, true, false, true, true, true, false, false, true, true, true, false, false, false, false, false] rfl rfl (any_of HT_.out (by kernel_rfl)) (fun _ _ _ h => h) (Or.inl ⟨by rfl, ?_⟩) ?_ ?_
                                                                  rotate_left
                                                                  · intro w'
                                                                    go_simp
                                                                    with_reducible rfl
                                                                  rotate_left
                                                                  · simp only [Act.put, List.setIfInBounds_toArray, List.set_cons_zero, List.set_cons_succ, i64_w, i32_w]
                                                                    rfl
                                                                  refine pure_ (i := 12) (N := some 135) (v := ?_) (a' := ?_) #[true, true, true, false, true, true, true, false, false, true, true, true, true, false, false, false, false] rfl rfl (any_of HT_.out (by kernel_rfl)) (fun _ _ _ h => h) (Or.inl ⟨by rfl, ?_⟩) ?_ ?_
                                                                  rotate_left
                                                                  · intro w'
                                                                    go_simp
                                                                    with_reducible rfl
                                                                  rotate_left
                                                                  · simp only [Act.put, List.setIfInBounds_toArray, List.set_cons_zero, List.set_cons_succ, i64_w, i32_w]
                                                                    rfl
                                                                  refine pure_ (i := 13) (N := some 136) (v := ?_) (a' := ?_) #[true, true, true, false, true, true, true, false, false, true, true, true, true, true, false, false, false] rfl rfl (any_of HT_.out (by kernel_rfl)) (fun _ _ _ h => h) (Or.inl ⟨by rfl, ?_⟩) ?_ ?_
                                                                  rotate_left
                                                                  · intro w'
                                                                    go_simp
                                                                    with_reducible rfl
                                                                  rotate_left
                                                                  · simp only [Act.put, List.setIfInBounds_toArray, List.set_cons_zero, List.set_cons_succ, i64_w, i32_w]
                                                                    rfl
                                                                  refine pure_ (i := 14) (N := some 137) (v := ?_) (a' := ?_) #[true, true, true, false, true, true, true, false, false, true, true, true, true, true, true, false, false] rfl rfl (any_of HT_.out (by kernel_rfl)) (fun _ _ _ h => h) (Or.inl ⟨by rfl, ?_⟩) ?_ ?_
                                                                  rotate_left
                                                                  · intro w'
                                                                    go_simp
                                                                    with_reducible rfl
                                                                  rotate_left
                                                                  · simp only [Act.put, List.setIfInBounds_toArray, List.set_cons_zero, List.set_cons_succ, i64_w, i32_w]
                                                                    rfl
                                                                  refine take_ (i := 3) (N := some 126) (v := ?_) (a' := ?_) #[true, true, true, true, true, true, true, false, false, true, true, true, true, true, true, false, false] rfl rfl (take_ofW HT_.out HW_.out (by kernel_rfl)) (fun _ _ _ h => h) (Or.inl ⟨by rfl, ?_⟩) hHeld ?_ ?_
                                                                  rotate_left
                                                                  · rintro w' ⟨s0, s1, s2⟩
                                                                    go_simp
                                                                    with_reducible rfl
                                                                  rotate_left
                                                                  · simp only [Act.put, List.setIfInBounds_toArray, List.set_cons_zero, List.set_cons_succ, i64_w, i32_w]
                                                                    rfl
                                                                  refine take_ (i := 7) (N := some 130) (v := ?_) (a' := ?_) #[true, true, true, true, true, true, true, true, false, true, true, true, true, true, true, false, false] rfl rfl (take_ofW HT_.out HW_.out (by kernel_rfl)) (fun _ _ _ h => h) (Or.inl ⟨by rfl, ?_⟩) hHeld ?_ ?_
                                                                  rotate_left
                                                                  · rintro w' ⟨s0, s1, s2⟩
                                                                    go_simp
                                                                    with_reducible rfl
                                                                  rotate_left
                                                                  · simp only [Act.put, List.setIfInBounds_toArray, List.set_cons_zero, List.set_cons_succ, i64_w, i32_w]
                                                                    rfl
                                                                  refine pure_ (i := 8) (N := some 131) (v := ?_) (a' := ?_) #[true, true, true, true, true, true, true, true, true, true, true, true, true, true, true, false, false] rfl rfl (any_of HT_.out (by kernel_rfl)) (fun _ _ _ h => h) (Or.inl ⟨by rfl, ?_⟩) ?_ ?_
                                                                  rotate_left
                                                                  · intro w'
                                                                    go_simp
                                                                    with_reducible rfl
                                                                  rotate_left
                                                                  · simp only [Act.put, List.setIfInBounds_toArray, List.set_cons_zero, List.set_cons_succ, i64_w, i32_w]
                                                                    rfl
                                                                  refine take_ (i := 15) (N := some 138) (v := ?_) (a' := ?_) #[true, true, true, true, true, true, true, true, true, true, true, true, true, true, true, true, false] rfl rfl (take_ofW HT_.out HW_.out (by kernel_rfl)) (fun _ _ _ h => h) (Or.inl ⟨by rfl, ?_⟩) hHeld ?_ ?_
                                                                  rotate_left
                                                                  · rintro w' ⟨s0, s1, s2⟩
                                                                    go_simp
                                                                    with_reducible rfl
                                                                  rotate_left
                                                                  · simp only [Act.put, List.setIfInBounds_toArray, List.set_cons_zero, List.set_cons_succ, i64_w, i32_w]
                                                                    rfl
                                                                  refine pure_ (i := 16) (N := some 139) (v := ?_) (a' := ?_) #[true, true, true, true, true, true, true, true, true, true, true, true, true, true, true, true, true] rfl rfl (any_of HT_.out (by kernel_rfl)) (fun _ _ _ h => h) (Or.inl ⟨by rfl, ?_⟩) ?_ ?_
                                                                  rotate_left
                                                                  · intro w'
                                                                    go_simp
                                                                    with_reducible rfl
                                                                  rotate_left
                                                                  · simp only [Act.put, List.setIfInBounds_toArray, List.set_cons_zero, List.set_cons_succ, i64_w, i32_w]
                                                                    rfl
                                                                  refine done_ (done_of HT_.out (by kernel_rfl)) ?_
                                                                  try go_wp2
                                                                  go_roundg k6
                                                                  case measure => have := HJ3.out; have := HJ31.out; have := HK3.out; have := HJ54.out; have := HJ65.out; have := HK6.out; omega
                                                                  case rel => exact ⟨(wrap64 (x16_6 + 1)), (by first | rfl | (simp; done) | (simp [*]; done)), H', ⟨by have := HJ3.out; have := HJ31.out; have := HK3.out; have := HJ54.out; have := HJ65.out; have := HK6.out; omega⟩, ⟨by (with_reducible repeat (first | apply Kd.R_alloc | apply Kd.R_drewN | apply Kd.R_drew)); exact HO_7.out⟩, ⟨by (with_reducible repeat (first | apply Kd.R_alloc | apply Kd.R_drewN | apply Kd.R_drew)); exact HO_9.out⟩, ⟨by (with_reducible repeat (first | apply Kd.R_alloc | apply Kd.R_drewN | apply Kd.R_drew)); exact HO_11.out⟩, ⟨by (with_reducible repeat (first | apply Kd.R_alloc | apply Kd.R_drewN | apply Kd.R_drew)); exact HO_14.out⟩, ⟨by (with_reducible repeat (first | refine blk_drewN ?_ _ | refine blk_drew ?_ | refine blk_alloc ?_ _)); exact BK120.out⟩, ⟨by (with_reducible repeat (first | refine blk_drewN ?_ _ | refine blk_drew ?_ | refine blk_alloc ?_ _)); exact BK121.out⟩, ⟨by repeat (first | (with_reducible exact HR162.out) | (with_reducible refine Kd.C_alloc ?_ _) | (with_reducible refine Kd.C_drewN ?_ _) | (with_reducible refine Kd.C_drew ?_) | exact HR162.out)⟩, ⟨by repeat (first | (with_reducible first | exact HB.out | apply below_alloc | apply pw_below_drewN | apply below_drew1 | refine below_set ?_ GE120.out | refine below_set ?_ GE121.out) | exact HB.out)⟩⟩
                                                                · rw [if_neg c81] at H
                                                                  have c81b0 : ((wrap64 ((rd t166 x16_6) + (rd t145 x13_3))) == (rd t145 (ji78))) = false := beq_eq_false_iff_ne.mpr c81
                                                                  have c81b1 : ((wrap64 ((rd t166 x16_6) + (rd t145 x13_3))) != (rd t145 (ji78))) = true := bne_iff_ne.mpr c81
                                                                  obtain rfl := Option.some.inj H
                                                                  obtain ⟨Ao84, co84, eo84⟩ := Kd.R_slice HO_14.out
                                                                  subst eo84
                                                                  try go_wp2
                                                                  have n0_ := Aside0.mk (Kd.R_drew HO_7.out)
                                                                  have n1_ := Aside0.mk (Kd.R_drew HO_9.out)
                                                                  have n2_ := Aside0.mk (Kd.R_drew HO_11.out)
                                                                  have n3_ := Aside0.mk (Kd.R_drew HO_14.out)
                                                                  have n4_ := Aside0.mk (blk_drew BK120.out)
                                                                  have n5_ := Aside0.mk (blk_drew BK121.out)
                                                                  have n6_ := Aside0.mk (Kd.C_drew HR162.out)
                                                                  have n7_ := Aside0.mk (below_drew1 HB.out)
                                                                  clear HO_7
                                                                  clear HO_9
                                                                  clear HO_11
                                                                  clear HO_14
                                                                  clear BK120
                                                                  clear BK121
                                                                  clear HR162
                                                                  clear HB
                                                                  have HO_7 := n0_
                                                                  have HO_9 := n1_
                                                                  have HO_11 := n2_
                                                                  have HO_14 := n3_
                                                                  have BK120 := n4_
                                                                  have BK121 := n5_
                                                                  have HR162 := n6_
                                                                  have HB := n7_
                                                                  clear n0_ n1_ n2_ n3_ n4_ n5_ n6_ n7_
                                                                  have p170 : 0 ≤ (x16_6 : Int) := of_decide_eq_true (by first | (with_reducible assumption) | assumption)
                                                                  have q170 : x16_6 < (t166.length : Int) := of_decide_eq_true (by first | (with_reducible assumption) | assumption)
                                                                  obtain ⟨ad170, e170, hx170_0⟩ := Kd.at_int (Kd.R_reads' HO_14.out).2.2 x16_6 p170 q170
                                                                  cases e170
                                                                  replace p170 := eq_true p170
                                                                  replace q170 := eq_true q170
                                                                  have p171 : 0 ≤ (x13_3 : Int) := of_decide_eq_true (by first | (with_reducible assumption) | assumption)
                                                                  have q171 : x13_3 < (t145.length : Int) := of_decide_eq_true (by first | (with_reducible assumption) | assumption)
                                                                  obtain ⟨ad171, e171, hx171_0⟩ := Kd.at_int (Kd.R_reads' HO_9.out).2.2 x13_3 p171 q171
                                                                  obtain rfl : ad158 = ad171 := (by injection e171)
                                                                  replace p171 := eq_true p171
                                                                  replace q171 := eq_true q171
                                                                  have p172 : 0 ≤ ((ji78) : Int) := of_decide_eq_true (by first | (with_reducible assumption) | assumption)
                                                                  have q172 : (ji78) < (t145.length : Int) := of_decide_eq_true (by first | (with_reducible assumption) | assumption)
                                                                  obtain ⟨ad172, e172, hx172_0⟩ := Kd.at_int (Kd.R_reads' HO_9.out).2.2 (ji78) p172 q172
                                                                  obtain rfl : ad158 = ad172 := (by injection e172)
                                                                  replace p172 := eq_true p172
                                                                  replace q172 := eq_true q172
                                                                  refine start_ (n := 17) (S := fun w' => w'.cell? (ad170.add (x16_6).toNat) = some (.int .i64 (rd t166 x16_6)) ∧ w'.cell? (ad158.add (x13_3).toNat) = some (.int .i64 (rd t145 x13_3)) ∧ w'.cell? (ad158.add ((ji78)).toNat) = some (.int .i64 (rd t145 (ji78)))) (ds := []) #[false, false, false, false, false, false, false, false, false, false, false, false, false, false, false, false, false] (by kernel_rfl) rfl rfl ⟨hx170_0, hx171_0, hx172_0⟩ (fun hHeld => ?_); refine with_tabW remoralaw11_GearSame.tab20 remoralaw11_GearSame.bits20 (fun HT_ HW_ => ?_)
                                                                  generalize wr.drew = w85 at HO_7 HO_9 HO_11 HO_14 BK120 BK121 HR162 HB hx170_0 hx171_0 hx172_0 hHeld ⊢
                                                                  refine pure_ (i := 0) (N := some 123) (v := ?_) (a' := ?_) #[true, false, false, false, false, false, false, false, false, false, false, false, false, false, false, false, false] rfl rfl (any_of HT_.out (by kernel_rfl)) (fun _ _ _ h => h) (Or.inl ⟨by rfl, ?_⟩) ?_ ?_
                                                                  rotate_left
                                                                  · intro w'
                                                                    go_simp
                                                                    with_reducible rfl
                                                                  rotate_left
                                                                  · simp only [Act.put, List.setIfInBounds_toArray, List.set_cons_zero, List.set_cons_succ, i64_w, i32_w]
                                                                    rfl
                                                                  refine pure_ (i := 1) (N := some 124) (v := ?_) (a' := ?_) #[true, true, false, false, false, false, false, false, false, false, false, false, false, false, false, false, false] rfl rfl (any_of HT_.out (by kernel_rfl)) (fun _ _ _ h => h) (Or.inl ⟨by rfl, ?_⟩) ?_ ?_
                                                                  rotate_left
                                                                  · intro w'
                                                                    go_simp
                                                                    with_reducible rfl
                                                                  rotate_left
                                                                  · simp only [Act.put, List.setIfInBounds_toArray, List.set_cons_zero, List.set_cons_succ, i64_w, i32_w]
                                                                    rfl
                                                                  refine pure_ (i := 2) (N := some 125) (v := ?_) (a' := ?_) #[true, true, true, false, false, false, false, false, false, false, false, false, false, false, false, false, false] rfl rfl (any_of HT_.out (by kernel_rfl)) (fun _ _ _ h => h) (Or.inl ⟨by rfl, ?_⟩) ?_ ?_
                                                                  rotate_left
                                                                  · intro w'
                                                                    go_simp
                                                                    with_reducible rfl
                                                                  rotate_left
                                                                  · simp only [Act.put, List.setIfInBounds_toArray, List.set_cons_zero, List.set_cons_succ, i64_w, i32_w]
                                                                    rfl
                                                                  refine pure_ (i := 4) (N := some 127) (v := ?_) (a' := ?_) #[true, true, true, false, true, false, false, false, false, false, false, false, false, false, false, false, false] rfl rfl (any_of HT_.out (by kernel_rfl)) (fun _ _ _ h => h) (Or.inl ⟨by rfl, ?_⟩) ?_ ?_
                                                                  rotate_left
                                                                  · intro w'
                                                                    go_simp
                                                                    with_reducible rfl
                                                                  rotate_left
                                                                  · simp only [Act.put, List.setIfInBounds_toArray, List.set_cons_zero, List.set_cons_succ, i64_w, i32_w]
                                                                    rfl
                                                                  refine pure_ (i := 5) (N := some 128) (v := ?_) (a' := ?_) #[true, true, true, false, true, true, false, false, false, false, false, false, false, false, false, false, false] rfl rfl (any_of HT_.out (by kernel_rfl)) (fun _ _ _ h => h) (Or.inl ⟨by rfl, ?_⟩) ?_ ?_
                                                                  rotate_left
                                                                  · intro w'
                                                                    go_simp
                                                                    with_reducible rfl
                                                                  rotate_left
                                                                  · simp only [Act.put, List.setIfInBounds_toArray, List.set_cons_zero, List.set_cons_succ, i64_w, i32_w]
                                                                    rfl
                                                                  refine pure_ (i := 6) (N := some 129) (v := ?_) (a' := ?_) #[true, true, true, false, true, true, true, false, false, false, false, false, false, false, false, false, false] rfl rfl (any_of HT_.out (by kernel_rfl)) (fun _ _ _ h => h) (Or.inl ⟨by rfl, ?_⟩) ?_ ?_
                                                                  rotate_left
                                                                  · intro w'
                                                                    go_simp
                                                                    with_reducible rfl
                                                                  rotate_left
                                                                  · simp only [Act.put, List.setIfInBounds_toArray, List.set_cons_zero, List.set_cons_succ, i64_w, i32_w]
                                                                    rfl
                                                                  refine pure_ (i := 9) (N := some 132) (v := ?_) (a' := ?_) #[true, true, true, false, true, true, true, false, false, true, false, false, false, false, false, false, false] rfl rfl (any_of HT_.out (by kernel_rfl)) (fun _ _ _ h => h) (Or.inl ⟨by rfl, ?_⟩) ?_ ?_
                                                                  rotate_left
                                                                  · intro w'
                                                                    go_simp
                                                                    with_reducible rfl
                                                                  rotate_left
                                                                  · simp only [Act.put, List.setIfInBounds_toArray, List.set_cons_zero, List.set_cons_succ, i64_w, i32_w]
                                                                    rfl
                                                                  refine pure_ (i := 10) (N := some 133) (v := ?_) (a' := ?_) #[true, true, true, false, true, true, true, false, false, true, true, false, false, false, false, false, false] rfl rfl (any_of HT_.out (by kernel_rfl)) (fun _ _ _ h => h) (Or.inl ⟨by rfl, ?_⟩) ?_ ?_
                                                                  rotate_left
                                                                  · intro w'
                                                                    go_simp
                                                                    with_reducible rfl
                                                                  rotate_left
                                                                  · simp only [Act.put, List.setIfInBounds_toArray, List.set_cons_zero, List.set_cons_succ, i64_w, i32_w]
                                                                    rfl
                                                                  refine pure_ (i := 11) (N := some 134) (v := ?_) (a' := ?_) #[true, true, true, false, true, true, true, false, false, true, true, true, false, false, false, false, false] rfl rfl (any_of HT_.out (by kernel_rfl)) (fun _ _ _ h => h) (Or.inl ⟨by rfl, ?_⟩) ?_ ?_
                                                                  rotate_left
                                                                  · intro w'
                                                                    go_simp
                                                                    with_reducible rfl
                                                                  rotate_left
                                                                  · simp only [Act.put, List.setIfInBounds_toArray, List.set_cons_zero, List.set_cons_succ, i64_w, i32_w]
                                                                    rfl
                                                                  refine pure_ (i := 12) (N := some 135) (v := ?_) (a' := ?_) #[true, true, true, false, true, true, true, false, false, true, true, true, true, false, false, false, false] rfl rfl (any_of HT_.out (by kernel_rfl)) (fun _ _ _ h => h) (Or.inl ⟨by rfl, ?_⟩) ?_ ?_
                                                                  rotate_left
                                                                  · intro w'
                                                                    go_simp
                                                                    with_reducible rfl
                                                                  rotate_left
                                                                  · simp only [Act.put, List.setIfInBounds_toArray, List.set_cons_zero, List.set_cons_succ, i64_w, i32_w]
                                                                    rfl
                                                                  refine pure_ (i := 13) (N := some 136) (v := ?_) (a' := ?_) #[true, true, true, false, true, true, true, false, false, true, true, true, true, true, false, false, false] rfl rfl (any_of HT_.out (by kernel_rfl)) (fun _ _ _ h => h) (Or.inl ⟨by rfl, ?_⟩) ?_ ?_
                                                                  rotate_left
                                                                  · intro w'
                                                                    go_simp
                                                                    with_reducible rfl
                                                                  rotate_left
                                                                  · simp only [Act.put, List.setIfInBounds_toArray, List.set_cons_zero, List.set_cons_succ, i64_w, i32_w]
                                                                    rfl
                                                                  refine pure_ (i := 14) (N := some 137) (v := ?_) (a' := ?_) #[true, true, true, false, true, true, true, false, false, true, true, true, true, true, true, false, false] rfl rfl (any_of HT_.out (by kernel_rfl)) (fun _ _ _ h => h) (Or.inl ⟨by rfl, ?_⟩) ?_ ?_
                                                                  rotate_left
                                                                  · intro w'
                                                                    go_simp
                                                                    with_reducible rfl
                                                                  rotate_left
                                                                  · simp only [Act.put, List.setIfInBounds_toArray, List.set_cons_zero, List.set_cons_succ, i64_w, i32_w]
                                                                    rfl
                                                                  refine take_ (i := 3) (N := some 126) (v := ?_) (a' := ?_) #[true, true, true, true, true, true, true, false, false, true, true, true, true, true, true, false, false] rfl rfl (take_ofW HT_.out HW_.out (by kernel_rfl)) (fun _ _ _ h => h) (Or.inl ⟨by rfl, ?_⟩) hHeld ?_ ?_
                                                                  rotate_left
                                                                  · rintro w' ⟨s0, s1, s2⟩
                                                                    go_simp
                                                                    with_reducible rfl
                                                                  rotate_left
                                                                  · simp only [Act.put, List.setIfInBounds_toArray, List.set_cons_zero, List.set_cons_succ, i64_w, i32_w]
                                                                    rfl
                                                                  refine take_ (i := 7) (N := some 130) (v := ?_) (a' := ?_) #[true, true, true, true, true, true, true, true, false, true, true, true, true, true, true, false, false] rfl rfl (take_ofW HT_.out HW_.out (by kernel_rfl)) (fun _ _ _ h => h) (Or.inl ⟨by rfl, ?_⟩) hHeld ?_ ?_
                                                                  rotate_left
                                                                  · rintro w' ⟨s0, s1, s2⟩
                                                                    go_simp
                                                                    with_reducible rfl
                                                                  rotate_left
                                                                  · simp only [Act.put, List.setIfInBounds_toArray, List.set_cons_zero, List.set_cons_succ, i64_w, i32_w]
                                                                    rfl
                                                                  refine pure_ (i := 8) (N := some 131) (v := ?_) (a' := ?_) #[true, true, true, true, true, true, true, true, true, true, true, true, true, true, true, false, false] rfl rfl (any_of HT_.out (by kernel_rfl)) (fun _ _ _ h => h) (Or.inl ⟨by rfl, ?_⟩) ?_ ?_
                                                                  rotate_left
                                                                  · intro w'
                                                                    go_simp
                                                                    with_reducible rfl
                                                                  rotate_left
                                                                  · simp only [Act.put, List.setIfInBounds_toArray, List.set_cons_zero, List.set_cons_succ, i64_w, i32_w]
                                                                    rfl
                                                                  refine take_ (i := 15) (N := some 138) (v := ?_) (a' := ?_) #[true, true, true, true, true, true, true, true, true, true, true, true, true, true, true, true, false] rfl rfl (take_ofW HT_.out HW_.out (by kernel_rfl)) (fun _ _ _ h => h) (Or.inl ⟨by rfl, ?_⟩) hHeld ?_ ?_
                                                                  rotate_left
                                                                  · rintro w' ⟨s0, s1, s2⟩
                                                                    go_simp
                                                                    with_reducible rfl
                                                                  rotate_left
                                                                  · simp only [Act.put, List.setIfInBounds_toArray, List.set_cons_zero, List.set_cons_succ, i64_w, i32_w]
                                                                    rfl
                                                                  refine pure_ (i := 16) (N := some 139) (v := ?_) (a' := ?_) #[true, true, true, true, true, true, true, true, true, true, true, true, true, true, true, true, true] rfl rfl (any_of HT_.out (by kernel_rfl)) (fun _ _ _ h => h) (Or.inl ⟨by rfl, ?_⟩) ?_ ?_
                                                                  rotate_left
                                                                  · intro w'
                                                                    go_simp
                                                                    with_reducible rfl
                                                                  rotate_left
                                                                  · simp only [Act.put, List.setIfInBounds_toArray, List.set_cons_zero, List.set_cons_succ, i64_w, i32_w]
                                                                    rfl
                                                                  refine done_ (done_of HT_.out (by kernel_rfl)) ?_
                                                                  try go_wp2
                                                                  go_ret
                                                                  exact ⟨by first | rfl | (simp [errW_none, errW_some] <;> rfl) | (simp only [← hji78]; first | rfl | (simp [errW_none, errW_some] <;> rfl)) | (simp [*, errW_none, errW_some] <;> rfl), by repeat (first | (with_reducible first | exact HB.out | apply below_alloc | apply pw_below_drewN | apply below_drew1 | refine below_set ?_ GE120.out | refine below_set ?_ GE121.out) | exact HB.out)⟩
                                                              · rw [if_neg c80] at H
                                                                exact absurd H (by simp)
                                                            · rw [if_neg c79] at H
                                                              exact absurd H (by simp)
                                                          · rw [if_neg c77] at H
                                                            exact absurd H (by simp)
                                                        · rw [if_neg c76] at H
                                                          exact absurd H (by simp)
                                                      · rw [if_neg c75] at H
                                                        exact absurd H (by simp)
                                                    · rw [if_neg c74] at H
                                                      have c74b0 : decide (x16_6 < (t166.length : Int)) = false := decide_eq_false c74
                                                      clear c74
                                                      have H' := Aside0.mk H
                                                      clear H
                                                      obtain ⟨Ao86, co86, eo86⟩ := Kd.R_slice HO_14.out
                                                      subst eo86
                                                      go_wp2
                                                      go_roundg k6
                                                      case measure => have := HJ3.out; have := HJ31.out; have := HK3.out; have := HJ54.out; have := HJ65.out; have := HK6.out; omega
                                                      case rel => exact ⟨(wrap64 (x13_3 + 1)), (by first | rfl | (simp; done) | (simp [*]; done)), H', ⟨by have := HJ3.out; have := HJ31.out; have := HK3.out; have := HJ54.out; have := HJ65.out; have := HK6.out; omega⟩, ⟨by (with_reducible repeat (first | apply Kd.R_alloc | apply Kd.R_drewN | apply Kd.R_drew)); exact HO_7.out⟩, ⟨by (with_reducible repeat (first | apply Kd.R_alloc | apply Kd.R_drewN | apply Kd.R_drew)); exact Kd.R_mono HO_9.out (fun _ hk => hk.1)⟩, ⟨by (with_reducible repeat (first | apply Kd.R_alloc | apply Kd.R_drewN | apply Kd.R_drew)); exact Kd.R_mono HO_11.out (fun _ hk => hk.1)⟩, ⟨by (with_reducible repeat (first | refine blk_drewN ?_ _ | refine blk_drew ?_ | refine blk_alloc ?_ _)); exact BK120.out⟩, ⟨by (with_reducible repeat (first | refine blk_drewN ?_ _ | refine blk_drew ?_ | refine blk_alloc ?_ _)); exact BK121.out⟩, ⟨by repeat (first | (with_reducible first | exact HB.out | apply below_alloc | apply pw_below_drewN | apply below_drew1 | refine below_set ?_ GE120.out | refine below_set ?_ GE121.out) | exact HB.out)⟩⟩
                                        · rw [if_neg c63] at H
                                          exact absurd H (by simp)
                                      · rw [if_neg c62] at H
                                        exact absurd H (by simp)
                                    · rw [if_neg c61] at H
                                      exact absurd H (by simp)
                                  · rw [if_neg c60] at H
                                    exact absurd H (by simp)
                          · rw [if_neg c54] at H
                            have c54b0 : decide (x13_3 < (t145.length : Int)) = false := decide_eq_false c54
                            clear c54
                            replace H := Option.bind_eq_some_iff.mp H
                            obtain ⟨t173, A870, H⟩ := H
                            replace H : ((remoralaw11_place.f k3 t152 (l0_1.length : Int)).bind fun t174 => (if t173 < 0 then (remoralaw11_GearSame.j6 k3 t145 t152 t173 t174 true l0_0 l0_1) else (remoralaw11_GearSame.j6 k3 t145 t152 t173 t174 (decide (t174 < 0)) l0_0 l0_1))) = some r := H
                            have A87 := Aside0.mk A870
                            clear A870
                            replace H := Option.bind_eq_some_iff.mp H
                            obtain ⟨t174, A880, H⟩ := H
                            replace H : (if t173 < 0 then (remoralaw11_GearSame.j6 k3 t145 t152 t173 t174 true l0_0 l0_1) else (remoralaw11_GearSame.j6 k3 t145 t152 t173 t174 (decide (t174 < 0)) l0_0 l0_1)) = some r := H
                            have A88 := Aside0.mk A880
                            clear A880
                            have HC89 := Aside0.mk H
                            clear H
                            obtain ⟨Ao90, co90, eo90⟩ := Kd.R_slice HO_9.out
                            subst eo90
                            try go_wp2
                            have n0_ := Aside0.mk (Kd.R_drew HO_7.out)
                            have n1_ := Aside0.mk (Kd.R_drew HO_9.out)
                            have n2_ := Aside0.mk (Kd.R_drew HO_11.out)
                            have n3_ := Aside0.mk (blk_drew BK120.out)
                            have n4_ := Aside0.mk (blk_drew BK121.out)
                            have n5_ := Aside0.mk (below_drew1 HB.out)
                            clear HO_7
                            clear HO_9
                            clear HO_11
                            clear BK120
                            clear BK121
                            clear HB
                            have HO_7 := n0_
                            have HO_9 := n1_
                            have HO_11 := n2_
                            have BK120 := n3_
                            have BK121 := n4_
                            have HB := n5_
                            clear n0_ n1_ n2_ n3_ n4_ n5_
                            refine start_ (n := 12) (S := fun w' => w'.cell? ⟨gb120, 0, none⟩ = some (.slice A0_0 l0_0.length c0_0) ∧ w'.cell? ⟨gb120, 1, none⟩ = some (.slice A0_1 l0_1.length c0_1)) (ds := []) #[false, false, false, false, false, false, false, false, false, false, false, false] (by kernel_rfl) rfl rfl ⟨(blk_cell BK120.out 0).trans rfl, (blk_cell BK120.out 1).trans rfl⟩ (fun hHeld => ?_); refine with_tabW remoralaw11_GearSame.tab22 remoralaw11_GearSame.bits22 (fun HT_ HW_ => ?_)
                            generalize wr.drew = w91 at HO_7 HO_9 HO_11 BK120 BK121 HB hHeld ⊢
                            refine pure_ (i := 0) (N := some 140) (v := ?_) (a' := ?_) #[true, false, false, false, false, false, false, false, false, false, false, false] rfl rfl (any_of HT_.out (by kernel_rfl)) (fun _ _ _ h => h) (Or.inl ⟨by rfl, ?_⟩) ?_ ?_
                            rotate_left
                            · intro w'
                              go_simp
                              with_reducible rfl
                            rotate_left
                            · simp only [Act.put, List.setIfInBounds_toArray, List.set_cons_zero, List.set_cons_succ, i64_w, i32_w]
                              rfl
                            refine pure_ (i := 1) (N := some 141) (v := ?_) (a' := ?_) #[true, true, false, false, false, false, false, false, false, false, false, false] rfl rfl (any_of HT_.out (by kernel_rfl)) (fun _ _ _ h => h) (Or.inl ⟨by rfl, ?_⟩) ?_ ?_
                            rotate_left
                            · intro w'
                              go_simp
                              with_reducible rfl
                            rotate_left
                            · simp only [Act.put, List.setIfInBounds_toArray, List.set_cons_zero, List.set_cons_succ, i64_w, i32_w]
                              rfl
                            refine pure_ (i := 5) (N := some 145) (v := ?_) (a' := ?_) #[true, true, false, false, false, true, false, false, false, false, false, false] rfl rfl (any_of HT_.out (by kernel_rfl)) (fun _ _ _ h => h) (Or.inl ⟨by rfl, ?_⟩) ?_ ?_
                            rotate_left
                            · intro w'
                              go_simp
                              with_reducible rfl
                            rotate_left
                            · simp only [Act.put, List.setIfInBounds_toArray, List.set_cons_zero, List.set_cons_succ, i64_w, i32_w]
                              rfl
                            refine pure_ (i := 6) (N := some 146) (v := ?_) (a' := ?_) #[true, true, false, false, false, true, true, false, false, false, false, false] rfl rfl (any_of HT_.out (by kernel_rfl)) (fun _ _ _ h => h) (Or.inl ⟨by rfl, ?_⟩) ?_ ?_
                            rotate_left
                            · intro w'
                              go_simp
                              with_reducible rfl
                            rotate_left
                            · simp only [Act.put, List.setIfInBounds_toArray, List.set_cons_zero, List.set_cons_succ, i64_w, i32_w]
                              rfl
                            refine take_ (i := 2) (N := some 142) (v := ?_) (a' := ?_) #[true, true, true, false, false, true, true, false, false, false, false, false] rfl rfl (take_ofW HT_.out HW_.out (by kernel_rfl)) (fun _ _ _ h => h) (Or.inl ⟨by rfl, ?_⟩) hHeld ?_ ?_
                            rotate_left
                            · rintro w' ⟨s0, s1⟩
                              go_simp
                              with_reducible rfl
                            rotate_left
                            · simp only [Act.put, List.setIfInBounds_toArray, List.set_cons_zero, List.set_cons_succ, i64_w, i32_w]
                              rfl
                            refine pure_ (i := 3) (N := some 143) (v := ?_) (a' := ?_) #[true, true, true, true, false, true, true, false, false, false, false, false] rfl rfl (any_of HT_.out (by kernel_rfl)) (fun _ _ _ h => h) (Or.inl ⟨by rfl, ?_⟩) ?_ ?_
                            rotate_left
                            · intro w'
                              go_simp
                              with_reducible rfl
                            rotate_left
                            · simp only [Act.put, List.setIfInBounds_toArray, List.set_cons_zero, List.set_cons_succ, i64_w, i32_w]
                              rfl
                            refine take_ (i := 7) (N := some 147) (v := ?_) (a' := ?_) #[true, true, true, true, false, true, true, true, false, false, false, false] rfl rfl (take_ofW HT_.out HW_.out (by kernel_rfl)) (fun _ _ _ h => h) (Or.inl ⟨by rfl, ?_⟩) hHeld ?_ ?_
                            rotate_left
                            · rintro w' ⟨s0, s1⟩
                              go_simp
                              with_reducible rfl
                            rotate_left
                            · simp only [Act.put, List.setIfInBounds_toArray, List.set_cons_zero, List.set_cons_succ, i64_w, i32_w]
                              rfl
                            refine pure_ (i := 8) (N := some 148) (v := ?_) (a' := ?_) #[true, true, true, true, false, true, true, true, true, false, false, false] rfl rfl (any_of HT_.out (by kernel_rfl)) (fun _ _ _ h => h) (Or.inl ⟨by rfl, ?_⟩) ?_ ?_
                            rotate_left
                            · intro w'
                              go_simp
                              with_reducible rfl
                            rotate_left
                            · simp only [Act.put, List.setIfInBounds_toArray, List.set_cons_zero, List.set_cons_succ, i64_w, i32_w]
                              rfl
                            refine one_ (i := 4) (N := some 144) #[true, true, true, true, true, true, true, true, true, false, false, false] rfl rfl (one_of HT_.out (by kernel_rfl)) (by decide) (fun K hK => ?_)
                            refine goes_ Tryd.func19 (by kernel_rfl) rfl #[.slice Ao90 t145.length co90, .int .i64 (l0_0.length : Int)] (by rfl) rfl rfl (by (try simp only [List.map_toArray, List.map_cons, List.map_nil]); first | done | rfl | (simp only [List.length_drop, List.length_take]; rfl)) ?_
                            with_reducible refine (remoralaw11_place.calls k3 _ _ t145 (l0_0.length : Int) t173 _ ?side1 ?side2 A87.out).mono ?_
                            (case side1 => repeat (first | exact (Kd.R_reads' HO_9.out).2.2 | (with_reducible refine Kd.C_alloc ?_ _) | (with_reducible refine Kd.C_drewN ?_ _) | (with_reducible refine Kd.C_drew ?_)))
                            (case side2 => exact (Kd.R_reads' HO_9.out).2.1)
                            rintro e w' ⟨rfl, ⟨nd, rfl⟩⟩
                            refine ⟨_, rfl, ?_⟩
                            obtain ⟨Ao92, co92, eo92⟩ := Kd.R_slice HO_11.out
                            (first | subst eo92 | (injection eo92 with f1_ f2_ f3_; have f4_ := f1_.symm; have f5_ := f3_.symm; clear f1_ f2_ f3_; subst f4_; subst f5_))
                            refine hK.out _ _ ⟨(blk_cell BK120.out 0).trans rfl, (blk_cell BK120.out 1).trans rfl⟩ (fun hHeld => ?_)
                            clear hK K
                            refine norm_ (a' := ?_) ?_ ?_
                            rotate_left
                            · show Act.put _ (some 144) _ = _
                              simp only [Act.put, List.setIfInBounds_toArray, List.set_cons_zero, List.set_cons_succ, i64_w, i32_w]
                              rfl
                            refine one_ (i := 9) (N := some 149) #[true, true, true, true, true, true, true, true, true, true, false, false] rfl rfl (one_of HT_.out (by kernel_rfl)) (by decide) (fun K hK => ?_)
                            refine goes_ Tryd.func19 (by kernel_rfl) rfl #[.slice Ao92 t152.length co92, .int .i64 (l0_1.length : Int)] (by rfl) rfl rfl (by (try simp only [List.map_toArray, List.map_cons, List.map_nil]); first | done | rfl | (simp only [List.length_drop, List.length_take]; rfl)) ?_
                            with_reducible refine (remoralaw11_place.calls k3 _ _ t152 (l0_1.length : Int) t174 _ ?side1 ?side2 A88.out).mono ?_
                            (case side1 => repeat (first | exact (Kd.R_reads' HO_11.out).2.2 | (with_reducible refine Kd.C_alloc ?_ _) | (with_reducible refine Kd.C_drewN ?_ _) | (with_reducible refine Kd.C_drew ?_)))
                            (case side2 => exact (Kd.R_reads' HO_11.out).2.1)
                            rintro e w' ⟨rfl, ⟨nd, rfl⟩⟩
                            refine ⟨_, rfl, ?_⟩
                            refine hK.out _ _ ⟨(blk_cell BK120.out 0).trans rfl, (blk_cell BK120.out 1).trans rfl⟩ (fun hHeld => ?_)
                            clear hK K
                            refine norm_ (a' := ?_) ?_ ?_
                            rotate_left
                            · show Act.put _ (some 149) _ = _
                              simp only [Act.put, List.setIfInBounds_toArray, List.set_cons_zero, List.set_cons_succ, i64_w, i32_w]
                              rfl
                            refine pure_ (i := 10) (N := some 17) (v := ?_) (a' := ?_) #[true, true, true, true, true, true, true, true, true, true, true, false] rfl rfl (any_of HT_.out (by kernel_rfl)) (fun _ _ _ h => h) (Or.inl ⟨by rfl, ?_⟩) ?_ ?_
                            rotate_left
                            · intro w'
                              go_simp
                              with_reducible rfl
                            rotate_left
                            · simp only [Act.put, List.setIfInBounds_toArray, List.set_cons_zero, List.set_cons_succ, i64_w, i32_w]
                              rfl
                            refine pure_ (i := 11) (N := some 18) (v := ?_) (a' := ?_) #[true, true, true, true, true, true, true, true, true, true, true, true] rfl rfl (any_of HT_.out (by kernel_rfl)) (fun _ _ _ h => h) (Or.inl ⟨by rfl, ?_⟩) ?_ ?_
                            rotate_left
                            · intro w'
                              go_simp
                              with_reducible rfl
                            rotate_left
                            · simp only [Act.put, List.setIfInBounds_toArray, List.set_cons_zero, List.set_cons_succ, i64_w, i32_w]
                              rfl
                            refine done_ (done_of HT_.out (by kernel_rfl)) ?_
                            go_upto_region 23 with (fail)
                            go_cut [155] (fun v155 wc => ∃ (kq : Nat) (x155_88 : Bool), v155 = .bool x155_88 ∧ Aside0 (remoralaw11_GearSame.j6 kq t145 t152 t173 t174 x155_88 l0_0 l0_1 = some r) ∧ Aside0 (kq ≤ k3) ∧ Aside0 (Kd.R (Kd.int .i64) 3 wc w.heap.size (fun k_ => some k_ ≠ ((.slice Ao92 t152.length co92) : Value).ownBlock) (.slice Ao90 t145.length co90) t145) ∧ Aside0 (Kd.R (Kd.int .i64) 3 wc w.heap.size (fun k_ => some k_ ≠ ((.slice Ao90 t145.length co90) : Value).ownBlock) (.slice Ao92 t152.length co92) t152) ∧ Aside0 (wc.heap[gb120]? = some (.cells #[(.slice A0_0 l0_0.length c0_0), (.slice A0_1 l0_1.length c0_1)] 37 (0, 0))) ∧ Aside0 (wc.heap[gb121]? = some (.cells #[.int .i64 a2_0, .int .i64 a2_1, .int .i64 a2_2] 23 (0, 0))) ∧ Aside0 (Below w.heap.size w wc))
                            case first =>
                              have H := HC89.out
                              clear HC89
                              by_cases c93 : t173 < 0
                              · rw [if_pos c93] at H
                                have c93b0 : decide (t173 < 0) = true := decide_eq_true c93
                                clear c93
                                (first | rw [c93b0] | (simp only [i64_w, i32_w]; rw [c93b0]) | skip)
                                have H' := Aside0.mk H
                                clear H
                                go_wp2
                                go_meet
                                case rel => exact ⟨_, (true), (by first | rfl | (simp; done) | (simp [*]; done)), H', ⟨by have := HJ3.out; have := HJ31.out; have := HK3.out; first | omega | exact Nat.le_refl _⟩, ⟨by (with_reducible repeat (first | apply Kd.R_alloc | apply Kd.R_drewN | apply Kd.R_drew)); exact HO_9.out⟩, ⟨by (with_reducible repeat (first | apply Kd.R_alloc | apply Kd.R_drewN | apply Kd.R_drew)); exact HO_11.out⟩, ⟨by (with_reducible repeat (first | refine blk_drewN ?_ _ | refine blk_drew ?_ | refine blk_alloc ?_ _)); exact BK120.out⟩, ⟨by (with_reducible repeat (first | refine blk_drewN ?_ _ | refine blk_drew ?_ | refine blk_alloc ?_ _)); exact BK121.out⟩, ⟨by repeat (first | (with_reducible first | exact HB.out | apply below_alloc | apply pw_below_drewN | apply below_drew1 | refine below_set ?_ GE120.out | refine below_set ?_ GE121.out) | exact HB.out)⟩⟩
                              · rw [if_neg c93] at H
                                have c93b0 : decide (t173 < 0) = false := decide_eq_false c93
                                clear c93
                                (first | rw [c93b0] | (simp only [i64_w, i32_w]; rw [c93b0]) | skip)
                                have H' := Aside0.mk H
                                clear H
                                go_wp2
                                go_meet
                                case rel => exact ⟨_, (decide (t174 < 0)), (by first | rfl | (simp; done) | (simp [*]; done)), H', ⟨by have := HJ3.out; have := HJ31.out; have := HK3.out; first | omega | exact Nat.le_refl _⟩, ⟨by (with_reducible repeat (first | apply Kd.R_alloc | apply Kd.R_drewN | apply Kd.R_drew)); exact HO_9.out⟩, ⟨by (with_reducible repeat (first | apply Kd.R_alloc | apply Kd.R_drewN | apply Kd.R_drew)); exact HO_11.out⟩, ⟨by (with_reducible repeat (first | refine blk_drewN ?_ _ | refine blk_drew ?_ | refine blk_alloc ?_ _)); exact BK120.out⟩, ⟨by (with_reducible repeat (first | refine blk_drewN ?_ _ | refine blk_drew ?_ | refine blk_alloc ?_ _)); exact BK121.out⟩, ⟨by repeat (first | (with_reducible first | exact HB.out | apply below_alloc | apply pw_below_drewN | apply below_drew1 | refine below_set ?_ GE120.out | refine below_set ?_ GE121.out) | exact HB.out)⟩⟩
                            case rest =>
                              clear HC89
                              try clear c1
                              try clear p1
                              try clear q1
                              try clear hx1
                              try clear p2
                              try clear c5
                              try clear c6
                              try clear p6
                              try clear c7
                              try clear c8
                              try clear c9
                              try clear p17
                              try clear q17
                              try clear hx17
                              try clear c19
                              try clear c54
                              try clear c54b0
                              try clear c60
                              try clear c61
                              try clear c62
                              try clear c63
                              try clear p64
                              try clear c74
                              try clear c74b0
                              try clear c75
                              try clear c76
                              try clear c77
                              try clear c79
                              try clear c79b0
                              try clear c80
                              try clear c80b0
                              try clear c81
                              try clear c81b0
                              try clear c81b1
                              try clear c93
                              try clear c93b0
                              try clear hx170_0
                              try clear hx171_0
                              try clear hx172_0
                              try clear p170
                              try clear p171
                              try clear p172
                              try clear q170
                              try clear q171
                              try clear q172
                              obtain ⟨kq, x155_88, rfl, HA, HJ88, HO_9, HO_11, BK120, BK121, HB⟩ := hcut
                              cases kq with
                              | zero => exact absurd HA.out (by simp [remoralaw11_GearSame.j6])
                              | succ kj88 =>
                                have H := HA.out
                                clear HA
                                simp only [remoralaw11_GearSame.j6] at H
                                by_cases c94 : x155_88 = true
                                · subst c94
                                  have H1 : ((remoralaw11_awake.f).bind fun t175 => (some t175)) = some r := by rw [if_pos rfl] at H; exact H
                                  clear H
                                  have H := H1
                                  clear H1
                                  replace H := Option.bind_eq_some_iff.mp H
                                  obtain ⟨t175, A950, H⟩ := H
                                  replace H : (some t175) = some r := H
                                  have A95 := Aside0.mk A950
                                  clear A950
                                  obtain rfl := Option.some.inj H
                                  go_wp2_with (first | ((with_reducible refine gate_callee (f := 15) rfl ?_); refine goesL_ (some 156) rfl rfl Tryd.func15 (by kernel_rfl) rfl #[] rfl (by (try simp only [List.map_toArray, List.map_cons, List.map_nil]); first | done | rfl | (simp only [List.length_drop, List.length_take]; rfl)) ?_; (with_reducible refine (remoralaw11_awake.calls  t175 _ A95.out ?sideG).mono ?_); (case sideG => first | exact hG.below (by repeat (first | (with_reducible first | exact HB.out | apply below_alloc | apply pw_below_drewN | apply below_drew1) | exact HB.out | exact Below.refl _ _)) | exact hG); rintro e w96 ⟨rfl, hb⟩; refine ⟨_, rfl, ?_⟩; have n0_ := Aside0.mk (Kd.R_below (by (with_reducible repeat (first | apply Kd.R_alloc | apply Kd.R_drewN | apply Kd.R_drew)); exact HO_9.out) hb); have n1_ := Aside0.mk (Kd.R_below (by (with_reducible repeat (first | apply Kd.R_alloc | apply Kd.R_drewN | apply Kd.R_drew)); exact HO_11.out) hb); have n2_ := Aside0.mk (blk_below (g := gb120) (o := .cells #[.slice A0_0 l0_0.length c0_0, .slice A0_1 l0_1.length c0_1] 37 (0, 0)) (by (with_reducible repeat (first | refine blk_drewN ?_ _ | refine blk_drew ?_ | refine blk_alloc ?_ _)); exact BK120.out) hb); have n3_ := Aside0.mk (blk_below (g := gb121) (o := .cells #[.int .i64 a2_0, .int .i64 a2_1, .int .i64 a2_2] 23 (0, 0)) (by (with_reducible repeat (first | refine blk_drewN ?_ _ | refine blk_drew ?_ | refine blk_alloc ?_ _)); exact BK121.out) hb); have n4_ := Aside0.mk (below_step (by repeat (first | (with_reducible first | exact HB.out | apply below_alloc | apply pw_below_drewN | apply below_drew1 | refine below_set ?_ GE120.out | refine below_set ?_ GE121.out) | exact HB.out)) hb); clear HO_9; clear HO_11; clear BK120; clear BK121; clear HB; have HO_9 := n0_; have HO_11 := n1_; have BK120 := n2_; have BK121 := n3_; have HB := n4_; clear n0_ n1_ n2_ n3_ n4_; (try clear hb); (try clear hb2); (try clear hk); (try clear hi)))
                                  go_ret
                                  exact ⟨by first | rfl | (simp [errW_none, errW_some] <;> rfl) | (simp [*, errW_none, errW_some] <;> rfl), by repeat (first | (with_reducible first | exact HB.out | apply below_alloc | apply pw_below_drewN | apply below_drew1 | refine below_set ?_ GE120.out | refine below_set ?_ GE121.out) | exact HB.out)⟩
                                · replace c94 := Bool.eq_false_iff.mpr c94
                                  subst c94
                                  have H1 : (if (wrap64 ((t145.length : Int) - t173)) = (wrap64 ((t152.length : Int) - t174)) then (remoralaw11_GearSame.l2 kj88 t145 t152 t173 t174 0 l0_0 l0_1) else (some false)) = some r := by rw [if_neg (show ¬ (false = true) by decide)] at H; exact H
                                  clear H
                                  have H := H1
                                  clear H1
                                  by_cases c97 : (wrap64 ((t145.length : Int) - t173)) = (wrap64 ((t152.length : Int) - t174))
                                  · rw [if_pos c97] at H
                                    have c97b0 : ((wrap64 ((t145.length : Int) - t173)) == (wrap64 ((t152.length : Int) - t174))) = true := beq_iff_eq.mpr c97
                                    have c97b1 : ((wrap64 ((t145.length : Int) - t173)) != (wrap64 ((t152.length : Int) - t174))) = false := bne_eq_false_iff_eq.mpr c97
                                    clear c97
                                    have H' := Aside0.mk H
                                    clear H
                                    go_wp2
                                    go_loopg [19] kj88 (fun kq v19 w' => ∃ (x19_5 : Int), v19 = .int .i64 x19_5 ∧ Aside0 (remoralaw11_GearSame.l2 kq t145 t152 t173 t174 x19_5 l0_0 l0_1 = some r) ∧ Aside0 (kq ≤ kj88) ∧ Aside0 (Kd.R (Kd.int .i64) 3 w' w.heap.size (fun k_ => some k_ ≠ ((.slice Ao92 t152.length co92) : Value).ownBlock) (.slice Ao90 t145.length co90) t145) ∧ Aside0 (Kd.R (Kd.int .i64) 3 w' w.heap.size (fun k_ => some k_ ≠ ((.slice Ao90 t145.length co90) : Value).ownBlock) (.slice Ao92 t152.length co92) t152) ∧ Aside0 (w'.heap[gb120]? = some (.cells #[(.slice A0_0 l0_0.length c0_0), (.slice A0_1 l0_1.length c0_1)] 37 (0, 0))) ∧ Aside0 (w'.heap[gb121]? = some (.cells #[.int .i64 a2_0, .int .i64 a2_1, .int .i64 a2_2] 23 (0, 0))) ∧ Aside0 (Below w.heap.size w w'))
                                    case atStart => exact ⟨(0), (by first | rfl | (simp; done) | (simp [*]; done)), H', ⟨Nat.le_refl _⟩, ⟨by (with_reducible repeat (first | apply Kd.R_alloc | apply Kd.R_drewN | apply Kd.R_drew)); exact HO_9.out⟩, ⟨by (with_reducible repeat (first | apply Kd.R_alloc | apply Kd.R_drewN | apply Kd.R_drew)); exact HO_11.out⟩, ⟨by (with_reducible repeat (first | refine blk_drewN ?_ _ | refine blk_drew ?_ | refine blk_alloc ?_ _)); exact BK120.out⟩, ⟨by (with_reducible repeat (first | refine blk_drewN ?_ _ | refine blk_drew ?_ | refine blk_alloc ?_ _)); exact BK121.out⟩, ⟨by repeat (first | (with_reducible first | exact HB.out | apply below_alloc | apply pw_below_drewN | apply below_drew1 | refine below_set ?_ GE120.out | refine below_set ?_ GE121.out) | exact HB.out)⟩⟩
                                    case round =>
                                      clear H'
                                      try clear c1
                                      try clear p1
                                      try clear q1
                                      try clear hx1
                                      try clear p2
                                      try clear c5
                                      try clear c6
                                      try clear p6
                                      try clear c7
                                      try clear c8
                                      try clear c9
                                      try clear c15
                                      try clear p17
                                      try clear q17
                                      try clear hx17
                                      try clear c19
                                      try clear c54
                                      try clear c54b0
                                      try clear c60
                                      try clear c61
                                      try clear c62
                                      try clear c63
                                      try clear p64
                                      try clear c74
                                      try clear c74b0
                                      try clear c75
                                      try clear c76
                                      try clear c77
                                      try clear c79
                                      try clear c79b0
                                      try clear c80
                                      try clear c80b0
                                      try clear c81
                                      try clear c81b0
                                      try clear c81b1
                                      try clear c93
                                      try clear c93b0
                                      try clear c94
                                      try clear c97
                                      try clear c97b0
                                      try clear c97b1
                                      try clear hx170_0
                                      try clear hx171_0
                                      try clear hx172_0
                                      try clear p1
                                      try clear p17
                                      try clear p170
                                      try clear p171
                                      try clear p172
                                      try clear p2
                                      try clear p6
                                      try clear p64
                                      try clear q1
                                      try clear q17
                                      try clear q170
                                      try clear q171
                                      try clear q172
                                      obtain ⟨x19_5, rfl, HA, HK5, HO_9, HO_11, BK120, BK121, HB⟩ := hrel
                                      cases gk with
                                      | zero => exact absurd HA.out (by simp [remoralaw11_GearSame.l2])
                                      | succ k5 =>
                                        have H := HA.out
                                        clear HA
                                        simp only [remoralaw11_GearSame.l2] at H
                                        by_cases c98 : (wrap64 (t173 + x19_5)) < (t145.length : Int)
                                        · rw [if_pos c98] at H
                                          have c98b0 : decide ((wrap64 (t173 + x19_5)) < (t145.length : Int)) = true := decide_eq_true c98
                                          clear c98
                                          obtain ⟨ji99, hji99⟩ : ∃ j_ : Int, (wrap64 (t173 + x19_5)) = j_ := ⟨_, rfl⟩
                                          replace H : (if 0 ≤ (ji99) then (if 0 ≤ (wrap64 (t174 + x19_5)) then (if (wrap64 (t174 + x19_5)) < (t152.length : Int) then (if (wrap64 ((rd t145 (ji99)) - (l0_0.length : Int))) = (wrap64 ((rd t152 (wrap64 (t174 + x19_5))) - (l0_1.length : Int))) then (remoralaw11_GearSame.l2 k5 t145 t152 t173 t174 (wrap64 (x19_5 + 1)) l0_0 l0_1) else (some false)) else (none)) else (none)) else (none)) = some r := by first | (rw [hji99] at H; exact H) | (simp only [hji99] at H ⊢; exact H)
                                          (try rw [hji99] at c98b0)
                                          have hji99w : (IntKind.i64.wrap (t173 + x19_5)) = ji99 := (i64_w _).trans hji99
                                          by_cases c100 : 0 ≤ (ji99)
                                          · rw [if_pos c100] at H
                                            have c100b0 : decide (0 ≤ (ji99)) = true := decide_eq_true c100
                                            clear c100
                                            obtain ⟨ji101, hji101⟩ : ∃ j_ : Int, (wrap64 (t174 + x19_5)) = j_ := ⟨_, rfl⟩
                                            replace H : (if 0 ≤ (ji101) then (if (ji101) < (t152.length : Int) then (if (wrap64 ((rd t145 (ji99)) - (l0_0.length : Int))) = (wrap64 ((rd t152 (ji101)) - (l0_1.length : Int))) then (remoralaw11_GearSame.l2 k5 t145 t152 t173 t174 (wrap64 (x19_5 + 1)) l0_0 l0_1) else (some false)) else (none)) else (none)) = some r := by first | (rw [hji101] at H; exact H) | (simp only [hji101] at H ⊢; exact H)
                                            have hji101w : (IntKind.i64.wrap (t174 + x19_5)) = ji101 := (i64_w _).trans hji101
                                            by_cases c102 : 0 ≤ (ji101)
                                            · rw [if_pos c102] at H
                                              have c102b0 : decide (0 ≤ (ji101)) = true := decide_eq_true c102
                                              clear c102
                                              by_cases c103 : (ji101) < (t152.length : Int)
                                              · rw [if_pos c103] at H
                                                have c103b0 : decide ((ji101) < (t152.length : Int)) = true := decide_eq_true c103
                                                clear c103
                                                by_cases c104 : (wrap64 ((rd t145 (ji99)) - (l0_0.length : Int))) = (wrap64 ((rd t152 (ji101)) - (l0_1.length : Int)))
                                                · rw [if_pos c104] at H
                                                  have c104b0 : ((wrap64 ((rd t145 (ji99)) - (l0_0.length : Int))) == (wrap64 ((rd t152 (ji101)) - (l0_1.length : Int)))) = true := beq_iff_eq.mpr c104
                                                  have c104b1 : ((wrap64 ((rd t145 (ji99)) - (l0_0.length : Int))) != (wrap64 ((rd t152 (ji101)) - (l0_1.length : Int)))) = false := bne_eq_false_iff_eq.mpr c104
                                                  clear c104
                                                  have H' := Aside0.mk H
                                                  clear H
                                                  try go_wp2
                                                  have n0_ := Aside0.mk (Kd.R_drew HO_9.out)
                                                  have n1_ := Aside0.mk (Kd.R_drew HO_11.out)
                                                  have n2_ := Aside0.mk (blk_drew BK120.out)
                                                  have n3_ := Aside0.mk (blk_drew BK121.out)
                                                  have n4_ := Aside0.mk (below_drew1 HB.out)
                                                  clear HO_9
                                                  clear HO_11
                                                  clear BK120
                                                  clear BK121
                                                  clear HB
                                                  have HO_9 := n0_
                                                  have HO_11 := n1_
                                                  have BK120 := n2_
                                                  have BK121 := n3_
                                                  have HB := n4_
                                                  clear n0_ n1_ n2_ n3_ n4_
                                                  have p176 : 0 ≤ ((ji99) : Int) := of_decide_eq_true (by first | (with_reducible assumption) | assumption)
                                                  have q176 : (ji99) < (t145.length : Int) := of_decide_eq_true (by first | (with_reducible assumption) | assumption)
                                                  obtain ⟨ad176, e176, hx176_0⟩ := Kd.at_int (Kd.R_reads' HO_9.out).2.2 (ji99) p176 q176
                                                  cases e176
                                                  replace p176 := eq_true p176
                                                  replace q176 := eq_true q176
                                                  have p177 : 0 ≤ ((ji101) : Int) := of_decide_eq_true (by first | (with_reducible assumption) | assumption)
                                                  have q177 : (ji101) < (t152.length : Int) := of_decide_eq_true (by first | (with_reducible assumption) | assumption)
                                                  obtain ⟨ad177, e177, hx177_0⟩ := Kd.at_int (Kd.R_reads' HO_11.out).2.2 (ji101) p177 q177
                                                  cases e177
                                                  replace p177 := eq_true p177
                                                  replace q177 := eq_true q177
                                                  refine start_ (n := 21) (S := fun w' => w'.cell? ⟨gb120, 0, none⟩ = some (.slice A0_0 l0_0.length c0_0) ∧ w'.cell? ⟨gb120, 1, none⟩ = some (.slice A0_1 l0_1.length c0_1) ∧ w'.cell? (ad176.add ((ji99)).toNat) = some (.int .i64 (rd t145 (ji99))) ∧ w'.cell? (ad177.add ((ji101)).toNat) = some (.int .i64 (rd t152 (ji101)))) (ds := []) #[false, false, false, false, false, false, false, false, false, false, false, false, false, false, false, false, false, false, false, false, false] (by kernel_rfl) rfl rfl ⟨(blk_cell BK120.out 0).trans rfl, (blk_cell BK120.out 1).trans rfl, hx176_0, hx177_0⟩ (fun hHeld => ?_); refine with_tabW remoralaw11_GearSame.tab30 remoralaw11_GearSame.bits30 (fun HT_ HW_ => ?_)
                                                  generalize wr.drew = w105 at HO_9 HO_11 BK120 BK121 HB hx176_0 hx177_0 hHeld ⊢
                                                  refine pure_ (i := 0) (N := some 174) (v := ?_) (a' := ?_) #[true, false, false, false, false, false, false, false, false, false, false, false, false, false, false, false, false, false, false, false, false] rfl rfl (any_of HT_.out (by kernel_rfl)) (fun _ _ _ h => h) (Or.inl ⟨by rfl, ?_⟩) ?_ ?_
                                                  rotate_left
                                                  · intro w'
                                                    go_simp
                                                    with_reducible rfl
                                                  rotate_left
                                                  · simp only [Act.put, List.setIfInBounds_toArray, List.set_cons_zero, List.set_cons_succ, i64_w, i32_w]
                                                    rfl
                                                  refine pure_ (i := 1) (N := some 175) (v := ?_) (a' := ?_) #[true, true, false, false, false, false, false, false, false, false, false, false, false, false, false, false, false, false, false, false, false] rfl rfl (any_of HT_.out (by kernel_rfl)) (fun _ _ _ h => h) (Or.inl ⟨by rfl, ?_⟩) ?_ ?_
                                                  rotate_left
                                                  · intro w'
                                                    go_simp
                                                    with_reducible rfl
                                                  rotate_left
                                                  · simp only [Act.put, List.setIfInBounds_toArray, List.set_cons_zero, List.set_cons_succ, i64_w, i32_w]
                                                    rfl
                                                  refine pure_ (i := 2) (N := some 176) (v := ?_) (a' := ?_) #[true, true, true, false, false, false, false, false, false, false, false, false, false, false, false, false, false, false, false, false, false] rfl rfl (any_of HT_.out (by kernel_rfl)) (fun _ _ _ h => h) (Or.inl ⟨by rfl, ?_⟩) ?_ ?_
                                                  rotate_left
                                                  · intro w'
                                                    go_simp
                                                    with_reducible rfl
                                                  rotate_left
                                                  · simp only [Act.put, List.setIfInBounds_toArray, List.set_cons_zero, List.set_cons_succ, i64_w, i32_w]
                                                    rfl
                                                  refine pure_ (i := 3) (N := some 177) (v := ?_) (a' := ?_) #[true, true, true, true, false, false, false, false, false, false, false, false, false, false, false, false, false, false, false, false, false] rfl rfl (any_of HT_.out (by kernel_rfl)) (fun _ _ _ h => h) (Or.inl ⟨by rfl, ?_⟩) ?_ ?_
                                                  rotate_left
                                                  · intro w'
                                                    go_simp
                                                    with_reducible rfl
                                                  rotate_left
                                                  · simp only [Act.put, List.setIfInBounds_toArray, List.set_cons_zero, List.set_cons_succ, i64_w, i32_w]
                                                    rfl
                                                  refine pure_ (i := 4) (N := some 178) (v := ?_) (a' := ?_) #[true, true, true, true, true, false, false, false, false, false, false, false, false, false, false, false, false, false, false, false, false] rfl rfl (any_of HT_.out (by kernel_rfl)) (fun _ _ _ h => h) (Or.inl ⟨by rfl, ?_⟩) ?_ ?_
                                                  rotate_left
                                                  · intro w'
                                                    go_simp
                                                    with_reducible rfl
                                                  rotate_left
                                                  · simp only [Act.put, List.setIfInBounds_toArray, List.set_cons_zero, List.set_cons_succ, i64_w, i32_w]
                                                    rfl
                                                  refine pure_ (i := 6) (N := some 180) (v := ?_) (a' := ?_) #[true, true, true, true, true, false, true, false, false, false, false, false, false, false, false, false, false, false, false, false, false] rfl rfl (any_of HT_.out (by kernel_rfl)) (fun _ _ _ h => h) (Or.inl ⟨by rfl, ?_⟩) ?_ ?_
                                                  rotate_left
                                                  · intro w'
                                                    go_simp
                                                    with_reducible rfl
                                                  rotate_left
                                                  · simp only [Act.put, List.setIfInBounds_toArray, List.set_cons_zero, List.set_cons_succ, i64_w, i32_w]
                                                    rfl
                                                  refine pure_ (i := 10) (N := some 184) (v := ?_) (a' := ?_) #[true, true, true, true, true, false, true, false, false, false, true, false, false, false, false, false, false, false, false, false, false] rfl rfl (any_of HT_.out (by kernel_rfl)) (fun _ _ _ h => h) (Or.inl ⟨by rfl, ?_⟩) ?_ ?_
                                                  rotate_left
                                                  · intro w'
                                                    go_simp
                                                    with_reducible rfl
                                                  rotate_left
                                                  · simp only [Act.put, List.setIfInBounds_toArray, List.set_cons_zero, List.set_cons_succ, i64_w, i32_w]
                                                    rfl
                                                  refine pure_ (i := 11) (N := some 185) (v := ?_) (a' := ?_) #[true, true, true, true, true, false, true, false, false, false, true, true, false, false, false, false, false, false, false, false, false] rfl rfl (any_of HT_.out (by kernel_rfl)) (fun _ _ _ h => h) (Or.inl ⟨by rfl, ?_⟩) ?_ ?_
                                                  rotate_left
                                                  · intro w'
                                                    go_simp
                                                    with_reducible rfl
                                                  rotate_left
                                                  · simp only [Act.put, List.setIfInBounds_toArray, List.set_cons_zero, List.set_cons_succ, i64_w, i32_w]
                                                    rfl
                                                  refine pure_ (i := 12) (N := some 186) (v := ?_) (a' := ?_) #[true, true, true, true, true, false, true, false, false, false, true, true, true, false, false, false, false, false, false, false, false] rfl rfl (any_of HT_.out (by kernel_rfl)) (fun _ _ _ h => h) (Or.inl ⟨by rfl, ?_⟩) ?_ ?_
                                                  rotate_left
                                                  · intro w'
                                                    go_simp
                                                    with_reducible rfl
                                                  rotate_left
                                                  · simp only [Act.put, List.setIfInBounds_toArray, List.set_cons_zero, List.set_cons_succ, i64_w, i32_w]
                                                    rfl
                                                  refine pure_ (i := 13) (N := some 187) (v := ?_) (a' := ?_) #[true, true, true, true, true, false, true, false, false, false, true, true, true, true, false, false, false, false, false, false, false] rfl rfl (any_of HT_.out (by kernel_rfl)) (fun _ _ _ h => h) (Or.inl ⟨by rfl, ?_⟩) ?_ ?_
                                                  rotate_left
                                                  · intro w'
                                                    go_simp
                                                    with_reducible rfl
                                                  rotate_left
                                                  · simp only [Act.put, List.setIfInBounds_toArray, List.set_cons_zero, List.set_cons_succ, i64_w, i32_w]
                                                    rfl
                                                  refine pure_ (i := 14) (N := some 188) (v := ?_) (a' := ?_) #[true, true, true, true, true, false, true, false, false, false, true, true, true, true, true, false, false, false, false, false, false] rfl rfl (any_of HT_.out (by kernel_rfl)) (fun _ _ _ h => h) (Or.inl ⟨by rfl, ?_⟩) ?_ ?_
                                                  rotate_left
                                                  · intro w'
                                                    go_simp
                                                    with_reducible rfl
                                                  rotate_left
                                                  · simp only [Act.put, List.setIfInBounds_toArray, List.set_cons_zero, List.set_cons_succ, i64_w, i32_w]
                                                    rfl
                                                  refine pure_ (i := 16) (N := some 190) (v := ?_) (a' := ?_) #[true, true, true, true, true, false, true, false, false, false, true, true, true, true, true, false, true, false, false, false, false] rfl rfl (any_of HT_.out (by kernel_rfl)) (fun _ _ _ h => h) (Or.inl ⟨by rfl, ?_⟩) ?_ ?_
                                                  rotate_left
                                                  · intro w'
                                                    go_simp
                                                    with_reducible rfl
                                                  rotate_left
                                                  · simp only [Act.put, List.setIfInBounds_toArray, List.set_cons_zero, List.set_cons_succ, i64_w, i32_w]
                                                    rfl
                                                  refine take_ (i := 5) (N := some 179) (v := ?_) (a' := ?_) #[true, true, true, true, true, true, true, false, false, false, true, true, true, true, true, false, true, false, false, false, false] rfl rfl (take_ofW HT_.out HW_.out (by kernel_rfl)) (fun _ _ _ h => h) (Or.inl ⟨by rfl, ?_⟩) hHeld ?_ ?_
                                                  rotate_left
                                                  · rintro w' ⟨s0, s1, s2, s3⟩
                                                    go_simp
                                                    with_reducible rfl
                                                  rotate_left
                                                  · simp only [Act.put, List.setIfInBounds_toArray, List.set_cons_zero, List.set_cons_succ, i64_w, i32_w]
                                                    rfl
                                                  refine take_ (i := 7) (N := some 181) (v := ?_) (a' := ?_) #[true, true, true, true, true, true, true, true, false, false, true, true, true, true, true, false, true, false, false, false, false] rfl rfl (take_ofW HT_.out HW_.out (by kernel_rfl)) (fun _ _ _ h => h) (Or.inl ⟨by rfl, ?_⟩) hHeld ?_ ?_
                                                  rotate_left
                                                  · rintro w' ⟨s0, s1, s2, s3⟩
                                                    go_simp
                                                    with_reducible rfl
                                                  rotate_left
                                                  · simp only [Act.put, List.setIfInBounds_toArray, List.set_cons_zero, List.set_cons_succ, i64_w, i32_w]
                                                    rfl
                                                  refine pure_ (i := 8) (N := some 182) (v := ?_) (a' := ?_) #[true, true, true, true, true, true, true, true, true, false, true, true, true, true, true, false, true, false, false, false, false] rfl rfl (any_of HT_.out (by kernel_rfl)) (fun _ _ _ h => h) (Or.inl ⟨by rfl, ?_⟩) ?_ ?_
                                                  rotate_left
                                                  · intro w'
                                                    go_simp
                                                    with_reducible rfl
                                                  rotate_left
                                                  · simp only [Act.put, List.setIfInBounds_toArray, List.set_cons_zero, List.set_cons_succ, i64_w, i32_w]
                                                    rfl
                                                  refine pure_ (i := 9) (N := some 183) (v := ?_) (a' := ?_) #[true, true, true, true, true, true, true, true, true, true, true, true, true, true, true, false, true, false, false, false, false] rfl rfl (any_of HT_.out (by kernel_rfl)) (fun _ _ _ h => h) (Or.inl ⟨by rfl, ?_⟩) ?_ ?_
                                                  rotate_left
                                                  · intro w'
                                                    go_simp
                                                    with_reducible rfl
                                                  rotate_left
                                                  · simp only [Act.put, List.setIfInBounds_toArray, List.set_cons_zero, List.set_cons_succ, i64_w, i32_w]
                                                    rfl
                                                  refine take_ (i := 15) (N := some 189) (v := ?_) (a' := ?_) #[true, true, true, true, true, true, true, true, true, true, true, true, true, true, true, true, true, false, false, false, false] rfl rfl (take_ofW HT_.out HW_.out (by kernel_rfl)) (fun _ _ _ h => h) (Or.inl ⟨by rfl, ?_⟩) hHeld ?_ ?_
                                                  rotate_left
                                                  · rintro w' ⟨s0, s1, s2, s3⟩
                                                    go_simp
                                                    with_reducible rfl
                                                  rotate_left
                                                  · simp only [Act.put, List.setIfInBounds_toArray, List.set_cons_zero, List.set_cons_succ, i64_w, i32_w]
                                                    rfl
                                                  refine take_ (i := 17) (N := some 191) (v := ?_) (a' := ?_) #[true, true, true, true, true, true, true, true, true, true, true, true, true, true, true, true, true, true, false, false, false] rfl rfl (take_ofW HT_.out HW_.out (by kernel_rfl)) (fun _ _ _ h => h) (Or.inl ⟨by rfl, ?_⟩) hHeld ?_ ?_
                                                  rotate_left
                                                  · rintro w' ⟨s0, s1, s2, s3⟩
                                                    go_simp
                                                    with_reducible rfl
                                                  rotate_left
                                                  · simp only [Act.put, List.setIfInBounds_toArray, List.set_cons_zero, List.set_cons_succ, i64_w, i32_w]
                                                    rfl
                                                  refine pure_ (i := 18) (N := some 192) (v := ?_) (a' := ?_) #[true, true, true, true, true, true, true, true, true, true, true, true, true, true, true, true, true, true, true, false, false] rfl rfl (any_of HT_.out (by kernel_rfl)) (fun _ _ _ h => h) (Or.inl ⟨by rfl, ?_⟩) ?_ ?_
                                                  rotate_left
                                                  · intro w'
                                                    go_simp
                                                    with_reducible rfl
                                                  rotate_left
                                                  · simp only [Act.put, List.setIfInBounds_toArray, List.set_cons_zero, List.set_cons_succ, i64_w, i32_w]
                                                    rfl
                                                  refine pure_ (i := 19) (N := some 193) (v := ?_) (a' := ?_) #[true, true, true, true, true, true, true, true, true, true, true, true, true, true, true, true, true, true, true, true, false] rfl rfl (any_of HT_.out (by kernel_rfl)) (fun _ _ _ h => h) (Or.inl ⟨by rfl, ?_⟩) ?_ ?_
                                                  rotate_left
                                                  · intro w'
                                                    go_simp
                                                    with_reducible rfl
                                                  rotate_left
                                                  · simp only [Act.put, List.setIfInBounds_toArray, List.set_cons_zero, List.set_cons_succ, i64_w, i32_w]
                                                    rfl
                                                  refine pure_ (i := 20) (N := some 194) (v := ?_) (a' := ?_) #[true, true, true, true, true, true, true, true, true, true, true, true, true, true, true, true, true, true, true, true, true] rfl rfl (any_of HT_.out (by kernel_rfl)) (fun _ _ _ h => h) (Or.inl ⟨by rfl, ?_⟩) ?_ ?_
                                                  rotate_left
                                                  · intro w'
                                                    go_simp
                                                    with_reducible rfl
                                                  rotate_left
                                                  · simp only [Act.put, List.setIfInBounds_toArray, List.set_cons_zero, List.set_cons_succ, i64_w, i32_w]
                                                    rfl
                                                  refine done_ (done_of HT_.out (by kernel_rfl)) ?_
                                                  try go_wp2
                                                  go_roundg k5
                                                  case measure => have := HJ3.out; have := HJ31.out; have := HK3.out; have := HJ88.out; have := HK5.out; omega
                                                  case rel => exact ⟨(wrap64 (x19_5 + 1)), (by first | rfl | (simp; done) | (simp [*]; done)), H', ⟨by have := HJ3.out; have := HJ31.out; have := HK3.out; have := HJ88.out; have := HK5.out; omega⟩, ⟨by (with_reducible repeat (first | apply Kd.R_alloc | apply Kd.R_drewN | apply Kd.R_drew)); exact HO_9.out⟩, ⟨by (with_reducible repeat (first | apply Kd.R_alloc | apply Kd.R_drewN | apply Kd.R_drew)); exact HO_11.out⟩, ⟨by (with_reducible repeat (first | refine blk_drewN ?_ _ | refine blk_drew ?_ | refine blk_alloc ?_ _)); exact BK120.out⟩, ⟨by (with_reducible repeat (first | refine blk_drewN ?_ _ | refine blk_drew ?_ | refine blk_alloc ?_ _)); exact BK121.out⟩, ⟨by repeat (first | (with_reducible first | exact HB.out | apply below_alloc | apply pw_below_drewN | apply below_drew1 | refine below_set ?_ GE120.out | refine below_set ?_ GE121.out) | exact HB.out)⟩⟩
                                                · rw [if_neg c104] at H
                                                  have c104b0 : ((wrap64 ((rd t145 (ji99)) - (l0_0.length : Int))) == (wrap64 ((rd t152 (ji101)) - (l0_1.length : Int)))) = false := beq_eq_false_iff_ne.mpr c104
                                                  have c104b1 : ((wrap64 ((rd t145 (ji99)) - (l0_0.length : Int))) != (wrap64 ((rd t152 (ji101)) - (l0_1.length : Int)))) = true := bne_iff_ne.mpr c104
                                                  obtain rfl := Option.some.inj H
                                                  try go_wp2
                                                  have n0_ := Aside0.mk (Kd.R_drew HO_9.out)
                                                  have n1_ := Aside0.mk (Kd.R_drew HO_11.out)
                                                  have n2_ := Aside0.mk (blk_drew BK120.out)
                                                  have n3_ := Aside0.mk (blk_drew BK121.out)
                                                  have n4_ := Aside0.mk (below_drew1 HB.out)
                                                  clear HO_9
                                                  clear HO_11
                                                  clear BK120
                                                  clear BK121
                                                  clear HB
                                                  have HO_9 := n0_
                                                  have HO_11 := n1_
                                                  have BK120 := n2_
                                                  have BK121 := n3_
                                                  have HB := n4_
                                                  clear n0_ n1_ n2_ n3_ n4_
                                                  have p176 : 0 ≤ ((ji99) : Int) := of_decide_eq_true (by first | (with_reducible assumption) | assumption)
                                                  have q176 : (ji99) < (t145.length : Int) := of_decide_eq_true (by first | (with_reducible assumption) | assumption)
                                                  obtain ⟨ad176, e176, hx176_0⟩ := Kd.at_int (Kd.R_reads' HO_9.out).2.2 (ji99) p176 q176
                                                  cases e176
                                                  replace p176 := eq_true p176
                                                  replace q176 := eq_true q176
                                                  have p177 : 0 ≤ ((ji101) : Int) := of_decide_eq_true (by first | (with_reducible assumption) | assumption)
                                                  have q177 : (ji101) < (t152.length : Int) := of_decide_eq_true (by first | (with_reducible assumption) | assumption)
                                                  obtain ⟨ad177, e177, hx177_0⟩ := Kd.at_int (Kd.R_reads' HO_11.out).2.2 (ji101) p177 q177
                                                  cases e177
                                                  replace p177 := eq_true p177
                                                  replace q177 := eq_true q177
                                                  refine start_ (n := 21) (S := fun w' => w'.cell? ⟨gb120, 0, none⟩ = some (.slice A0_0 l0_0.length c0_0) ∧ w'.cell? ⟨gb120, 1, none⟩ = some (.slice A0_1 l0_1.length c0_1) ∧ w'.cell? (ad176.add ((ji99)).toNat) = some (.int .i64 (rd t145 (ji99))) ∧ w'.cell? (ad177.add ((ji101)).toNat) = some (.int .i64 (rd t152 (ji101)))) (ds := []) #[false, false, false, false, false, false, false, false, false, false, false, false, false, false, false, false, false, false, false, false, false] (by kernel_rfl) rfl rfl ⟨(blk_cell BK120.out 0).trans rfl, (blk_cell BK120.out 1).trans rfl, hx176_0, hx177_0⟩ (fun hHeld => ?_); refine with_tabW remoralaw11_GearSame.tab30 remoralaw11_GearSame.bits30 (fun HT_ HW_ => ?_)
                                                  generalize wr.drew = w106 at HO_9 HO_11 BK120 BK121 HB hx176_0 hx177_0 hHeld ⊢
                                                  refine pure_ (i := 0) (N := some 174) (v := ?_) (a' := ?_) #[true, false, false, false, false, false, false, false, false, false, false, false, false, false, false, false, false, false, false, false, false] rfl rfl (any_of HT_.out (by kernel_rfl)) (fun _ _ _ h => h) (Or.inl ⟨by rfl, ?_⟩) ?_ ?_
                                                  rotate_left
                                                  · intro w'
                                                    go_simp
                                                    with_reducible rfl
                                                  rotate_left
                                                  · simp only [Act.put, List.setIfInBounds_toArray, List.set_cons_zero, List.set_cons_succ, i64_w, i32_w]
                                                    rfl
                                                  refine pure_ (i := 1) (N := some 175) (v := ?_) (a' := ?_) #[true, true, false, false, false, false, false, false, false, false, false, false, false, false, false, false, false, false, false, false, false] rfl rfl (any_of HT_.out (by kernel_rfl)) (fun _ _ _ h => h) (Or.inl ⟨by rfl, ?_⟩) ?_ ?_
                                                  rotate_left
                                                  · intro w'
                                                    go_simp
                                                    with_reducible rfl
                                                  rotate_left
                                                  · simp only [Act.put, List.setIfInBounds_toArray, List.set_cons_zero, List.set_cons_succ, i64_w, i32_w]
                                                    rfl
                                                  refine pure_ (i := 2) (N := some 176) (v := ?_) (a' := ?_) #[true, true, true, false, false, false, false, false, false, false, false, false, false, false, false, false, false, false, false, false, false] rfl rfl (any_of HT_.out (by kernel_rfl)) (fun _ _ _ h => h) (Or.inl ⟨by rfl, ?_⟩) ?_ ?_
                                                  rotate_left
                                                  · intro w'
                                                    go_simp
                                                    with_reducible rfl
                                                  rotate_left
                                                  · simp only [Act.put, List.setIfInBounds_toArray, List.set_cons_zero, List.set_cons_succ, i64_w, i32_w]
                                                    rfl
                                                  refine pure_ (i := 3) (N := some 177) (v := ?_) (a' := ?_) #[true, true, true, true, false, false, false, false, false, false, false, false, false, false, false, false, false, false, false, false, false] rfl rfl (any_of HT_.out (by kernel_rfl)) (fun _ _ _ h => h) (Or.inl ⟨by rfl, ?_⟩) ?_ ?_
                                                  rotate_left
                                                  · intro w'
                                                    go_simp
                                                    with_reducible rfl
                                                  rotate_left
                                                  · simp only [Act.put, List.setIfInBounds_toArray, List.set_cons_zero, List.set_cons_succ, i64_w, i32_w]
                                                    rfl
                                                  refine pure_ (i := 4) (N := some 178) (v := ?_) (a' := ?_) #[true, true, true, true, true, false, false, false, false, false, false, false, false, false, false, false, false, false, false, false, false] rfl rfl (any_of HT_.out (by kernel_rfl)) (fun _ _ _ h => h) (Or.inl ⟨by rfl, ?_⟩) ?_ ?_
                                                  rotate_left
                                                  · intro w'
                                                    go_simp
                                                    with_reducible rfl
                                                  rotate_left
                                                  · simp only [Act.put, List.setIfInBounds_toArray, List.set_cons_zero, List.set_cons_succ, i64_w, i32_w]
                                                    rfl
                                                  refine pure_ (i := 6) (N := some 180) (v := ?_) (a' := ?_) #[true, true, true, true, true, false, true, false, false, false, false, false, false, false, false, false, false, false, false, false, false] rfl rfl (any_of HT_.out (by kernel_rfl)) (fun _ _ _ h => h) (Or.inl ⟨by rfl, ?_⟩) ?_ ?_
                                                  rotate_left
                                                  · intro w'
                                                    go_simp
                                                    with_reducible rfl
                                                  rotate_left
                                                  · simp only [Act.put, List.setIfInBounds_toArray, List.set_cons_zero, List.set_cons_succ, i64_w, i32_w]
                                                    rfl
                                                  refine pure_ (i := 10) (N := some 184) (v := ?_) (a' := ?_) #[true, true, true, true, true, false, true, false, false, false, true, false, false, false, false, false, false, false, false, false, false] rfl rfl (any_of HT_.out (by kernel_rfl)) (fun _ _ _ h => h) (Or.inl ⟨by rfl, ?_⟩) ?_ ?_
                                                  rotate_left
                                                  · intro w'
                                                    go_simp
                                                    with_reducible rfl
                                                  rotate_left
                                                  · simp only [Act.put, List.setIfInBounds_toArray, List.set_cons_zero, List.set_cons_succ, i64_w, i32_w]
                                                    rfl
                                                  refine pure_ (i := 11) (N := some 185) (v := ?_) (a' := ?_) #[true, true, true, true, true, false, true, false, false, false, true, true, false, false, false, false, false, false, false, false, false] rfl rfl (any_of HT_.out (by kernel_rfl)) (fun _ _ _ h => h) (Or.inl ⟨by rfl, ?_⟩) ?_ ?_
                                                  rotate_left
                                                  · intro w'
                                                    go_simp
                                                    with_reducible rfl
                                                  rotate_left
                                                  · simp only [Act.put, List.setIfInBounds_toArray, List.set_cons_zero, List.set_cons_succ, i64_w, i32_w]
                                                    rfl
                                                  refine pure_ (i := 12) (N := some 186) (v := ?_) (a' := ?_) #[true, true, true, true, true, false, true, false, false, false, true, true, true, false, false, false, false, false, false, false, false] rfl rfl (any_of HT_.out (by kernel_rfl)) (fun _ _ _ h => h) (Or.inl ⟨by rfl, ?_⟩) ?_ ?_
                                                  rotate_left
                                                  · intro w'
                                                    go_simp
                                                    with_reducible rfl
                                                  rotate_left
                                                  · simp only [Act.put, List.setIfInBounds_toArray, List.set_cons_zero, List.set_cons_succ, i64_w, i32_w]
                                                    rfl
                                                  refine pure_ (i := 13) (N := some 187) (v := ?_) (a' := ?_) #[true, true, true, true, true, false, true, false, false, false, true, true, true, true, false, false, false, false, false, false, false] rfl rfl (any_of HT_.out (by kernel_rfl)) (fun _ _ _ h => h) (Or.inl ⟨by rfl, ?_⟩) ?_ ?_
                                                  rotate_left
                                                  · intro w'
                                                    go_simp
                                                    with_reducible rfl
                                                  rotate_left
                                                  · simp only [Act.put, List.setIfInBounds_toArray, List.set_cons_zero, List.set_cons_succ, i64_w, i32_w]
                                                    rfl
                                                  refine pure_ (i := 14) (N := some 188) (v := ?_) (a' := ?_) #[true, true, true, true, true, false, true, false, false, false, true, true, true, true, true, false, false, false, false, false, false] rfl rfl (any_of HT_.out (by kernel_rfl)) (fun _ _ _ h => h) (Or.inl ⟨by rfl, ?_⟩) ?_ ?_
                                                  rotate_left
                                                  · intro w'
                                                    go_simp
                                                    with_reducible rfl
                                                  rotate_left
                                                  · simp only [Act.put, List.setIfInBounds_toArray, List.set_cons_zero, List.set_cons_succ, i64_w, i32_w]
                                                    rfl
                                                  refine pure_ (i := 16) (N := some 190) (v := ?_) (a' := ?_) #[true, true, true, true, true, false, true, false, false, false, true, true, true, true, true, false, true, false, false, false, false] rfl rfl (any_of HT_.out (by kernel_rfl)) (fun _ _ _ h => h) (Or.inl ⟨by rfl, ?_⟩) ?_ ?_
                                                  rotate_left
                                                  · intro w'
                                                    go_simp
                                                    with_reducible rfl
                                                  rotate_left
                                                  · simp only [Act.put, List.setIfInBounds_toArray, List.set_cons_zero, List.set_cons_succ, i64_w, i32_w]
                                                    rfl
                                                  refine take_ (i := 5) (N := some 179) (v := ?_) (a' := ?_) #[true, true, true, true, true, true, true, false, false, false, true, true, true, true, true, false, true, false, false, false, false] rfl rfl (take_ofW HT_.out HW_.out (by kernel_rfl)) (fun _ _ _ h => h) (Or.inl ⟨by rfl, ?_⟩) hHeld ?_ ?_
                                                  rotate_left
                                                  · rintro w' ⟨s0, s1, s2, s3⟩
                                                    go_simp
                                                    with_reducible rfl
                                                  rotate_left
                                                  · simp only [Act.put, List.setIfInBounds_toArray, List.set_cons_zero, List.set_cons_succ, i64_w, i32_w]
                                                    rfl
                                                  refine take_ (i := 7) (N := some 181) (v := ?_) (a' := ?_) #[true, true, true, true, true, true, true, true, false, false, true, true, true, true, true, false, true, false, false, false, false] rfl rfl (take_ofW HT_.out HW_.out (by kernel_rfl)) (fun _ _ _ h => h) (Or.inl ⟨by rfl, ?_⟩) hHeld ?_ ?_
                                                  rotate_left
                                                  · rintro w' ⟨s0, s1, s2, s3⟩
                                                    go_simp
                                                    with_reducible rfl
                                                  rotate_left
                                                  · simp only [Act.put, List.setIfInBounds_toArray, List.set_cons_zero, List.set_cons_succ, i64_w, i32_w]
                                                    rfl
                                                  refine pure_ (i := 8) (N := some 182) (v := ?_) (a' := ?_) #[true, true, true, true, true, true, true, true, true, false, true, true, true, true, true, false, true, false, false, false, false] rfl rfl (any_of HT_.out (by kernel_rfl)) (fun _ _ _ h => h) (Or.inl ⟨by rfl, ?_⟩) ?_ ?_
                                                  rotate_left
                                                  · intro w'
                                                    go_simp
                                                    with_reducible rfl
                                                  rotate_left
                                                  · simp only [Act.put, List.setIfInBounds_toArray, List.set_cons_zero, List.set_cons_succ, i64_w, i32_w]
                                                    rfl
                                                  refine pure_ (i := 9) (N := some 183) (v := ?_) (a' := ?_) #[true, true, true, true, true, true, true, true, true, true, true, true, true, true, true, false, true, false, false, false, false] rfl rfl (any_of HT_.out (by kernel_rfl)) (fun _ _ _ h => h) (Or.inl ⟨by rfl, ?_⟩) ?_ ?_
                                                  rotate_left
                                                  · intro w'
                                                    go_simp
                                                    with_reducible rfl
                                                  rotate_left
                                                  · simp only [Act.put, List.setIfInBounds_toArray, List.set_cons_zero, List.set_cons_succ, i64_w, i32_w]
                                                    rfl
                                                  refine take_ (i := 15) (N := some 189) (v := ?_) (a' := ?_) #[true, true, true, true, true, true, true, true, true, true, true, true, true, true, true, true, true, false, false, false, false] rfl rfl (take_ofW HT_.out HW_.out (by kernel_rfl)) (fun _ _ _ h => h) (Or.inl ⟨by rfl, ?_⟩) hHeld ?_ ?_
                                                  rotate_left
                                                  · rintro w' ⟨s0, s1, s2, s3⟩
                                                    go_simp
                                                    with_reducible rfl
                                                  rotate_left
                                                  · simp only [Act.put, List.setIfInBounds_toArray, List.set_cons_zero, List.set_cons_succ, i64_w, i32_w]
                                                    rfl
                                                  refine take_ (i := 17) (N := some 191) (v := ?_) (a' := ?_) #[true, true, true, true, true, true, true, true, true, true, true, true, true, true, true, true, true, true, false, false, false] rfl rfl (take_ofW HT_.out HW_.out (by kernel_rfl)) (fun _ _ _ h => h) (Or.inl ⟨by rfl, ?_⟩) hHeld ?_ ?_
                                                  rotate_left
                                                  · rintro w' ⟨s0, s1, s2, s3⟩
                                                    go_simp
                                                    with_reducible rfl
                                                  rotate_left
                                                  · simp only [Act.put, List.setIfInBounds_toArray, List.set_cons_zero, List.set_cons_succ, i64_w, i32_w]
                                                    rfl
                                                  refine pure_ (i := 18) (N := some 192) (v := ?_) (a' := ?_) #[true, true, true, true, true, true, true, true, true, true, true, true, true, true, true, true, true, true, true, false, false] rfl rfl (any_of HT_.out (by kernel_rfl)) (fun _ _ _ h => h) (Or.inl ⟨by rfl, ?_⟩) ?_ ?_
                                                  rotate_left
                                                  · intro w'
                                                    go_simp
                                                    with_reducible rfl
                                                  rotate_left
                                                  · simp only [Act.put, List.setIfInBounds_toArray, List.set_cons_zero, List.set_cons_succ, i64_w, i32_w]
                                                    rfl
                                                  refine pure_ (i := 19) (N := some 193) (v := ?_) (a' := ?_) #[true, true, true, true, true, true, true, true, true, true, true, true, true, true, true, true, true, true, true, true, false] rfl rfl (any_of HT_.out (by kernel_rfl)) (fun _ _ _ h => h) (Or.inl ⟨by rfl, ?_⟩) ?_ ?_
                                                  rotate_left
                                                  · intro w'
                                                    go_simp
                                                    with_reducible rfl
                                                  rotate_left
                                                  · simp only [Act.put, List.setIfInBounds_toArray, List.set_cons_zero, List.set_cons_succ, i64_w, i32_w]
                                                    rfl
                                                  refine pure_ (i := 20) (N := some 194) (v := ?_) (a' := ?_) #[true, true, true, true, true, true, true, true, true, true, true, true, true, true, true, true, true, true, true, true, true] rfl rfl (any_of HT_.out (by kernel_rfl)) (fun _ _ _ h => h) (Or.inl ⟨by rfl, ?_⟩) ?_ ?_
                                                  rotate_left
                                                  · intro w'
                                                    go_simp
                                                    with_reducible rfl
                                                  rotate_left
                                                  · simp only [Act.put, List.setIfInBounds_toArray, List.set_cons_zero, List.set_cons_succ, i64_w, i32_w]
                                                    rfl
                                                  refine done_ (done_of HT_.out (by kernel_rfl)) ?_
                                                  try go_wp2
                                                  go_ret
                                                  exact ⟨by first | rfl | (simp [errW_none, errW_some] <;> rfl) | (simp only [← hji99, ← hji101]; first | rfl | (simp [errW_none, errW_some] <;> rfl)) | (simp [*, errW_none, errW_some] <;> rfl), by repeat (first | (with_reducible first | exact HB.out | apply below_alloc | apply pw_below_drewN | apply below_drew1 | refine below_set ?_ GE120.out | refine below_set ?_ GE121.out) | exact HB.out)⟩
                                              · rw [if_neg c103] at H
                                                exact absurd H (by simp)
                                            · rw [if_neg c102] at H
                                              exact absurd H (by simp)
                                          · rw [if_neg c100] at H
                                            exact absurd H (by simp)
                                        · rw [if_neg c98] at H
                                          have c98b0 : decide ((wrap64 (t173 + x19_5)) < (t145.length : Int)) = false := decide_eq_false c98
                                          clear c98
                                          replace H := Option.bind_eq_some_iff.mp H
                                          obtain ⟨t178, A1070, H⟩ := H
                                          replace H : (some t178) = some r := H
                                          have A107 := Aside0.mk A1070
                                          clear A1070
                                          obtain rfl := Option.some.inj H
                                          go_wp2_with (first | ((with_reducible refine gate_callee (f := 15) rfl ?_); refine goesL_ (some 195) rfl rfl Tryd.func15 (by kernel_rfl) rfl #[] rfl (by (try simp only [List.map_toArray, List.map_cons, List.map_nil]); first | done | rfl | (simp only [List.length_drop, List.length_take]; rfl)) ?_; (with_reducible refine (remoralaw11_awake.calls  t178 _ A107.out ?sideG).mono ?_); (case sideG => first | exact hG.below (by repeat (first | (with_reducible first | exact HB.out | apply below_alloc | apply pw_below_drewN | apply below_drew1) | exact HB.out | exact Below.refl _ _)) | exact hG); rintro e w108 ⟨rfl, hb⟩; refine ⟨_, rfl, ?_⟩; have n0_ := Aside0.mk (Kd.R_below (by (with_reducible repeat (first | apply Kd.R_alloc | apply Kd.R_drewN | apply Kd.R_drew)); exact HO_9.out) hb); have n1_ := Aside0.mk (Kd.R_below (by (with_reducible repeat (first | apply Kd.R_alloc | apply Kd.R_drewN | apply Kd.R_drew)); exact HO_11.out) hb); have n2_ := Aside0.mk (blk_below (g := gb120) (o := .cells #[.slice A0_0 l0_0.length c0_0, .slice A0_1 l0_1.length c0_1] 37 (0, 0)) (by (with_reducible repeat (first | refine blk_drewN ?_ _ | refine blk_drew ?_ | refine blk_alloc ?_ _)); exact BK120.out) hb); have n3_ := Aside0.mk (blk_below (g := gb121) (o := .cells #[.int .i64 a2_0, .int .i64 a2_1, .int .i64 a2_2] 23 (0, 0)) (by (with_reducible repeat (first | refine blk_drewN ?_ _ | refine blk_drew ?_ | refine blk_alloc ?_ _)); exact BK121.out) hb); have n4_ := Aside0.mk (below_step (by repeat (first | (with_reducible first | exact HB.out | apply below_alloc | apply pw_below_drewN | apply below_drew1 | refine below_set ?_ GE120.out | refine below_set ?_ GE121.out) | exact HB.out)) hb); clear HO_9; clear HO_11; clear BK120; clear BK121; clear HB; have HO_9 := n0_; have HO_11 := n1_; have BK120 := n2_; have BK121 := n3_; have HB := n4_; clear n0_ n1_ n2_ n3_ n4_; (try clear hb); (try clear hb2); (try clear hk); (try clear hi)))
                                          go_ret
                                          exact ⟨by first | rfl | (simp [errW_none, errW_some] <;> rfl) | (simp [*, errW_none, errW_some] <;> rfl), by repeat (first | (with_reducible first | exact HB.out | apply below_alloc | apply pw_below_drewN | apply below_drew1 | refine below_set ?_ GE120.out | refine below_set ?_ GE121.out) | exact HB.out)⟩
                                  · rw [if_neg c97] at H
                                    have c97b0 : ((wrap64 ((t145.length : Int) - t173)) == (wrap64 ((t152.length : Int) - t174))) = false := beq_eq_false_iff_ne.mpr c97
                                    have c97b1 : ((wrap64 ((t145.length : Int) - t173)) != (wrap64 ((t152.length : Int) - t174))) = true := bne_iff_ne.mpr c97
                                    obtain rfl := Option.some.inj H
                                    go_wp2
                                    go_ret
                                    exact ⟨by first | rfl | (simp [errW_none, errW_some] <;> rfl) | (simp [*, errW_none, errW_some] <;> rfl), by repeat (first | (with_reducible first | exact HB.out | apply below_alloc | apply pw_below_drewN | apply below_drew1 | refine below_set ?_ GE120.out | refine below_set ?_ GE121.out) | exact HB.out)⟩
              · rw [if_neg c27] at H
                exact absurd H (by simp)
            · rw [if_neg c26] at H
              exact absurd H (by simp)
          · rw [if_neg c25] at H
            exact absurd H (by simp)
        · rw [if_neg c24] at H
          exact absurd H (by simp)


/-- THE ONE PURE STATEMENT of remoralaw11_GearSame. -/
def remoralaw11_GearSame.Pure : Prop := ∀ (l0_0 : List Int) (l0_1 : List Int) (l1 : List Int) (a2_0 : Int) (a2_1 : Int) (a2_2 : Int), (l0_0.length ≤ maxLen ∧ ∀ q0_ ∈ l0_0, (Lit.int .u8 q0_).wf = true) → (l0_1.length ≤ maxLen ∧ ∀ q0_ ∈ l0_1, (Lit.int .u8 q0_).wf = true) → (l1.length ≤ maxLen ∧ ∀ q0_ ∈ l1, (Lit.int .u8 q0_).wf = true) → l1.length * 1 ≤ 140737488351232 → (Lit.int .i64 a2_0).wf = true → (Lit.int .i64 a2_1).wf = true → (Lit.int .i64 a2_2).wf = true → ∃ k, remoralaw11_GearSame.f k l0_0 l0_1 l1 a2_0 a2_1 a2_2 = some true

end Go.Proofs.YtpelnalhdpjabaaDoor.PGearSame
