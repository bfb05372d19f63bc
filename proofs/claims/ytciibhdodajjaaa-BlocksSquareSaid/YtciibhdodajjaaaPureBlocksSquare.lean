/- The length taken of a size is the least power of two within the limits whose square is large enough, and there are no more blocks than a block has bytes, for any size. Conditions: none. -/
import Derived.Test.YtciibhdodajjaaaPBlocksSquarex1
namespace Go.Proofs.Ytciibhdodajjaaa.Pure
open Go.RowKit Go.Proofs.Ytciibhdodajjaaa.PBlocksSquare Go.Proofs.YtciibhdodajjaaaW.PrintWords Go.Proofs.YtciibhdodajjaaaW.PrintLast
set_option maxRecDepth 100000
theorem w64 (n : Int) (h0 : -9223372036854775808 ≤ n) (h1 : n ≤ 9223372036854775807) : wrap64 n = n := by unfold wrap64; omega
/-- The length by cases. -/
def Ln (s : Int) : Int := if s ≤ 256 then 16 else if s ≤ 1024 then 32 else if s ≤ 4096 then 64 else if s ≤ 16384 then 128 else if s ≤ 65536 then 256 else if s ≤ 262144 then 512 else if s ≤ 1048576 then 1024 else if s ≤ 4194304 then 2048 else 4096
theorem length_of (s : Int) (m : Nat) : blocks_Length.f (m + 9) s = some (Ln s) := by
  have e1 : wrap64 (16 * 16) = 256 := by unfold wrap64; decide
  have e2 : wrap64 (32 * 32) = 1024 := by unfold wrap64; decide
  have e3 : wrap64 (64 * 64) = 4096 := by unfold wrap64; decide
  have e4 : wrap64 (128 * 128) = 16384 := by unfold wrap64; decide
  have e5 : wrap64 (256 * 256) = 65536 := by unfold wrap64; decide
  have e6 : wrap64 (512 * 512) = 262144 := by unfold wrap64; decide
  have e7 : wrap64 (1024 * 1024) = 1048576 := by unfold wrap64; decide
  have e8 : wrap64 (2048 * 2048) = 4194304 := by unfold wrap64; decide
  have d1 : wrap64 (16 * 2) = 32 := by unfold wrap64; decide
  have d2 : wrap64 (32 * 2) = 64 := by unfold wrap64; decide
  have d3 : wrap64 (64 * 2) = 128 := by unfold wrap64; decide
  have d4 : wrap64 (128 * 2) = 256 := by unfold wrap64; decide
  have d5 : wrap64 (256 * 2) = 512 := by unfold wrap64; decide
  have d6 : wrap64 (512 * 2) = 1024 := by unfold wrap64; decide
  have d7 : wrap64 (1024 * 2) = 2048 := by unfold wrap64; decide
  have d8 : wrap64 (2048 * 2) = 4096 := by unfold wrap64; decide
  unfold blocks_Length.f Ln
  by_cases c1 : s ≤ 256
  · rw [if_pos c1]; simp only [blocks_Length.l0]; rw [if_pos (by decide), e1, if_neg (by omega)]
  rw [if_neg c1]
  by_cases c2 : s ≤ 1024
  · rw [if_pos c2]; simp only [blocks_Length.l0]; rw [if_pos (by decide), e1, if_pos (by omega), d1, if_pos (by decide), e2, if_neg (by omega)]
  rw [if_neg c2]
  by_cases c3 : s ≤ 4096
  · rw [if_pos c3]; simp only [blocks_Length.l0]; rw [if_pos (by decide), e1, if_pos (by omega), d1, if_pos (by decide), e2, if_pos (by omega), d2, if_pos (by decide), e3, if_neg (by omega)]
  rw [if_neg c3]
  by_cases c4 : s ≤ 16384
  · rw [if_pos c4]; simp only [blocks_Length.l0]; rw [if_pos (by decide), e1, if_pos (by omega), d1, if_pos (by decide), e2, if_pos (by omega), d2, if_pos (by decide), e3, if_pos (by omega), d3, if_pos (by decide), e4, if_neg (by omega)]
  rw [if_neg c4]
  by_cases c5 : s ≤ 65536
  · rw [if_pos c5]; simp only [blocks_Length.l0]; rw [if_pos (by decide), e1, if_pos (by omega), d1, if_pos (by decide), e2, if_pos (by omega), d2, if_pos (by decide), e3, if_pos (by omega), d3, if_pos (by decide), e4, if_pos (by omega), d4, if_pos (by decide), e5, if_neg (by omega)]
  rw [if_neg c5]
  by_cases c6 : s ≤ 262144
  · rw [if_pos c6]; simp only [blocks_Length.l0]; rw [if_pos (by decide), e1, if_pos (by omega), d1, if_pos (by decide), e2, if_pos (by omega), d2, if_pos (by decide), e3, if_pos (by omega), d3, if_pos (by decide), e4, if_pos (by omega), d4, if_pos (by decide), e5, if_pos (by omega), d5, if_pos (by decide), e6, if_neg (by omega)]
  rw [if_neg c6]
  by_cases c7 : s ≤ 1048576
  · rw [if_pos c7]; simp only [blocks_Length.l0]; rw [if_pos (by decide), e1, if_pos (by omega), d1, if_pos (by decide), e2, if_pos (by omega), d2, if_pos (by decide), e3, if_pos (by omega), d3, if_pos (by decide), e4, if_pos (by omega), d4, if_pos (by decide), e5, if_pos (by omega), d5, if_pos (by decide), e6, if_pos (by omega), d6, if_pos (by decide), e7, if_neg (by omega)]
  rw [if_neg c7]
  by_cases c8 : s ≤ 4194304
  · rw [if_pos c8]; simp only [blocks_Length.l0]; rw [if_pos (by decide), e1, if_pos (by omega), d1, if_pos (by decide), e2, if_pos (by omega), d2, if_pos (by decide), e3, if_pos (by omega), d3, if_pos (by decide), e4, if_pos (by omega), d4, if_pos (by decide), e5, if_pos (by omega), d5, if_pos (by decide), e6, if_pos (by omega), d6, if_pos (by decide), e7, if_pos (by omega), d7, if_pos (by decide), e8, if_neg (by omega)]
  rw [if_neg c8]
  simp only [blocks_Length.l0]; rw [if_pos (by decide), e1, if_pos (by omega), d1, if_pos (by decide), e2, if_pos (by omega), d2, if_pos (by decide), e3, if_pos (by omega), d3, if_pos (by decide), e4, if_pos (by omega), d4, if_pos (by decide), e5, if_pos (by omega), d5, if_pos (by decide), e6, if_pos (by omega), d6, if_pos (by decide), e7, if_pos (by omega), d7, if_pos (by decide), e8, if_pos (by omega), d8, if_neg (by decide)]
def Rg (s b : Int) : Bool := decide (0 ≤ s ∧ s ≤ 131072 ∧ 16 ≤ b ∧ b ≤ 4096)
theorem right_of (s b : Int) : blocks_Right.f s b = some (Rg s b) := by
  unfold blocks_Right.f blocks_block.f Rg
  by_cases h1 : s ≥ 0
  · rw [if_pos h1]
    by_cases h2 : s ≤ 131072
    · rw [if_pos h2]
      by_cases h3 : b ≥ 16
      · rw [if_pos h3]; exact congrArg some (decide_eq_decide.2 (by omega))
      · rw [if_neg h3]; exact congrArg some (decide_eq_false (by omega)).symm
    · rw [if_neg h2]; exact congrArg some (decide_eq_false (by omega)).symm
  · rw [if_neg h1]; exact congrArg some (decide_eq_false (by omega)).symm
theorem rg_true {s b : Int} (h : Rg s b = true) : 0 ≤ s ∧ s ≤ 131072 ∧ 16 ≤ b ∧ b ≤ 4096 := of_decide_eq_true h
theorem rg_mk {s b : Int} (h : 0 ≤ s ∧ s ≤ 131072 ∧ 16 ≤ b ∧ b ≤ 4096) : Rg s b = true := decide_eq_true h
/-- How many blocks. -/
def Ct (s b : Int) : Int := if Rg s b = true then (s + b - 1) / b else 0
theorem ct_bounds {s b : Int} (h : Rg s b = true) : Ct s b * b ≤ s + b - 1 ∧ s ≤ Ct s b * b ∧ 0 ≤ Ct s b ∧ Ct s b ≤ 8192 := by
  obtain ⟨h1, h2, h3, h4⟩ := rg_true h
  unfold Ct; rw [if_pos h]
  have a := Int.ediv_mul_le (s + b - 1) (b := b) (by omega)
  have c := Int.lt_ediv_add_one_mul_self (s + b - 1) (b := b) (by omega)
  have d : 0 ≤ (s + b - 1) / b := Int.ediv_nonneg (by omega) (by omega)
  have e : (s + b - 1) / b < 8193 := Int.ediv_lt_of_lt_mul (by omega) (by omega)
  rw [Int.add_mul] at c
  exact ⟨a, by omega, d, by omega⟩
theorem count_of (s b : Int) : blocks_Count.f s b = some (Ct s b) := by
  unfold blocks_Count.f
  rw [right_of]; simp only [Option.bind_some]
  by_cases h : Rg s b = true
  · obtain ⟨h1, h2, h3, h4⟩ := rg_true h
    have hb := ct_bounds h
    unfold Ct at hb ⊢
    rw [if_pos h] at hb
    rw [if_pos h, if_pos h, if_neg (by omega), w64 (s + b) (by omega) (by omega), w64 (s + b - 1) (by omega) (by omega), Int.tdiv_eq_ediv_of_nonneg (by omega), w64 _ (by omega) (by omega)]
  · unfold Ct; rw [if_neg h, if_neg h]
theorem mul_bounds {i b : Int} (h0 : 0 ≤ i) (h1 : i ≤ 8192) (h2 : 16 ≤ b) (h3 : b ≤ 4096) : 0 ≤ i * b ∧ i * b ≤ 8192 * 4096 :=
  ⟨Int.mul_nonneg h0 (by omega), Int.mul_le_mul h1 h3 (by omega) (by omega)⟩
theorem range_no {s b i : Int} (h : i < 0 ∨ Ct s b ≤ i) : blocks_Range.f s b i = some (0, 0, false) := by
  unfold blocks_Range.f
  by_cases h0 : i < 0
  · rw [if_pos h0]
  · rw [if_neg h0, count_of]; simp only [Option.bind_some]; rw [if_pos (by omega)]
theorem ct_right {s b i : Int} (h0 : 0 ≤ i) (h : i < Ct s b) : Rg s b = true := by
  by_cases hr : Rg s b = true
  · exact hr
  · unfold Ct at h; rw [if_neg hr] at h; omega
theorem range_yes {s b i : Int} (h0 : 0 ≤ i) (h : i < Ct s b) : blocks_Range.f s b i = some (i * b, mn s ((i + 1) * b), true) := by
  have hr := ct_right h0 h
  obtain ⟨h1, h2, h3, h4⟩ := rg_true hr
  have hb := ct_bounds hr
  have m1 := mul_bounds (i := i) (b := b) h0 (by omega) h3 h4
  have m2 := mul_bounds (i := i + 1) (b := b) (by omega) (by omega) h3 h4
  unfold blocks_Range.f
  rw [if_neg (by omega), count_of]; simp only [Option.bind_some]
  rw [if_neg (by omega), w64 (i * b) (by omega) (by omega), w64 (i + 1) (by omega) (by omega), w64 ((i + 1) * b) (by omega) (by omega)]
def Wh (s b o : Int) : Bool := decide (Rg s b = true ∧ 0 ≤ o ∧ o < s)
theorem which_no {s b o : Int} (h : ¬ (Rg s b = true ∧ 0 ≤ o ∧ o < s)) : blocks_Which.f s b o = some (0, false) := by
  unfold blocks_Which.f
  rw [right_of]; simp only [Option.bind_some]
  by_cases hr : Rg s b = true
  · have h' : ¬ (0 ≤ o ∧ o < s) := fun q => h ⟨hr, q⟩
    rw [if_pos hr]
    by_cases h0 : o < 0
    · rw [if_pos h0]
    · rw [if_neg h0, if_pos (by omega)]
  · rw [if_neg hr]
theorem which_yes {s b o : Int} (hr : Rg s b = true) (h0 : 0 ≤ o) (h : o < s) : blocks_Which.f s b o = some (o / b, true) := by
  obtain ⟨h1, h2, h3, h4⟩ := rg_true hr
  have d : 0 ≤ o / b := Int.ediv_nonneg h0 (by omega)
  have e : o / b ≤ o := Int.ediv_le_self b h0
  unfold blocks_Which.f
  rw [right_of]; simp only [Option.bind_some]
  rw [if_pos hr, if_neg (by omega), if_neg (by omega), if_neg (by omega), Int.tdiv_eq_ediv_of_nonneg h0, w64 _ (by omega) (by omega)]
theorem awake_of (m : Nat) : remoralaw05_awake.f (m + 9) = some true := by
  have c : Ct 40 16 = 3 := by decide
  unfold remoralaw05_awake.f
  rw [range_yes (by decide) (by rw [c]; decide), which_yes (by decide) (by decide) (by decide), length_of, length_of, count_of]
  decide
theorem ln_cases (s : Int) (P : Int → Prop) (h1 : s ≤ 256 → P 16) (h2 : 256 < s → s ≤ 1024 → P 32) (h3 : 1024 < s → s ≤ 4096 → P 64) (h4 : 4096 < s → s ≤ 16384 → P 128) (h5 : 16384 < s → s ≤ 65536 → P 256) (h6 : 65536 < s → s ≤ 262144 → P 512) (h7 : 262144 < s → s ≤ 1048576 → P 1024) (h8 : 1048576 < s → s ≤ 4194304 → P 2048) (h9 : 4194304 < s → P 4096) : P (Ln s) := by
  unfold Ln
  by_cases c1 : s ≤ 256
  · rw [if_pos c1]; exact h1 c1
  rw [if_neg c1]
  by_cases c2 : s ≤ 1024
  · rw [if_pos c2]; exact h2 (by omega) c2
  rw [if_neg c2]
  by_cases c3 : s ≤ 4096
  · rw [if_pos c3]; exact h3 (by omega) c3
  rw [if_neg c3]
  by_cases c4 : s ≤ 16384
  · rw [if_pos c4]; exact h4 (by omega) c4
  rw [if_neg c4]
  by_cases c5 : s ≤ 65536
  · rw [if_pos c5]; exact h5 (by omega) c5
  rw [if_neg c5]
  by_cases c6 : s ≤ 262144
  · rw [if_pos c6]; exact h6 (by omega) c6
  rw [if_neg c6]
  by_cases c7 : s ≤ 1048576
  · rw [if_pos c7]; exact h7 (by omega) c7
  rw [if_neg c7]
  by_cases c8 : s ≤ 4194304
  · rw [if_pos c8]; exact h8 (by omega) c8
  rw [if_neg c8]; exact h9 (by omega)
theorem few (s n : Int) (hn : 16 ≤ n) (hn2 : n ≤ 4096) (hs : s ≤ n * n ∨ 131072 < s) : Ct s n ≤ n := by
  by_cases hr : Rg s n = true
  · obtain ⟨h1, h2, h3, h4⟩ := rg_true hr
    obtain ⟨b1, b2, b3, b4⟩ := ct_bounds hr
    apply Int.le_of_not_gt
    intro hgt
    have := Int.mul_le_mul_of_nonneg_right (show n + 1 ≤ Ct s n by omega) (show (0 : Int) ≤ n by omega)
    rw [Int.add_mul] at this
    omega
  · unfold Ct; rw [if_neg hr]; omega
theorem j1_of (s n : Int) (k : Nat) (hn : 16 ≤ n) (hn2 : n ≤ 4096) (hs : s ≤ n * n ∨ 131072 < s) : remoralaw05_BlocksSquare.j1 (k + 10) s n false = some true := by
  have f := few s n hn hn2 hs
  rw [remoralaw05_BlocksSquare.j1.eq_2]
  rw [if_neg (by decide), count_of]; simp only [Option.bind_some]
  rw [if_pos f, awake_of k]; rfl

theorem BlocksSquare : remoralaw05_BlocksSquare.Pure := by
  intro a0 w0
  refine ⟨12, ?_⟩
  unfold remoralaw05_BlocksSquare.f
  rw [length_of a0 3]; simp only [Option.bind_some]
  refine ln_cases a0 (fun n => (if n < 16 then (remoralaw05_BlocksSquare.j0 12 a0 n true) else (if n > 4096 then (remoralaw05_BlocksSquare.j0 12 a0 n true) else (remoralaw05_BlocksSquare.j0 12 a0 n ((Go.bits .and .i64 n (wrap64 (n - 1))) != 0)))) = some true) ?_ ?_ ?_ ?_ ?_ ?_ ?_ ?_ ?_
  · intro h1
    rw [if_neg (by decide), if_neg (by decide), show ((Go.bits .and .i64 16 (wrap64 (16 - 1))) != 0) = false from by decide +kernel, remoralaw05_BlocksSquare.j0.eq_2, if_neg (by decide), if_neg (by decide), if_pos (by decide), show wrap64 (16 * 16) = 256 from by unfold wrap64; decide, decide_eq_false (by omega)]
    exact j1_of a0 16 1 (by decide) (by decide) (.inl (by omega))
  · intro h1 h2
    rw [if_neg (by decide), if_neg (by decide), show ((Go.bits .and .i64 32 (wrap64 (32 - 1))) != 0) = false from by decide +kernel, remoralaw05_BlocksSquare.j0.eq_2, if_neg (by decide), if_pos (by decide), show wrap64 ((wrap64 (Int.tdiv 32 2)) * (wrap64 (Int.tdiv 32 2))) = 256 from by unfold wrap64; decide, if_neg (by omega), if_pos (by decide), show wrap64 (32 * 32) = 1024 from by unfold wrap64; decide, decide_eq_false (by omega)]
    exact j1_of a0 32 1 (by decide) (by decide) (.inl (by omega))
  · intro h1 h2
    rw [if_neg (by decide), if_neg (by decide), show ((Go.bits .and .i64 64 (wrap64 (64 - 1))) != 0) = false from by decide +kernel, remoralaw05_BlocksSquare.j0.eq_2, if_neg (by decide), if_pos (by decide), show wrap64 ((wrap64 (Int.tdiv 64 2)) * (wrap64 (Int.tdiv 64 2))) = 1024 from by unfold wrap64; decide, if_neg (by omega), if_pos (by decide), show wrap64 (64 * 64) = 4096 from by unfold wrap64; decide, decide_eq_false (by omega)]
    exact j1_of a0 64 1 (by decide) (by decide) (.inl (by omega))
  · intro h1 h2
    rw [if_neg (by decide), if_neg (by decide), show ((Go.bits .and .i64 128 (wrap64 (128 - 1))) != 0) = false from by decide +kernel, remoralaw05_BlocksSquare.j0.eq_2, if_neg (by decide), if_pos (by decide), show wrap64 ((wrap64 (Int.tdiv 128 2)) * (wrap64 (Int.tdiv 128 2))) = 4096 from by unfold wrap64; decide, if_neg (by omega), if_pos (by decide), show wrap64 (128 * 128) = 16384 from by unfold wrap64; decide, decide_eq_false (by omega)]
    exact j1_of a0 128 1 (by decide) (by decide) (.inl (by omega))
  · intro h1 h2
    rw [if_neg (by decide), if_neg (by decide), show ((Go.bits .and .i64 256 (wrap64 (256 - 1))) != 0) = false from by decide +kernel, remoralaw05_BlocksSquare.j0.eq_2, if_neg (by decide), if_pos (by decide), show wrap64 ((wrap64 (Int.tdiv 256 2)) * (wrap64 (Int.tdiv 256 2))) = 16384 from by unfold wrap64; decide, if_neg (by omega), if_pos (by decide), show wrap64 (256 * 256) = 65536 from by unfold wrap64; decide, decide_eq_false (by omega)]
    exact j1_of a0 256 1 (by decide) (by decide) (.inl (by omega))
  · intro h1 h2
    rw [if_neg (by decide), if_neg (by decide), show ((Go.bits .and .i64 512 (wrap64 (512 - 1))) != 0) = false from by decide +kernel, remoralaw05_BlocksSquare.j0.eq_2, if_neg (by decide), if_pos (by decide), show wrap64 ((wrap64 (Int.tdiv 512 2)) * (wrap64 (Int.tdiv 512 2))) = 65536 from by unfold wrap64; decide, if_neg (by omega), if_pos (by decide), show wrap64 (512 * 512) = 262144 from by unfold wrap64; decide, decide_eq_false (by omega)]
    exact j1_of a0 512 1 (by decide) (by decide) (.inl (by omega))
  · intro h1 h2
    rw [if_neg (by decide), if_neg (by decide), show ((Go.bits .and .i64 1024 (wrap64 (1024 - 1))) != 0) = false from by decide +kernel, remoralaw05_BlocksSquare.j0.eq_2, if_neg (by decide), if_pos (by decide), show wrap64 ((wrap64 (Int.tdiv 1024 2)) * (wrap64 (Int.tdiv 1024 2))) = 262144 from by unfold wrap64; decide, if_neg (by omega), if_pos (by decide), show wrap64 (1024 * 1024) = 1048576 from by unfold wrap64; decide, decide_eq_false (by omega)]
    exact j1_of a0 1024 1 (by decide) (by decide) (.inl (by omega))
  · intro h1 h2
    rw [if_neg (by decide), if_neg (by decide), show ((Go.bits .and .i64 2048 (wrap64 (2048 - 1))) != 0) = false from by decide +kernel, remoralaw05_BlocksSquare.j0.eq_2, if_neg (by decide), if_pos (by decide), show wrap64 ((wrap64 (Int.tdiv 2048 2)) * (wrap64 (Int.tdiv 2048 2))) = 1048576 from by unfold wrap64; decide, if_neg (by omega), if_pos (by decide), show wrap64 (2048 * 2048) = 4194304 from by unfold wrap64; decide, decide_eq_false (by omega)]
    exact j1_of a0 2048 1 (by decide) (by decide) (.inl (by omega))
  · intro h1
    rw [if_neg (by decide), if_neg (by decide), show ((Go.bits .and .i64 4096 (wrap64 (4096 - 1))) != 0) = false from by decide +kernel, remoralaw05_BlocksSquare.j0.eq_2, if_neg (by decide), if_pos (by decide), show wrap64 ((wrap64 (Int.tdiv 4096 2)) * (wrap64 (Int.tdiv 4096 2))) = 4194304 from by unfold wrap64; decide, if_neg (by omega), if_neg (by decide)]
    exact j1_of a0 4096 1 (by decide) (by decide) (.inr (by omega))

end Go.Proofs.Ytciibhdodajjaaa.Pure
