/- The program and the reference agree on where a block lies and which block has a place, for any three numbers. Conditions: none. -/
import Derived.Test.YtciibhdodajjaaaPBlocksRangex1
namespace Go.Proofs.Ytciibhdodajjaaa.Pure
open Go.RowKit Go.Proofs.Ytciibhdodajjaaa.PBlocksRange Go.Proofs.YtciibhdodajjaaaW.PrintWords Go.Proofs.YtciibhdodajjaaaW.PrintLast
set_option maxRecDepth 100000
theorem w64 (n : Int) (h0 : -9223372036854775808 ≤ n) (h1 : n ≤ 9223372036854775807) : wrap64 n = n := by unfold wrap64; omega
/-- The length by cases. -/
def Ln (s : Int) : Int := if s ≤ 256 then 16 else if s ≤ 1024 then 32 else if s ≤ 4096 then 64 else if s ≤ 16384 then 128 else if s ≤ 65536 then 256 else if s ≤ 262144 then 512 else if s ≤ 1048576 then 1024 else if s ≤ 4194304 then 2048 else 4096
theorem length_of (s : Int) (m : Nat) : blocks_Length.f (m + 9) s = some (Ln s) := by
  have e1 : wrap64 (16 * 16) = 256 := by unfold wrap64; decide
  have e2 : wrap64 (32 * 32) = 1024 := by unfold wrap64; decide
  have e3 : wrap64 (64 * 64) = 4096 := by unfold wrap64; decide
  have e4 : wrap64 (128 * 128) = 16384 := by unfold wrap64; decide
  have e5 : wrap64 (256 * 256) = 65536 := by unfold wrap64; decide
  have e6 : wrap64 (512 * 512) = 262144 := by unfold wrap64; decide
  have e7 : wrap64 (1024 * 1024) = 1048576 := by unfold wrap64; decide
  have e8 : wrap64 (2048 * 2048) = 4194304 := by unfold wrap64; decide
  have d1 : wrap64 (16 * 2) = 32 := by unfold wrap64; decide
  have d2 : wrap64 (32 * 2) = 64 := by unfold wrap64; decide
  have d3 : wrap64 (64 * 2) = 128 := by unfold wrap64; decide
  have d4 : wrap64 (128 * 2) = 256 := by unfold wrap64; decide
  have d5 : wrap64 (256 * 2) = 512 := by unfold wrap64; decide
  have d6 : wrap64 (512 * 2) = 1024 := by unfold wrap64; decide
  have d7 : wrap64 (1024 * 2) = 2048 := by unfold wrap64; decide
  have d8 : wrap64 (2048 * 2) = 4096 := by unfold wrap64; decide
  unfold blocks_Length.f Ln
  by_cases c1 : s ≤ 256
  · rw [if_pos c1]; simp only [blocks_Length.l0]; rw [if_pos (by decide), e1, if_neg (by omega)]
  rw [if_neg c1]
  by_cases c2 : s ≤ 1024
  · rw [if_pos c2]; simp only [blocks_Length.l0]; rw [if_pos (by decide), e1, if_pos (by omega), d1, if_pos (by decide), e2, if_neg (by omega)]
  rw [if_neg c2]
  by_cases c3 : s ≤ 4096
  · rw [if_pos c3]; simp only [blocks_Length.l0]; rw [if_pos (by decide), e1, if_pos (by omega), d1, if_pos (by decide), e2, if_pos (by omega), d2, if_pos (by decide), e3, if_neg (by omega)]
  rw [if_neg c3]
  by_cases c4 : s ≤ 16384
  · rw [if_pos c4]; simp only [blocks_Length.l0]; rw [if_pos (by decide), e1, if_pos (by omega), d1, if_pos (by decide), e2, if_pos (by omega), d2, if_pos (by decide), e3, if_pos (by omega), d3, if_pos (by decide), e4, if_neg (by omega)]
  rw [if_neg c4]
  by_cases c5 : s ≤ 65536
  · rw [if_pos c5]; simp only [blocks_Length.l0]; rw [if_pos (by decide), e1, if_pos (by omega), d1, if_pos (by decide), e2, if_pos (by omega), d2, if_pos (by decide), e3, if_pos (by omega), d3, if_pos (by decide), e4, if_pos (by omega), d4, if_pos (by decide), e5, if_neg (by omega)]
  rw [if_neg c5]
  by_cases c6 : s ≤ 262144
  · rw [if_pos c6]; simp only [blocks_Length.l0]; rw [if_pos (by decide), e1, if_pos (by omega), d1, if_pos (by decide), e2, if_pos (by omega), d2, if_pos (by decide), e3, if_pos (by omega), d3, if_pos (by decide), e4, if_pos (by omega), d4, if_pos (by decide), e5, if_pos (by omega), d5, if_pos (by decide), e6, if_neg (by omega)]
  rw [if_neg c6]
  by_cases c7 : s ≤ 1048576
  · rw [if_pos c7]; simp only [blocks_Length.l0]; rw [if_pos (by decide), e1, if_pos (by omega), d1, if_pos (by decide), e2, if_pos (by omega), d2, if_pos (by decide), e3, if_pos (by omega), d3, if_pos (by decide), e4, if_pos (by omega), d4, if_pos (by decide), e5, if_pos (by omega), d5, if_pos (by decide), e6, if_pos (by omega), d6, if_pos (by decide), e7, if_neg (by omega)]
  rw [if_neg c7]
  by_cases c8 : s ≤ 4194304
  · rw [if_pos c8]; simp only [blocks_Length.l0]; rw [if_pos (by decide), e1, if_pos (by omega), d1, if_pos (by decide), e2, if_pos (by omega), d2, if_pos (by decide), e3, if_pos (by omega), d3, if_pos (by decide), e4, if_pos (by omega), d4, if_pos (by decide), e5, if_pos (by omega), d5, if_pos (by decide), e6, if_pos (by omega), d6, if_pos (by decide), e7, if_pos (by omega), d7, if_pos (by decide), e8, if_neg (by omega)]
  rw [if_neg c8]
  simp only [blocks_Length.l0]; rw [if_pos (by decide), e1, if_pos (by omega), d1, if_pos (by decide), e2, if_pos (by omega), d2, if_pos (by decide), e3, if_pos (by omega), d3, if_pos (by decide), e4, if_pos (by omega), d4, if_pos (by decide), e5, if_pos (by omega), d5, if_pos (by decide), e6, if_pos (by omega), d6, if_pos (by decide), e7, if_pos (by omega), d7, if_pos (by decide), e8, if_pos (by omega), d8, if_neg (by decide)]
def Rg (s b : Int) : Bool := decide (0 ≤ s ∧ s ≤ 131072 ∧ 16 ≤ b ∧ b ≤ 4096)
theorem right_of (s b : Int) : blocks_Right.f s b = some (Rg s b) := by
  unfold blocks_Right.f blocks_block.f Rg
  by_cases h1 : s ≥ 0
  · rw [if_pos h1]
    by_cases h2 : s ≤ 131072
    · rw [if_pos h2]
      by_cases h3 : b ≥ 16
      · rw [if_pos h3]; exact congrArg some (decide_eq_decide.2 (by omega))
      · rw [if_neg h3]; exact congrArg some (decide_eq_false (by omega)).symm
    · rw [if_neg h2]; exact congrArg some (decide_eq_false (by omega)).symm
  · rw [if_neg h1]; exact congrArg some (decide_eq_false (by omega)).symm
theorem rg_true {s b : Int} (h : Rg s b = true) : 0 ≤ s ∧ s ≤ 131072 ∧ 16 ≤ b ∧ b ≤ 4096 := of_decide_eq_true h
theorem rg_mk {s b : Int} (h : 0 ≤ s ∧ s ≤ 131072 ∧ 16 ≤ b ∧ b ≤ 4096) : Rg s b = true := decide_eq_true h
/-- How many blocks. -/
def Ct (s b : Int) : Int := if Rg s b = true then (s + b - 1) / b else 0
theorem ct_bounds {s b : Int} (h : Rg s b = true) : Ct s b * b ≤ s + b - 1 ∧ s ≤ Ct s b * b ∧ 0 ≤ Ct s b ∧ Ct s b ≤ 8192 := by
  obtain ⟨h1, h2, h3, h4⟩ := rg_true h
  unfold Ct; rw [if_pos h]
  have a := Int.ediv_mul_le (s + b - 1) (b := b) (by omega)
  have c := Int.lt_ediv_add_one_mul_self (s + b - 1) (b := b) (by omega)
  have d : 0 ≤ (s + b - 1) / b := Int.ediv_nonneg (by omega) (by omega)
  have e : (s + b - 1) / b < 8193 := Int.ediv_lt_of_lt_mul (by omega) (by omega)
  rw [Int.add_mul] at c
  exact ⟨a, by omega, d, by omega⟩
theorem count_of (s b : Int) : blocks_Count.f s b = some (Ct s b) := by
  unfold blocks_Count.f
  rw [right_of]; simp only [Option.bind_some]
  by_cases h : Rg s b = true
  · obtain ⟨h1, h2, h3, h4⟩ := rg_true h
    have hb := ct_bounds h
    unfold Ct at hb ⊢
    rw [if_pos h] at hb
    rw [if_pos h, if_pos h, if_neg (by omega), w64 (s + b) (by omega) (by omega), w64 (s + b - 1) (by omega) (by omega), Int.tdiv_eq_ediv_of_nonneg (by omega), w64 _ (by omega) (by omega)]
  · unfold Ct; rw [if_neg h, if_neg h]
theorem mul_bounds {i b : Int} (h0 : 0 ≤ i) (h1 : i ≤ 8192) (h2 : 16 ≤ b) (h3 : b ≤ 4096) : 0 ≤ i * b ∧ i * b ≤ 8192 * 4096 :=
  ⟨Int.mul_nonneg h0 (by omega), Int.mul_le_mul h1 h3 (by omega) (by omega)⟩
theorem range_no {s b i : Int} (h : i < 0 ∨ Ct s b ≤ i) : blocks_Range.f s b i = some (0, 0, false) := by
  unfold blocks_Range.f
  by_cases h0 : i < 0
  · rw [if_pos h0]
  · rw [if_neg h0, count_of]; simp only [Option.bind_some]; rw [if_pos (by omega)]
theorem ct_right {s b i : Int} (h0 : 0 ≤ i) (h : i < Ct s b) : Rg s b = true := by
  by_cases hr : Rg s b = true
  · exact hr
  · unfold Ct at h; rw [if_neg hr] at h; omega
theorem range_yes {s b i : Int} (h0 : 0 ≤ i) (h : i < Ct s b) : blocks_Range.f s b i = some (i * b, mn s ((i + 1) * b), true) := by
  have hr := ct_right h0 h
  obtain ⟨h1, h2, h3, h4⟩ := rg_true hr
  have hb := ct_bounds hr
  have m1 := mul_bounds (i := i) (b := b) h0 (by omega) h3 h4
  have m2 := mul_bounds (i := i + 1) (b := b) (by omega) (by omega) h3 h4
  unfold blocks_Range.f
  rw [if_neg (by omega), count_of]; simp only [Option.bind_some]
  rw [if_neg (by omega), w64 (i * b) (by omega) (by omega), w64 (i + 1) (by omega) (by omega), w64 ((i + 1) * b) (by omega) (by omega)]
def Wh (s b o : Int) : Bool := decide (Rg s b = true ∧ 0 ≤ o ∧ o < s)
theorem which_no {s b o : Int} (h : ¬ (Rg s b = true ∧ 0 ≤ o ∧ o < s)) : blocks_Which.f s b o = some (0, false) := by
  unfold blocks_Which.f
  rw [right_of]; simp only [Option.bind_some]
  by_cases hr : Rg s b = true
  · have h' : ¬ (0 ≤ o ∧ o < s) := fun q => h ⟨hr, q⟩
    rw [if_pos hr]
    by_cases h0 : o < 0
    · rw [if_pos h0]
    · rw [if_neg h0, if_pos (by omega)]
  · rw [if_neg hr]
theorem which_yes {s b o : Int} (hr : Rg s b = true) (h0 : 0 ≤ o) (h : o < s) : blocks_Which.f s b o = some (o / b, true) := by
  obtain ⟨h1, h2, h3, h4⟩ := rg_true hr
  have d : 0 ≤ o / b := Int.ediv_nonneg h0 (by omega)
  have e : o / b ≤ o := Int.ediv_le_self b h0
  unfold blocks_Which.f
  rw [right_of]; simp only [Option.bind_some]
  rw [if_pos hr, if_neg (by omega), if_neg (by omega), if_neg (by omega), Int.tdiv_eq_ediv_of_nonneg h0, w64 _ (by omega) (by omega)]
theorem awake_of (m : Nat) : remoralaw05_awake.f (m + 9) = some true := by
  have c : Ct 40 16 = 3 := by decide
  unfold remoralaw05_awake.f
  rw [range_yes (by decide) (by rw [c]; decide), which_yes (by decide) (by decide) (by decide), length_of, length_of, count_of]
  decide
theorem refright_of (s b : Int) : remoraref05_Right.f s b = some (Rg s b) := by
  rw [← right_of]; rfl
theorem refcount_loop (s b : Int) (hr : Rg s b = true) (d : Nat) : ∀ (k : Nat) (c : Int), 0 ≤ c → Ct s b - c = d → d < k → remoraref05_Count.l0 k s b c (c * b) = some (Ct s b) := by
  obtain ⟨h1, h2, h3, h4⟩ := rg_true hr
  obtain ⟨b1, b2, b3, b4⟩ := ct_bounds hr
  induction d with
  | zero =>
    intro k c h0 hd hk
    obtain ⟨k, rfl⟩ : ∃ m, k = m + 1 := ⟨k - 1, by omega⟩
    obtain rfl : c = Ct s b := by omega
    simp only [remoraref05_Count.l0]; rw [if_neg (by omega)]
  | succ d ih =>
    intro k c h0 hd hk
    obtain ⟨k, rfl⟩ : ∃ m, k = m + 1 := ⟨k - 1, by omega⟩
    have hm : (c + 1) * b ≤ Ct s b * b := Int.mul_le_mul_of_nonneg_right (by omega) (by omega)
    have e : c * b + b = (c + 1) * b := by rw [Int.add_mul, Int.one_mul]
    have hp : 0 ≤ c * b := Int.mul_nonneg h0 (by omega)
    simp only [remoraref05_Count.l0]
    rw [if_pos (by omega), w64 (c + 1) (by omega) (by omega), e, w64 ((c + 1) * b) (by omega) (by omega)]
    exact ih k (c + 1) (by omega) (by omega) (by omega)
theorem refcount_of (s b : Int) (m : Nat) : remoraref05_Count.f (m + 8193) s b = some (Ct s b) := by
  unfold remoraref05_Count.f
  rw [refright_of]; simp only [Option.bind_some]
  by_cases hr : Rg s b = true
  · rw [if_pos hr]
    obtain ⟨b1, b2, b3, b4⟩ := ct_bounds hr
    have h := refcount_loop s b hr (Ct s b).toNat (m + 8193) 0 (by omega) (by omega) (by omega)
    rw [Int.zero_mul] at h
    exact h
  · rw [if_neg hr]; unfold Ct; rw [if_neg hr]

theorem BlocksRange : remoralaw05_BlocksRange.Pure := by
  intro a0 a1 a2 w0 w1 w2
  refine ⟨9000, ?_⟩
  have hR : remoraref05_Range.f 9000 a0 a1 a2 = blocks_Range.f a0 a1 a2 := by
    unfold remoraref05_Range.f
    rw [refcount_of a0 a1 807]
    by_cases h0 : a2 < 0
    · rw [if_pos h0, range_no (.inl h0)]
    · rw [if_neg h0]; simp only [Option.bind_some]
      by_cases h : a2 ≥ Ct a0 a1
      · rw [if_pos h, range_no (.inr h)]
      · have hr := ct_right (by omega) (show a2 < Ct a0 a1 by omega)
        obtain ⟨h1, h2, h3, h4⟩ := rg_true hr
        have hb := ct_bounds hr
        have m1 := mul_bounds (i := a2) (b := a1) (by omega) (by omega) h3 h4
        rw [if_neg h, range_yes (by omega) (by omega), w64 (a2 * a1) (by omega) (by omega), w64 (a2 * a1 + a1) (by omega) (by omega), Int.add_mul, Int.one_mul]
        simp only [mn]; simp; split <;> split <;> omega
  have hW : remoraref05_Which.f a0 a1 a2 = blocks_Which.f a0 a1 a2 := rfl
  have e1 : ∃ r, blocks_Range.f a0 a1 a2 = some r := by
    by_cases h : a2 < 0 ∨ Ct a0 a1 ≤ a2
    · exact ⟨_, range_no h⟩
    · exact ⟨_, range_yes (by omega) (by omega)⟩
  have e2 : ∃ r, blocks_Which.f a0 a1 a2 = some r := by
    by_cases h : Rg a0 a1 = true ∧ 0 ≤ a2 ∧ a2 < a0
    · exact ⟨_, which_yes h.1 h.2.1 h.2.2⟩
    · exact ⟨_, which_no h⟩
  obtain ⟨r1, e1⟩ := e1
  obtain ⟨r2, e2⟩ := e2
  unfold remoralaw05_BlocksRange.f
  rw [hR, hW, e1, e2, awake_of 8991]
  simp

end Go.Proofs.Ytciibhdodajjaaa.Pure
