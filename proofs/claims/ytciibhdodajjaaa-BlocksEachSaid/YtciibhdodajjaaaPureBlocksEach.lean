/- Whoever goes through the blocks of a text is told the number and the bytes of each, in order, no more than is wanted, and the same each time, for at most 3,000 bytes. Conditions: none. -/
import Derived.Test.YtciibhdodajjaaaPBlocksEachx2
namespace Go.Proofs.Ytciibhdodajjaaa.Pure
open Go.RowKit Go.Proofs.Ytciibhdodajjaaa.PBlocksEach Go.Proofs.YtciibhdodajjaaaW.PrintWords Go.Proofs.YtciibhdodajjaaaW.PrintLast
set_option maxRecDepth 100000
set_option linter.unusedVariables false
theorem w64 (n : Int) (h0 : -9223372036854775808 ≤ n) (h1 : n ≤ 9223372036854775807) : wrap64 n = n := by unfold wrap64; omega
/-- The length by cases. -/
def Ln (s : Int) : Int := if s ≤ 256 then 16 else if s ≤ 1024 then 32 else if s ≤ 4096 then 64 else if s ≤ 16384 then 128 else if s ≤ 65536 then 256 else if s ≤ 262144 then 512 else if s ≤ 1048576 then 1024 else if s ≤ 4194304 then 2048 else 4096
theorem length_of (s : Int) (m : Nat) : blocks_Length.f (m + 9) s = some (Ln s) := by
  have e1 : wrap64 (16 * 16) = 256 := by unfold wrap64; decide
  have e2 : wrap64 (32 * 32) = 1024 := by unfold wrap64; decide
  have e3 : wrap64 (64 * 64) = 4096 := by unfold wrap64; decide
  have e4 : wrap64 (128 * 128) = 16384 := by unfold wrap64; decide
  have e5 : wrap64 (256 * 256) = 65536 := by unfold wrap64; decide
  have e6 : wrap64 (512 * 512) = 262144 := by unfold wrap64; decide
  have e7 : wrap64 (1024 * 1024) = 1048576 := by unfold wrap64; decide
  have e8 : wrap64 (2048 * 2048) = 4194304 := by unfold wrap64; decide
  have d1 : wrap64 (16 * 2) = 32 := by unfold wrap64; decide
  have d2 : wrap64 (32 * 2) = 64 := by unfold wrap64; decide
  have d3 : wrap64 (64 * 2) = 128 := by unfold wrap64; decide
  have d4 : wrap64 (128 * 2) = 256 := by unfold wrap64; decide
  have d5 : wrap64 (256 * 2) = 512 := by unfold wrap64; decide
  have d6 : wrap64 (512 * 2) = 1024 := by unfold wrap64; decide
  have d7 : wrap64 (1024 * 2) = 2048 := by unfold wrap64; decide
  have d8 : wrap64 (2048 * 2) = 4096 := by unfold wrap64; decide
  unfold blocks_Length.f Ln
  by_cases c1 : s ≤ 256
  · rw [if_pos c1]; simp only [blocks_Length.l0]; rw [if_pos (by decide), e1, if_neg (by omega)]
  rw [if_neg c1]
  by_cases c2 : s ≤ 1024
  · rw [if_pos c2]; simp only [blocks_Length.l0]; rw [if_pos (by decide), e1, if_pos (by omega), d1, if_pos (by decide), e2, if_neg (by omega)]
  rw [if_neg c2]
  by_cases c3 : s ≤ 4096
  · rw [if_pos c3]; simp only [blocks_Length.l0]; rw [if_pos (by decide), e1, if_pos (by omega), d1, if_pos (by decide), e2, if_pos (by omega), d2, if_pos (by decide), e3, if_neg (by omega)]
  rw [if_neg c3]
  by_cases c4 : s ≤ 16384
  · rw [if_pos c4]; simp only [blocks_Length.l0]; rw [if_pos (by decide), e1, if_pos (by omega), d1, if_pos (by decide), e2, if_pos (by omega), d2, if_pos (by decide), e3, if_pos (by omega), d3, if_pos (by decide), e4, if_neg (by omega)]
  rw [if_neg c4]
  by_cases c5 : s ≤ 65536
  · rw [if_pos c5]; simp only [blocks_Length.l0]; rw [if_pos (by decide), e1, if_pos (by omega), d1, if_pos (by decide), e2, if_pos (by omega), d2, if_pos (by decide), e3, if_pos (by omega), d3, if_pos (by decide), e4, if_pos (by omega), d4, if_pos (by decide), e5, if_neg (by omega)]
  rw [if_neg c5]
  by_cases c6 : s ≤ 262144
  · rw [if_pos c6]; simp only [blocks_Length.l0]; rw [if_pos (by decide), e1, if_pos (by omega), d1, if_pos (by decide), e2, if_pos (by omega), d2, if_pos (by decide), e3, if_pos (by omega), d3, if_pos (by decide), e4, if_pos (by omega), d4, if_pos (by decide), e5, if_pos (by omega), d5, if_pos (by decide), e6, if_neg (by omega)]
  rw [if_neg c6]
  by_cases c7 : s ≤ 1048576
  · rw [if_pos c7]; simp only [blocks_Length.l0]; rw [if_pos (by decide), e1, if_pos (by omega), d1, if_pos (by decide), e2, if_pos (by omega), d2, if_pos (by decide), e3, if_pos (by omega), d3, if_pos (by decide), e4, if_pos (by omega), d4, if_pos (by decide), e5, if_pos (by omega), d5, if_pos (by decide), e6, if_pos (by omega), d6, if_pos (by decide), e7, if_neg (by omega)]
  rw [if_neg c7]
  by_cases c8 : s ≤ 4194304
  · rw [if_pos c8]; simp only [blocks_Length.l0]; rw [if_pos (by decide), e1, if_pos (by omega), d1, if_pos (by decide), e2, if_pos (by omega), d2, if_pos (by decide), e3, if_pos (by omega), d3, if_pos (by decide), e4, if_pos (by omega), d4, if_pos (by decide), e5, if_pos (by omega), d5, if_pos (by decide), e6, if_pos (by omega), d6, if_pos (by decide), e7, if_pos (by omega), d7, if_pos (by decide), e8, if_neg (by omega)]
  rw [if_neg c8]
  simp only [blocks_Length.l0]; rw [if_pos (by decide), e1, if_pos (by omega), d1, if_pos (by decide), e2, if_pos (by omega), d2, if_pos (by decide), e3, if_pos (by omega), d3, if_pos (by decide), e4, if_pos (by omega), d4, if_pos (by decide), e5, if_pos (by omega), d5, if_pos (by decide), e6, if_pos (by omega), d6, if_pos (by decide), e7, if_pos (by omega), d7, if_pos (by decide), e8, if_pos (by omega), d8, if_neg (by decide)]
def Rg (s b : Int) : Bool := decide (0 ≤ s ∧ s ≤ 131072 ∧ 16 ≤ b ∧ b ≤ 4096)
theorem right_of (s b : Int) : blocks_Right.f s b = some (Rg s b) := by
  unfold blocks_Right.f blocks_block.f Rg
  by_cases h1 : s ≥ 0
  · rw [if_pos h1]
    by_cases h2 : s ≤ 131072
    · rw [if_pos h2]
      by_cases h3 : b ≥ 16
      · rw [if_pos h3]; exact congrArg some (decide_eq_decide.2 (by omega))
      · rw [if_neg h3]; exact congrArg some (decide_eq_false (by omega)).symm
    · rw [if_neg h2]; exact congrArg some (decide_eq_false (by omega)).symm
  · rw [if_neg h1]; exact congrArg some (decide_eq_false (by omega)).symm
theorem rg_true {s b : Int} (h : Rg s b = true) : 0 ≤ s ∧ s ≤ 131072 ∧ 16 ≤ b ∧ b ≤ 4096 := of_decide_eq_true h
theorem rg_mk {s b : Int} (h : 0 ≤ s ∧ s ≤ 131072 ∧ 16 ≤ b ∧ b ≤ 4096) : Rg s b = true := decide_eq_true h
/-- How many blocks. -/
def Ct (s b : Int) : Int := if Rg s b = true then (s + b - 1) / b else 0
theorem ct_bounds {s b : Int} (h : Rg s b = true) : Ct s b * b ≤ s + b - 1 ∧ s ≤ Ct s b * b ∧ 0 ≤ Ct s b ∧ Ct s b ≤ 8192 := by
  obtain ⟨h1, h2, h3, h4⟩ := rg_true h
  unfold Ct; rw [if_pos h]
  have a := Int.ediv_mul_le (s + b - 1) (b := b) (by omega)
  have c := Int.lt_ediv_add_one_mul_self (s + b - 1) (b := b) (by omega)
  have d : 0 ≤ (s + b - 1) / b := Int.ediv_nonneg (by omega) (by omega)
  have e : (s + b - 1) / b < 8193 := Int.ediv_lt_of_lt_mul (by omega) (by omega)
  rw [Int.add_mul] at c
  exact ⟨a, by omega, d, by omega⟩
theorem count_of (s b : Int) : blocks_Count.f s b = some (Ct s b) := by
  unfold blocks_Count.f
  rw [right_of]; simp only [Option.bind_some]
  by_cases h : Rg s b = true
  · obtain ⟨h1, h2, h3, h4⟩ := rg_true h
    have hb := ct_bounds h
    unfold Ct at hb ⊢
    rw [if_pos h] at hb
    rw [if_pos h, if_pos h, if_neg (by omega), w64 (s + b) (by omega) (by omega), w64 (s + b - 1) (by omega) (by omega), Int.tdiv_eq_ediv_of_nonneg (by omega), w64 _ (by omega) (by omega)]
  · unfold Ct; rw [if_neg h, if_neg h]
theorem mul_bounds {i b : Int} (h0 : 0 ≤ i) (h1 : i ≤ 8192) (h2 : 16 ≤ b) (h3 : b ≤ 4096) : 0 ≤ i * b ∧ i * b ≤ 8192 * 4096 :=
  ⟨Int.mul_nonneg h0 (by omega), Int.mul_le_mul h1 h3 (by omega) (by omega)⟩
theorem range_no {s b i : Int} (h : i < 0 ∨ Ct s b ≤ i) : blocks_Range.f s b i = some (0, 0, false) := by
  unfold blocks_Range.f
  by_cases h0 : i < 0
  · rw [if_pos h0]
  · rw [if_neg h0, count_of]; simp only [Option.bind_some]; rw [if_pos (by omega)]
theorem ct_right {s b i : Int} (h0 : 0 ≤ i) (h : i < Ct s b) : Rg s b = true := by
  by_cases hr : Rg s b = true
  · exact hr
  · unfold Ct at h; rw [if_neg hr] at h; omega
theorem range_yes {s b i : Int} (h0 : 0 ≤ i) (h : i < Ct s b) : blocks_Range.f s b i = some (i * b, mn s ((i + 1) * b), true) := by
  have hr := ct_right h0 h
  obtain ⟨h1, h2, h3, h4⟩ := rg_true hr
  have hb := ct_bounds hr
  have m1 := mul_bounds (i := i) (b := b) h0 (by omega) h3 h4
  have m2 := mul_bounds (i := i + 1) (b := b) (by omega) (by omega) h3 h4
  unfold blocks_Range.f
  rw [if_neg (by omega), count_of]; simp only [Option.bind_some]
  rw [if_neg (by omega), w64 (i * b) (by omega) (by omega), w64 (i + 1) (by omega) (by omega), w64 ((i + 1) * b) (by omega) (by omega)]
def Wh (s b o : Int) : Bool := decide (Rg s b = true ∧ 0 ≤ o ∧ o < s)
theorem which_no {s b o : Int} (h : ¬ (Rg s b = true ∧ 0 ≤ o ∧ o < s)) : blocks_Which.f s b o = some (0, false) := by
  unfold blocks_Which.f
  rw [right_of]; simp only [Option.bind_some]
  by_cases hr : Rg s b = true
  · have h' : ¬ (0 ≤ o ∧ o < s) := fun q => h ⟨hr, q⟩
    rw [if_pos hr]
    by_cases h0 : o < 0
    · rw [if_pos h0]
    · rw [if_neg h0, if_pos (by omega)]
  · rw [if_neg hr]
theorem which_yes {s b o : Int} (hr : Rg s b = true) (h0 : 0 ≤ o) (h : o < s) : blocks_Which.f s b o = some (o / b, true) := by
  obtain ⟨h1, h2, h3, h4⟩ := rg_true hr
  have d : 0 ≤ o / b := Int.ediv_nonneg h0 (by omega)
  have e : o / b ≤ o := Int.ediv_le_self b h0
  unfold blocks_Which.f
  rw [right_of]; simp only [Option.bind_some]
  rw [if_pos hr, if_neg (by omega), if_neg (by omega), if_neg (by omega), Int.tdiv_eq_ediv_of_nonneg h0, w64 _ (by omega) (by omega)]
theorem awake_of (m : Nat) : remoralaw05_awake.f (m + 9) = some true := by
  have c : Ct 40 16 = 3 := by decide
  unfold remoralaw05_awake.f
  rw [range_yes (by decide) (by rw [c]; decide), which_yes (by decide) (by decide) (by decide), length_of, length_of, count_of]
  decide
theorem ev_pos {α : Type} {c : Prop} [Decidable c] (h : c) {f g : Nat → Option α} {r : α} (k : Ev f r) : Ev (fun k => if c then f k else g k) r := Ev.congr (fun _ => if_pos h) k
theorem ev_neg {α : Type} {c : Prop} [Decidable c] (h : ¬ c) {f g : Nat → Option α} {r : α} (k : Ev g r) : Ev (fun k => if c then f k else g k) r := Ev.congr (fun _ => if_neg h) k
theorem ev_awake : Ev (fun k => remoralaw05_awake.f k) true := ⟨9, fun k hk => by obtain ⟨m, rfl⟩ : ∃ m, k = m + 9 := ⟨k - 9, by omega⟩; exact awake_of m⟩
/-- Where block i lies. -/
theorem cut_at {l : List Int} {b : Nat} (hb : 16 ≤ b) {i : Nat} : (i < cutNum l b ↔ i * b < l.length) := by
  unfold cutNum
  rw [Int.toNat_natCast]
  constructor
  · intro h
    have := (Nat.le_div_iff_mul_le (by omega)).1 (show i + 1 ≤ (l.length + b - 1) / b from h)
    rw [Nat.add_mul, Nat.one_mul] at this
    omega
  · intro h
    have : i + 1 ≤ (l.length + b - 1) / b := (Nat.le_div_iff_mul_le (by omega)).2 (by rw [Nat.add_mul, Nat.one_mul]; omega)
    exact this
theorem cutRow_of {l : List Int} {b i : Nat} (hb1 : 1 ≤ b) (hb2 : b ≤ 4096) (hl : l.length ≤ 131072) (hi : i * b < l.length) : cutRow l b i = (l.drop (i * b)).take b := by
  have e1 : wrap64 ((i : Int) * (b : Int)) = ((i * b : Nat) : Int) := by
    rw [show (i : Int) * (b : Int) = ((i * b : Nat) : Int) by push_cast; rfl]
    generalize i * b = q at hi ⊢
    unfold wrap64
    omega
  have hib : i ≤ i * b := Nat.le_mul_of_pos_right _ hb1
  by_cases hi64 : i < 2 ^ 40
  · have e2 : wrap64 (wrap64 ((i : Int) + 1) * (b : Int)) = ((i * b + b : Nat) : Int) := by
      rw [show wrap64 ((i : Int) + 1) = ((i + 1 : Nat) : Int) by unfold wrap64; omega, show ((i + 1 : Nat) : Int) * (b : Int) = ((i * b + b : Nat) : Int) by push_cast; rw [Int.add_mul, Int.one_mul]]
      generalize i * b = q at hi ⊢
      unfold wrap64
      omega
    unfold cutRow
    rw [e1, e2]
    have e3 : (mn (l.length : Int) ((i * b + b : Nat) : Int)).toNat = min l.length (i * b + b) := by unfold mn; split <;> omega
    rw [e3, Int.toNat_natCast, List.drop_take]
    apply List.ext_getElem?
    intro j
    rw [List.getElem?_take, List.getElem?_take, List.getElem?_drop]
    by_cases h1 : j < b
    · rw [if_pos h1]
      by_cases h2 : i * b + j < l.length
      · rw [if_pos (by omega)]
      · rw [if_neg (by omega), List.getElem?_eq_none (by omega)]
    · rw [if_neg h1, if_neg (by omega)]
  · exfalso
    omega
theorem may_of (b : Int) : remoraref05_May.f b = some (decide (16 ≤ b ∧ b ≤ 4096)) := by
  unfold remoraref05_May.f
  by_cases h : b ≥ 16
  · rw [if_pos h]; exact congrArg some (decide_eq_decide.2 (by omega))
  · rw [if_neg h]; exact congrArg some (decide_eq_false (by omega)).symm
theorem refcut_loop {l : List Int} {b : Nat} (hb : 16 ≤ b) (hb2 : b ≤ 4096) (hl : l.length ≤ 131072) (d : Nat) : ∀ i : Nat, i + d = cutNum l b →
    Ev (fun k => remoraref05_Cut.l0 k l b (cutRows l b i) ((i * b : Nat) : Int)) (cutRows l b (cutNum l b), 0) := by
  induction d with
  | zero =>
    intro i hi
    have hn : ¬ i * b < l.length := fun h => by have := (cut_at hb).2 h; omega
    obtain rfl : i = cutNum l b := hi
    refine Ev.step (f := fun _ => some (cutRows l b (cutNum l b), 0)) (fun k => ?_) (Ev.now _)
    simp only [remoraref05_Cut.l0]
    rw [if_neg (by omega)]
  | succ d ih =>
    intro i hi
    have hlt : i * b < l.length := (cut_at hb).1 (by omega)
    have e0 : wrap64 (((i * b : Nat) : Int) + (b : Int)) = (((i + 1) * b : Nat) : Int) := by
      rw [Nat.add_mul, Nat.one_mul]
      generalize i * b = q at hlt ⊢
      unfold wrap64
      omega
    refine Ev.step (f := fun k => remoraref05_Cut.l0 k l b (cutRows l b (i + 1)) (((i + 1) * b : Nat) : Int)) (fun k => ?_) (ih (i + 1) (by omega))
    simp only [remoraref05_Cut.l0]
    have e4 : (i + 1) * b = i * b + b := by rw [Nat.add_mul, Nat.one_mul]
    have e3 : (mn (((i + 1) * b : Nat) : Int) (l.length : Int)).toNat = min l.length (i * b + b) := by rw [e4]; unfold mn; split <;> omega
    have e5 : (l.take (min l.length (i * b + b))).drop (i * b) = cutRow l b i := by
      rw [cutRow_of (by omega) hb2 hl hlt, List.drop_take]
      apply List.ext_getElem?
      intro j
      rw [List.getElem?_take, List.getElem?_take, List.getElem?_drop]
      by_cases h1 : j < b
      · rw [if_pos h1]
        by_cases h2 : i * b + j < l.length
        · rw [if_pos (by omega)]
        · rw [if_neg (by omega), List.getElem?_eq_none (by omega)]
      · rw [if_neg h1, if_neg (by omega)]
    have hN : cutNum l b ≤ 131072 := (cut_facts (by omega) (by omega) hl).2.1
    have hm0 : 0 ≤ ((i * b : Nat) : Int) := Int.natCast_nonneg _
    have hm1 : ((i * b : Nat) : Int) ≤ mn (((i + 1) * b : Nat) : Int) (l.length : Int) := by rw [e4]; unfold mn; split <;> omega
    have hm2 : mn (((i + 1) * b : Nat) : Int) (l.length : Int) ≤ (l.length : Int) := by unfold mn; split <;> omega
    have hr : (cutRow l b i).length ≤ 4096 := by rw [cutRow_of (by omega) hb2 hl hlt, List.length_take]; omega
    rw [if_pos (by omega), e0]
    simp only [Option.bind_some, List.nil_append, List.length_nil, Nat.zero_add]
    rw [if_pos hm0, if_pos hm1, if_pos hm2, e3, Int.toNat_natCast, e5, if_pos (by omega), if_pos (by rw [cutRows_len]; omega), ← cutRows_succ]
theorem each_ref (l : List Int) (b : Int) (hl : l.length ≤ 131072) : ∃ e, Ev (fun k => remoraref05_Cut.f k l b) (eachRows l b, e) := by
  unfold eachRows remoraref05_Cut.f
  rw [may_of]
  simp only [Option.bind_some]
  by_cases h1 : 16 ≤ b ∧ b ≤ 4096
  · rw [if_pos h1, decide_eq_true h1]
    simp only [if_true]
    obtain ⟨b', rfl⟩ : ∃ b' : Nat, b = (b' : Int) := ⟨b.toNat, by omega⟩
    refine ⟨0, ev_neg (by omega) ?_⟩
    have := refcut_loop (l := l) (b := b') (by omega) (by omega) hl (cutNum l b') 0 (by omega)
    rwa [Nat.zero_mul] at this
  · rw [if_neg h1, decide_eq_false h1]
    simp only [Bool.false_eq_true, if_false]
    exact ⟨2, Ev.now _⟩

theorem BlocksEach : remoralaw05_BlocksEach.Pure := by
  intro l0 a1 a2 hw hlen hwa hwb
  refine Ev.rounds ?_
  unfold remoralaw05_BlocksEach.f
  by_cases h0 : (l0.length : Int) > 3000
  · exact ev_pos h0 ev_awake
  · refine ev_neg h0 ?_
    obtain ⟨e, he⟩ := each_ref l0 a1 (by omega)
    exact Ev.bind he (ev_pos rfl ev_awake)

end Go.Proofs.Ytciibhdodajjaaa.Pure
