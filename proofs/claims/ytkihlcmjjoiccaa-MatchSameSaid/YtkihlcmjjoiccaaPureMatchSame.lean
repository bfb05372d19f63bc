/- Of the basis itself nothing is told: it is one copy of all of it. Conditions: none. -/
import Derived.Test.YtkihlcmjjoiccaaPMatchSamex10
namespace Go.Proofs.Ytkihlcmjjoiccaa.Pure
open Go.RowKit Go.Proofs.Ytkihlcmjjoiccaa.PMatchSame Go.Proofs.YtkihlcmjjoiccaaW.PrintWords Go.Proofs.YtkihlcmjjoiccaaW.PrintLast Go.Proofs.YtkihlcmjjoiccaaW.PrintMore
set_option maxRecDepth 100000
set_option linter.unusedVariables false
theorem w64 (n : Int) (h0 : -9223372036854775808 ≤ n) (h1 : n ≤ 9223372036854775807) : wrap64 n = n := by unfold wrap64; omega
/-- The length by cases. -/
def Ln (s : Int) : Int := if s ≤ 256 then 16 else if s ≤ 1024 then 32 else if s ≤ 4096 then 64 else if s ≤ 16384 then 128 else if s ≤ 65536 then 256 else if s ≤ 262144 then 512 else if s ≤ 1048576 then 1024 else if s ≤ 4194304 then 2048 else 4096
theorem length_of (s : Int) (m : Nat) : blocks_Length.f (m + 9) s = some (Ln s) := by
 have e1 : wrap64 (16 * 16) = 256 := by unfold wrap64; decide
 have e2 : wrap64 (32 * 32) = 1024 := by unfold wrap64; decide
 have e3 : wrap64 (64 * 64) = 4096 := by unfold wrap64; decide
 have e4 : wrap64 (128 * 128) = 16384 := by unfold wrap64; decide
 have e5 : wrap64 (256 * 256) = 65536 := by unfold wrap64; decide
 have e6 : wrap64 (512 * 512) = 262144 := by unfold wrap64; decide
 have e7 : wrap64 (1024 * 1024) = 1048576 := by unfold wrap64; decide
 have e8 : wrap64 (2048 * 2048) = 4194304 := by unfold wrap64; decide
 have d1 : wrap64 (16 * 2) = 32 := by unfold wrap64; decide
 have d2 : wrap64 (32 * 2) = 64 := by unfold wrap64; decide
 have d3 : wrap64 (64 * 2) = 128 := by unfold wrap64; decide
 have d4 : wrap64 (128 * 2) = 256 := by unfold wrap64; decide
 have d5 : wrap64 (256 * 2) = 512 := by unfold wrap64; decide
 have d6 : wrap64 (512 * 2) = 1024 := by unfold wrap64; decide
 have d7 : wrap64 (1024 * 2) = 2048 := by unfold wrap64; decide
 have d8 : wrap64 (2048 * 2) = 4096 := by unfold wrap64; decide
 unfold blocks_Length.f Ln
 by_cases c1 : s ≤ 256
 ·rw [if_pos c1]; simp only [blocks_Length.l0]; rw [if_pos (by decide), e1, if_neg (by omega)]
 rw [if_neg c1]
 by_cases c2 : s ≤ 1024
 ·rw [if_pos c2]; simp only [blocks_Length.l0]; rw [if_pos (by decide), e1, if_pos (by omega), d1, if_pos (by decide), e2, if_neg (by omega)]
 rw [if_neg c2]
 by_cases c3 : s ≤ 4096
 ·rw [if_pos c3]; simp only [blocks_Length.l0]; rw [if_pos (by decide), e1, if_pos (by omega), d1, if_pos (by decide), e2, if_pos (by omega), d2, if_pos (by decide), e3, if_neg (by omega)]
 rw [if_neg c3]
 by_cases c4 : s ≤ 16384
 ·rw [if_pos c4]; simp only [blocks_Length.l0]; rw [if_pos (by decide), e1, if_pos (by omega), d1, if_pos (by decide), e2, if_pos (by omega), d2, if_pos (by decide), e3, if_pos (by omega), d3, if_pos (by decide), e4, if_neg (by omega)]
 rw [if_neg c4]
 by_cases c5 : s ≤ 65536
 ·rw [if_pos c5]; simp only [blocks_Length.l0]; rw [if_pos (by decide), e1, if_pos (by omega), d1, if_pos (by decide), e2, if_pos (by omega), d2, if_pos (by decide), e3, if_pos (by omega), d3, if_pos (by decide), e4, if_pos (by omega), d4, if_pos (by decide), e5, if_neg (by omega)]
 rw [if_neg c5]
 by_cases c6 : s ≤ 262144
 ·rw [if_pos c6]; simp only [blocks_Length.l0]; rw [if_pos (by decide), e1, if_pos (by omega), d1, if_pos (by decide), e2, if_pos (by omega), d2, if_pos (by decide), e3, if_pos (by omega), d3, if_pos (by decide), e4, if_pos (by omega), d4, if_pos (by decide), e5, if_pos (by omega), d5, if_pos (by decide), e6, if_neg (by omega)]
 rw [if_neg c6]
 by_cases c7 : s ≤ 1048576
 ·rw [if_pos c7]; simp only [blocks_Length.l0]; rw [if_pos (by decide), e1, if_pos (by omega), d1, if_pos (by decide), e2, if_pos (by omega), d2, if_pos (by decide), e3, if_pos (by omega), d3, if_pos (by decide), e4, if_pos (by omega), d4, if_pos (by decide), e5, if_pos (by omega), d5, if_pos (by decide), e6, if_pos (by omega), d6, if_pos (by decide), e7, if_neg (by omega)]
 rw [if_neg c7]
 by_cases c8 : s ≤ 4194304
 ·rw [if_pos c8]; simp only [blocks_Length.l0]; rw [if_pos (by decide), e1, if_pos (by omega), d1, if_pos (by decide), e2, if_pos (by omega), d2, if_pos (by decide), e3, if_pos (by omega), d3, if_pos (by decide), e4, if_pos (by omega), d4, if_pos (by decide), e5, if_pos (by omega), d5, if_pos (by decide), e6, if_pos (by omega), d6, if_pos (by decide), e7, if_pos (by omega), d7, if_pos (by decide), e8, if_neg (by omega)]
 rw [if_neg c8]
 simp only [blocks_Length.l0]; rw [if_pos (by decide), e1, if_pos (by omega), d1, if_pos (by decide), e2, if_pos (by omega), d2, if_pos (by decide), e3, if_pos (by omega), d3, if_pos (by decide), e4, if_pos (by omega), d4, if_pos (by decide), e5, if_pos (by omega), d5, if_pos (by decide), e6, if_pos (by omega), d6, if_pos (by decide), e7, if_pos (by omega), d7, if_pos (by decide), e8, if_pos (by omega), d8, if_neg (by decide)]
def Rg (s b : Int) : Bool := decide (0 ≤ s ∧ s ≤ 131072 ∧ 16 ≤ b ∧ b ≤ 4096)
theorem right_of (s b : Int) : blocks_Right.f s b = some (Rg s b) := by
 unfold blocks_Right.f blocks_block.f Rg
 by_cases h1 : s ≥ 0
 ·rw [if_pos h1]
  by_cases h2 : s ≤ 131072
  ·rw [if_pos h2]
   by_cases h3 : b ≥ 16
   ·rw [if_pos h3]; exact congrArg some (decide_eq_decide.2 (by omega))
   ·rw [if_neg h3]; exact congrArg some (decide_eq_false (by omega)).symm
  ·rw [if_neg h2]; exact congrArg some (decide_eq_false (by omega)).symm
 ·rw [if_neg h1]; exact congrArg some (decide_eq_false (by omega)).symm
theorem rg_true {s b : Int} (h : Rg s b = true) : 0 ≤ s ∧ s ≤ 131072 ∧ 16 ≤ b ∧ b ≤ 4096 := of_decide_eq_true h
theorem rg_mk {s b : Int} (h : 0 ≤ s ∧ s ≤ 131072 ∧ 16 ≤ b ∧ b ≤ 4096) : Rg s b = true := decide_eq_true h
/-- How many blocks. -/
def Ct (s b : Int) : Int := if Rg s b = true then (s + b - 1) / b else 0
theorem ct_bounds {s b : Int} (h : Rg s b = true) : Ct s b * b ≤ s + b - 1 ∧ s ≤ Ct s b * b ∧ 0 ≤ Ct s b ∧ Ct s b ≤ 8192 := by
 obtain ⟨h1, h2, h3, h4⟩ := rg_true h
 unfold Ct; rw [if_pos h]
 have a := Int.ediv_mul_le (s + b - 1) (b := b) (by omega)
 have c := Int.lt_ediv_add_one_mul_self (s + b - 1) (b := b) (by omega)
 have d : 0 ≤ (s + b - 1) / b := Int.ediv_nonneg (by omega) (by omega)
 have e : (s + b - 1) / b < 8193 := Int.ediv_lt_of_lt_mul (by omega) (by omega)
 rw [Int.add_mul] at c
 exact ⟨a, by omega, d, by omega⟩
theorem count_of (s b : Int) : blocks_Count.f s b = some (Ct s b) := by
 unfold blocks_Count.f
 rw [right_of]; simp only [Option.bind_some]
 by_cases h : Rg s b = true
 ·obtain ⟨h1, h2, h3, h4⟩ := rg_true h
  have hb := ct_bounds h
  unfold Ct at hb ⊢
  rw [if_pos h] at hb
  rw [if_pos h, if_pos h, if_neg (by omega), w64 (s + b) (by omega) (by omega), w64 (s + b - 1) (by omega) (by omega), Int.tdiv_eq_ediv_of_nonneg (by omega), w64 _ (by omega) (by omega)]
 ·unfold Ct; rw [if_neg h, if_neg h]
theorem mul_bounds {i b : Int} (h0 : 0 ≤ i) (h1 : i ≤ 8192) (h2 : 16 ≤ b) (h3 : b ≤ 4096) : 0 ≤ i * b ∧ i * b ≤ 8192 * 4096 :=
 ⟨Int.mul_nonneg h0 (by omega), Int.mul_le_mul h1 h3 (by omega) (by omega)⟩
theorem range_no {s b i : Int} (h : i < 0 ∨ Ct s b ≤ i) : blocks_Range.f s b i = some (0, 0, false) := by
 unfold blocks_Range.f
 by_cases h0 : i < 0
 ·rw [if_pos h0]
 ·rw [if_neg h0, count_of]; simp only [Option.bind_some]; rw [if_pos (by omega)]
theorem ct_right {s b i : Int} (h0 : 0 ≤ i) (h : i < Ct s b) : Rg s b = true := by
 by_cases hr : Rg s b = true
 ·exact hr
 ·unfold Ct at h; rw [if_neg hr] at h; omega
theorem range_yes {s b i : Int} (h0 : 0 ≤ i) (h : i < Ct s b) : blocks_Range.f s b i = some (i * b, mn s ((i + 1) * b), true) := by
 have hr := ct_right h0 h
 obtain ⟨h1, h2, h3, h4⟩ := rg_true hr
 have hb := ct_bounds hr
 have m1 := mul_bounds (i := i) (b := b) h0 (by omega) h3 h4
 have m2 := mul_bounds (i := i + 1) (b := b) (by omega) (by omega) h3 h4
 unfold blocks_Range.f
 rw [if_neg (by omega), count_of]; simp only [Option.bind_some]
 rw [if_neg (by omega), w64 (i * b) (by omega) (by omega), w64 (i + 1) (by omega) (by omega), w64 ((i + 1) * b) (by omega) (by omega)]
theorem inc6 {i n : Nat} (h : i < n) (hn : n ≤ 4000000000000) : wrap64 ((i : Int) + 1) = ((i + 1 : Nat) : Int) := by unfold wrap64; omega
theorem ev_pos {α : Type} {c : Prop} [Decidable c] (h : c) {f g : Nat → Option α} {r : α} (k : Ev f r) : Ev (fun k => if c then f k else g k) r := Ev.congr (fun _ => if_pos h) k
theorem ev_neg {α : Type} {c : Prop} [Decidable c] (h : ¬ c) {f g : Nat → Option α} {r : α} (k : Ev g r) : Ev (fun k => if c then f k else g k) r := Ev.congr (fun _ => if_neg h) k
theorem ev_some {α : Type} {o : Option α} {r : α} (h : o = some r) : Ev (fun _ => o) r := by subst h; exact Ev.now _
/-- What is wrong with a signature's numbers. -/
def Fr (s b n : Int) : Int := if (1 ≤ n ∧ n ≤ 32) ∧ Rg s b = true then 0 else 2
theorem fr_ok {s b n : Int} (h : Fr s b n = 0) : (1 ≤ n ∧ n ≤ 32) ∧ Rg s b = true := by
 unfold Fr at h
 by_cases h1 : (1 ≤ n ∧ n ≤ 32) ∧ Rg s b = true
 ·exact h1
 ·rw [if_neg h1] at h; omega
theorem fr_mk {s b n : Int} (h : (1 ≤ n ∧ n ≤ 32) ∧ Rg s b = true) : Fr s b n = 0 := if_pos h
theorem fr_two {s b n : Int} (h : ¬ Fr s b n = 0) : Fr s b n = 2 := by
 unfold Fr at h ⊢
 by_cases h1 : (1 ≤ n ∧ n ≤ 32) ∧ Rg s b = true
 ·rw [if_pos h1] at h; omega
 ·rw [if_neg h1]
theorem strong_of (n : Int) : sig_strong.f n = some (decide (1 ≤ n ∧ n ≤ 32)) := by
 unfold sig_strong.f
 by_cases h : n ≥ 1
 ·rw [if_pos h]; congr 1; by_cases h2 : n ≤ 32
  ·rw [decide_eq_true h2, decide_eq_true ⟨h, h2⟩]
  ·rw [decide_eq_false h2, decide_eq_false (fun h3 => h2 h3.2)]
 ·rw [if_neg h, decide_eq_false (fun h3 => h h3.1)]
theorem front_of (s b n : Int) (l : List S55) : sig_front.f s b n l = some (Fr s b n) := by
 unfold sig_front.f Fr
 rw [strong_of, Option.bind_some]
 by_cases h : 1 ≤ n ∧ n ≤ 32
 ·rw [decide_eq_true h, if_pos rfl, right_of, Option.bind_some]
  by_cases h2 : Rg s b = true
  ·rw [if_pos h2, if_pos ⟨h, h2⟩]
  ·rw [if_neg h2, if_neg (fun h3 => h2 h3.2)]
 ·rw [decide_eq_false h, if_neg (by decide), if_neg (fun h3 => h h3.1)]
/-- What is wrong with a signature. -/
def Ck (s b n : Int) (l : List S55) : Int := if Fr s b n = 0 then (if (l.length : Int) = Ct s b then (if anyOff n l 0 = true then 5 else 0) else 5) else 2
theorem check_of (s b n : Int) (l : List S55) : sig_Check.f s b n l = some (Ck s b n l) := by
 unfold sig_Check.f Ck
 rw [front_of, Option.bind_some]
 by_cases h : Fr s b n = 0
 ·rw [if_pos h, if_pos h, count_of, Option.bind_some]
  by_cases h2 : (l.length : Int) = Ct s b
  ·rw [if_pos h2, if_pos h2, if_pos (by have := (ct_bounds (fr_ok h).2).2.2.2; omega)]
   by_cases h3 : anyOff n l 0 = true
   ·rw [if_pos h3, if_pos h3]
   ·rw [if_neg h3, if_neg h3]
  ·rw [if_neg h2, if_neg h2]
 ·rw [if_neg h, if_neg h, fr_two h]
theorem ck_ok {s b n : Int} {l : List S55} (h : Ck s b n l = 0) : Fr s b n = 0 ∧ (l.length : Int) = Ct s b ∧ anyOff n l 0 = false := by
 unfold Ck at h
 by_cases h1 : Fr s b n = 0
 ·rw [if_pos h1] at h
  by_cases h2 : (l.length : Int) = Ct s b
  ·rw [if_pos h2] at h
   by_cases h3 : anyOff n l 0 = true
   ·rw [if_pos h3] at h; omega
   ·exact ⟨h1, h2, by simpa using h3⟩
  ·rw [if_neg h2] at h; omega
 ·rw [if_neg h1] at h; omega
theorem ck_mk {s b n : Int} {l : List S55} (h1 : Fr s b n = 0) (h2 : (l.length : Int) = Ct s b) (h3 : ∀ m ∈ l, (m.f1.size : Int) = n) : Ck s b n l = 0 := by
 unfold Ck
 rw [if_pos h1, if_pos h2, if_neg]
 unfold anyOff
 rw [List.drop_zero, Bool.not_eq_true, List.any_eq_false]
 intro m hm
 have := h3 m hm
 simp [this]
theorem any_not {n : Int} {l : List S55} (h : anyOff n l 0 = false) : ∀ m ∈ l, (m.f1.size : Int) = n := by
 intro m hm
 unfold anyOff at h
 rw [List.drop_zero, List.any_eq_false] at h
 have := h m hm
 simpa using this
/-- One round of a rolling sum. -/
def rin (x c : Int) : Int := ((roll_In.f x 0 c).getD 0)
theorem rin_of (x c : Int) : roll_In.f x 0 c = some (rin x c) := rfl
def rollF (l : List Int) : Int := l.foldl rin 0
theorem roll_loop (l : List Int) (hn : l.length ≤ 4000000000000) (d : Nat) : ∀ (i : Nat) (x : Int), i + d = l.length → Ev (fun k => roll_Of.l0 k x l (l.length : Int) (i : Int)) ((l.drop i).foldl rin x) := by
 induction d with
 | zero =>
  intro i x hi
  refine Ev.step (f := fun _ => some x) (fun k => ?_) ?_
  ·simp only [roll_Of.l0]
   rw [if_neg (by omega)]
  ·rw [List.drop_eq_nil_of_le (show l.length ≤ i by omega)]
   exact Ev.now _
 | succ d ih =>
  intro i x hi
  have hlt : i < l.length := by omega
  refine Ev.step (f := fun k => roll_Of.l0 k (rin x (rd l (i : Int))) l (l.length : Int) ((i + 1 : Nat) : Int)) (fun k => ?_) ?_
  ·simp only [roll_Of.l0]
   rw [if_pos (by omega), if_pos (by omega), if_pos (by omega), rin_of, Option.bind_some, inc6 hlt hn]
  ·rw [List.drop_eq_getElem_cons hlt, List.foldl_cons]
   have e : rd l (i : Int) = l[i] := by unfold rd; rw [Int.toNat_natCast, List.getD_eq_getElem?_getD, List.getElem?_eq_getElem hlt]; rfl
   rw [e]
   exact ih (i + 1) _ (by omega)
theorem roll_of (l : List Int) (hn : l.length ≤ 4000000000000) : Ev (fun k => roll_Of.f k l) (rollF l) := roll_loop l hn l.length 0 0 (by omega)
/-- A text's mark. -/
def markF (l : List Int) (n : Int) : S55 := ⟨rollF l, (strOfNums (shaSum l)).extract 0 n.toNat⟩
theorem sum_size (l : List Int) : (strOfNums (shaSum l)).size = 32 := by rw [strOfNums_size, shaSum_len]
theorem mark_size (l : List Int) (n : Int) (h0 : 0 ≤ n) (h1 : n ≤ 32) : ((markF l n).f1.size : Int) = n := by
 unfold markF
 rw [ByteArray.size_extract, sum_size]
 omega
theorem cut_of (l : List Int) (hn : l.length ≤ 1000000000) (n : Int) (h0 : 0 ≤ n) (h1 : n ≤ 32) : sha_Cut.f l n = some ((markF l n).f1, 0) := by
 unfold sha_Cut.f sha_Sum.f
 rw [if_neg (by omega), if_neg (by omega), if_pos (by omega), Option.bind_some, if_pos h0, if_pos (by rw [sum_size]; exact h1)]
 rfl
theorem mark_of (l : List Int) (hn : l.length ≤ 1000000000) (n : Int) (h0 : 0 ≤ n) (h1 : n ≤ 32) : Ev (fun k => sig_mark.f k l n) ((markF l n).f0, (markF l n).f1) := by
 unfold sig_mark.f
 refine Ev.bind (ev_some (cut_of l hn n h0 h1)) (Ev.bind (roll_of l (by omega)) (Ev.now _))
/-- The marks of a text's blocks. -/
def marksF (l : List Int) (B n : Int) (m : Nat) : List S55 := (List.range m).map fun i => markF (cutRow l B i) n
theorem marks_len (l : List Int) (B n : Int) (m : Nat) : (marksF l B n m).length = m := by unfold marksF; rw [List.length_map, List.length_range]
theorem row_len (l : List Int) (B : Int) (i : Nat) : (cutRow l B i).length ≤ l.length := by
 unfold cutRow
 rw [List.length_drop, List.length_take]
 omega
theorem marks_of (l : List Int) (hn : l.length ≤ 1000000000) (B n : Int) (h0 : 0 ≤ n) (h1 : n ≤ 32) : ∀ m : Nat, Ev (fun k => sigMs k l B n m) (marksF l B n m)
 | 0 => Ev.now _
 | m + 1 => by
  refine Ev.bind (marks_of l hn B n h0 h1 m) (Ev.bind (mark_of _ (Nat.le_trans (row_len l B m) hn) n h0 h1) ?_)
  refine ev_some ?_
  unfold marksF
  rw [List.range_succ, List.map_append]
  rfl
/-- A text's signature, or why there is none. -/
def OfB (l : List Int) (b : Int) : Int := if b = 0 then Ln (l.length : Int) else b
def OfOk (b n : Int) : Prop := (1 ≤ n ∧ n ≤ 32) ∧ (b = 0 ∨ (16 ≤ b ∧ b ≤ 4096))
theorem ln_in (s : Int) : 16 ≤ Ln s ∧ Ln s ≤ 4096 := by
 unfold Ln
 repeat' split
 all_goals omega
theorem ofB_in (l : List Int) {b n : Int} (h : OfOk b n) : 16 ≤ OfB l b ∧ OfB l b ≤ 4096 := by
 unfold OfB
 split
 ·exact ln_in _
 ·next h0 => exact h.2.resolve_left h0
theorem of_ok (l : List Int) (hn : l.length ≤ 131072) (b n : Int) (h : OfOk b n) : Ev (fun k => sig_Of.f k l b n) ((l.length : Int), OfB l b, n, marksF l (OfB l b) n (cutNum l (OfB l b)), 0) := by
 unfold sig_Of.f
 refine ev_pos (show (1 ≤ n ∧ n ≤ 32) ∧ (b = 0 ∨ (16 ≤ b ∧ b ≤ 4096)) from h) (ev_pos hn ?_)
 refine Ev.bind (a := OfB l b) ?_ (ev_pos (ofB_in l h) (Ev.bind (marks_of l (by omega) _ n (by have := h.1; omega) h.1.2 _) (Ev.now _)))
 unfold OfB
 by_cases h0 : b = 0
 ·rw [if_pos h0]
  refine ev_pos h0 ⟨9, fun k hk => ?_⟩
  obtain ⟨m, rfl⟩ : ∃ m, k = m + 9 := ⟨k - 9, by omega⟩
  exact length_of _ m
 ·rw [if_neg h0]
  exact ev_neg h0 (Ev.now _)
theorem of_bad (l : List Int) (b n : Int) (h : ¬ OfOk b n) (k : Nat) : sig_Of.f k l b n = some (0, 0, 0, [], 2) := by
 unfold sig_Of.f
 rw [if_neg (show ¬ ((1 ≤ n ∧ n ≤ 32) ∧ (b = 0 ∨ (16 ≤ b ∧ b ≤ 4096))) from h)]
theorem cutNum_ct {l : List Int} (hl : l.length ≤ 131072) {b : Int} (h0 : 16 ≤ b) (h1 : b ≤ 4096) : ((cutNum l b : Nat) : Int) = Ct (l.length : Int) b := by
 have := (cut_facts h0 h1 hl).1
 rw [count_of] at this
 exact (Option.some.inj this).symm
theorem marks_ck (l : List Int) (hl : l.length ≤ 131072) (b n : Int) (h : OfOk b n) : Ck (l.length : Int) (OfB l b) n (marksF l (OfB l b) n (cutNum l (OfB l b))) = 0 := by
 obtain ⟨h0, h1⟩ := ofB_in l h
 refine ck_mk (fr_mk ⟨h.1, rg_mk ⟨by omega, by omega, h0, h1⟩⟩) ?_ ?_
 ·rw [marks_len]
  exact cutNum_ct hl h0 h1
 ·intro m hm
  obtain ⟨i, _, rfl⟩ := List.mem_map.1 hm
  exact mark_size _ n (by have := h.1; omega) h.1.2
/-- The numbers below m for which p holds. -/
def nums (p : Nat → Bool) (m : Nat) : List Int := ((List.range m).filter p).map fun i : Nat => (i : Int)
def wkOf (l : List S55) (i : Nat) : Int := (rd_T55 l (i : Int)).f0
theorem nums_len (p : Nat → Bool) (m : Nat) : (nums p m).length ≤ m := by
 unfold nums
 rw [List.length_map]
 exact Nat.le_trans (List.length_filter_le _ _) (by rw [List.length_range]; exact Nat.le_refl _)
theorem rd_at {L : List Int} {i : Nat} (h : i < L.length) : rd L (i : Int) = L[i] := by
 unfold rd
 rw [Int.toNat_natCast, List.getD_eq_getElem?_getD, List.getElem?_eq_getElem h]
 rfl
theorem find_loop (l : List S55) (s b a1 : Int) (ch : List (List Int)) (xs : List Int) (hx : ∀ x ∈ xs, 0 ≤ x ∧ x < (l.length : Int)) (hn : xs.length ≤ 4000000000000) (d : Nat) : ∀ (i : Nat) (acc : List Int), i + d = xs.length → acc.length + d ≤ 4000000000000 →
    Ev (fun k => index_Index_Find.l0 k a1 acc xs (xs.length : Int) (i : Int) l s b ch) (acc ++ (xs.drop i).filter fun x => decide ((rd_T55 l x).f0 = a1)) := by
 induction d with
 | zero =>
  intro i acc hi ha
  rw [List.drop_eq_nil_of_le (by omega), List.filter_nil, List.append_nil]
  refine Ev.step (f := fun _ => some acc) (fun k => ?_) (Ev.now _)
  simp only [index_Index_Find.l0]
  rw [if_neg (by omega)]
 | succ d ih =>
  intro i acc hi ha
  have hlt : i < xs.length := by omega
  have hb := hx xs[i] (List.getElem_mem hlt)
  rw [List.drop_eq_getElem_cons hlt]
  by_cases hw : (rd_T55 l xs[i]).f0 = a1
  ·rw [List.filter_cons_of_pos (by simpa using hw)]
   have h2 := ih (i + 1) (acc ++ [xs[i]]) (by omega) (by rw [List.length_append]; simp only [List.length_cons, List.length_nil]; omega)
   rw [List.append_assoc] at h2
   refine Ev.step (f := fun k => index_Index_Find.l0 k a1 (acc ++ [xs[i]]) xs (xs.length : Int) ((i + 1 : Nat) : Int) l s b ch) (fun k => ?_) h2
   simp only [index_Index_Find.l0]
   rw [rd_at hlt, if_pos (by omega), if_pos (by omega), if_pos (by omega), if_pos hb.1, if_pos hb.2, if_pos hw, if_pos (by omega), inc6 hlt hn]
  ·rw [List.filter_cons_of_neg (by simpa using hw)]
   refine Ev.step (f := fun k => index_Index_Find.l0 k a1 acc xs (xs.length : Int) ((i + 1 : Nat) : Int) l s b ch) (fun k => ?_) (ih (i + 1) acc (by omega) (by omega))
   simp only [index_Index_Find.l0]
   rw [rd_at hlt, if_pos (by omega), if_pos (by omega), if_pos (by omega), if_pos hb.1, if_pos hb.2, if_neg hw, inc6 hlt hn]
theorem chain_mem {hs : List Nat} {m j : Nat} {x : Int} (h : x ∈ ixChain hs m j) : 0 ≤ x ∧ x < (m : Int) := by
 unfold ixChain at h
 obtain ⟨p, hp, rfl⟩ := List.mem_map.1 h
 have := List.mem_range.1 (List.mem_filter.1 hp).1
 omega
theorem chains_len (l : List S55) : (ixChains l).length = ixHeads l.length := by
 unfold ixChains
 rw [List.length_map, List.length_range]
theorem chains_at (l : List S55) {j : Nat} (h : j < ixHeads l.length) : rd_L6 (ixChains l) (j : Int) = ixChain (ixHs l) l.length j := by
 unfold rd_L6 ixChains
 rw [Int.toNat_natCast, List.getD_eq_getElem?_getD, List.getElem?_map, List.getElem?_range h]
 rfl
theorem ixhead_of (l : List S55) (s b a1 : Int) (hl : l.length ≤ 1000000) : index_Index_head.f l s b (ixChains l) a1 = some ((ixHead (ixHeads l.length) a1 : Nat) : Int) ∧ ixHead (ixHeads l.length) a1 < ixHeads l.length := by
 have h := ixHead_eq a1 (ixHeads_pos l.length) (ixHeads_le hl)
 refine ⟨?_, h.2⟩
 rw [← h.1]
 unfold index_Index_head.f ixHeadI
 rw [chains_len]
theorem chain_filter (l : List S55) (a1 : Int) : (ixChain (ixHs l) l.length (ixHead (ixHeads l.length) a1)).filter (fun x => decide ((rd_T55 l x).f0 = a1)) = nums (fun i => decide (wkOf l i = a1)) l.length := by
 unfold ixChain nums
 rw [List.filter_map, List.filter_filter]
 congr 1
 refine List.filter_congr fun p hp => ?_
 have hpl := List.mem_range.1 hp
 show ((decide ((rd_T55 l (p : Int)).f0 = a1)) && _) = decide (wkOf l p = a1)
 unfold wkOf
 by_cases hw : (rd_T55 l (p : Int)).f0 = a1
 ·rw [ixHs_get l p hpl, hw]
  simp
 ·rw [decide_eq_false hw, Bool.false_and]
theorem chain_len (hs : List Nat) (m j : Nat) : (ixChain hs m j).length ≤ m := ixCnt_le hs m j
theorem find_of (l : List S55) (s b a1 : Int) (hl : l.length ≤ 1000000) : Ev (fun k => index_Index_Find.f k l s b (ixChains l) a1) (nums (fun i => decide (wkOf l i = a1)) l.length) := by
 obtain ⟨h1, h2⟩ := ixhead_of l s b a1 hl
 unfold index_Index_Find.f
 rw [h1]
 refine Ev.bind (ev_some rfl) (ev_pos (by omega) (ev_pos (by rw [chains_len]; omega) ?_))
 rw [chains_at l h2]
 have h3 := find_loop l s b a1 (ixChains l) (ixChain (ixHs l) l.length (ixHead (ixHeads l.length) a1)) (fun x hx => chain_mem hx) (by have := chain_len (ixHs l) l.length (ixHead (ixHeads l.length) a1); omega) _ 0 [] (Nat.zero_add _) (by have := chain_len (ixHs l) l.length (ixHead (ixHeads l.length) a1); simp only [List.length_nil]; omega)
 rw [List.drop_zero, List.nil_append, chain_filter] at h3
 exact h3
/-- How long the block i is. -/
def lenAt (s b : Int) (i : Nat) : Int := mn s (((i : Int) + 1) * b) - (i : Int) * b
def hasV (l : List S55) (s b w : Int) (st : ByteArray) (n : Int) (i : Nat) : Bool := (decide (lenAt s b i = n) && decide (wkOf l i = w)) && ((rd_T55 l (i : Int)).f1.toList == st.toList)
theorem lenAt_in {s b : Int} {i : Nat} (h : (i : Int) < Ct s b) : wrap64 (mn s (((i : Int) + 1) * b) - (i : Int) * b) = lenAt s b i := by
 have hr := ct_right (by omega) h
 obtain ⟨h1, h2, h3, h4⟩ := rg_true hr
 have hb := (ct_bounds hr).2.2.2
 have m1 := mul_bounds (i := (i : Int)) (b := b) (by omega) (by omega) h3 h4
 have m2 := mul_bounds (i := (i : Int) + 1) (b := b) (by omega) (by omega) h3 h4
 unfold lenAt mn
 split <;> exact w64 _ (by omega) (by omega)
theorem has_of (l : List S55) (s b : Int) (ch : List (List Int)) (w : Int) (st : ByteArray) (n : Int) (hl : (l.length : Int) = Ct s b) {i : Nat} (hi : i < l.length) : index_Index_has.f l s b ch (i : Int) w st n = some (hasV l s b w st n i) := by
 unfold index_Index_has.f
 rw [range_yes (by omega) (by omega), Option.bind_some, if_pos rfl, lenAt_in (by omega)]
 unfold hasV
 by_cases h1 : lenAt s b i = n
 ·rw [if_pos h1, if_pos (by omega), if_pos (by omega), decide_eq_true h1, Bool.true_and]
  by_cases h2 : wkOf l i = w
  ·rw [if_pos (show (rd_T55 l (i : Int)).f0 = w from h2), decide_eq_true h2, Bool.true_and]
  ·rw [if_neg (show ¬ (rd_T55 l (i : Int)).f0 = w from h2), decide_eq_false h2, Bool.false_and]
 ·rw [if_neg h1, decide_eq_false h1, Bool.false_and, Bool.false_and]
/-- The first of some numbers, and whether there is one. -/
def fst0 : List Int → Int × Bool
 | [] => (0, false)
 | x :: _ => (x, true)
theorem pick_loop (l : List S55) (s b w : Int) (st : ByteArray) (n : Int) (hl : (l.length : Int) = Ct s b) (ch : List (List Int)) (xs : List Int) (hx : ∀ x ∈ xs, 0 ≤ x ∧ x < (l.length : Int)) (hn : xs.length ≤ 4000000000000) (d : Nat) : ∀ i : Nat, i + d = xs.length →
    Ev (fun k => index_Index_Pick.l0 k w st n xs (xs.length : Int) (i : Int) l s b ch) (fst0 ((xs.drop i).filter fun x => hasV l s b w st n x.toNat)) := by
 induction d with
 | zero =>
  intro i hi
  rw [List.drop_eq_nil_of_le (by omega)]
  refine Ev.step (f := fun _ => some (0, false)) (fun k => ?_) (Ev.now _)
  simp only [index_Index_Pick.l0]
  rw [if_neg (by omega)]
 | succ d ih =>
  intro i hi
  have hlt : i < xs.length := by omega
  have hb := hx xs[i] (List.getElem_mem hlt)
  obtain ⟨p, hp⟩ : ∃ p : Nat, xs[i] = (p : Int) := ⟨xs[i].toNat, by omega⟩
  have hh := has_of l s b ch w st n hl (i := p) (by omega)
  rw [List.drop_eq_getElem_cons hlt, hp]
  by_cases hv : hasV l s b w st n p = true
  ·rw [List.filter_cons_of_pos (by rw [Int.toNat_natCast]; exact hv)]
   refine Ev.step (f := fun _ => some ((p : Int), true)) (fun k => ?_) (Ev.now _)
   simp only [index_Index_Pick.l0]
   rw [rd_at hlt, hp, if_pos (by omega), if_pos (by omega), if_pos (by omega), hh, Option.bind_some, if_pos hv]
  ·rw [List.filter_cons_of_neg (by rw [Int.toNat_natCast]; exact hv)]
   refine Ev.step (f := fun k => index_Index_Pick.l0 k w st n xs (xs.length : Int) ((i + 1 : Nat) : Int) l s b ch) (fun k => ?_) (ih (i + 1) (by omega))
   simp only [index_Index_Pick.l0]
   rw [rd_at hlt, hp, if_pos (by omega), if_pos (by omega), if_pos (by omega), hh, Option.bind_some, if_neg hv, inc6 hlt hn]
theorem chain_has (l : List S55) (s b w : Int) (st : ByteArray) (n : Int) : (ixChain (ixHs l) l.length (ixHead (ixHeads l.length) w)).filter (fun x => hasV l s b w st n x.toNat) = nums (hasV l s b w st n) l.length := by
 unfold ixChain nums
 rw [List.filter_map, List.filter_filter]
 congr 1
 refine List.filter_congr fun p hp => ?_
 have hpl := List.mem_range.1 hp
 show (hasV l s b w st n (p : Int).toNat && _) = _
 rw [Int.toNat_natCast]
 by_cases hv : hasV l s b w st n p = true
 ·have hw : wkOf l p = w := by
    unfold hasV at hv
    simp only [Bool.and_eq_true, decide_eq_true_eq] at hv
    exact hv.1.2
  rw [hv, Bool.true_and, ixHs_get l p hpl, show (rd_T55 l (p : Int)).f0 = w from hw]
  simp
 ·rw [Bool.eq_false_iff.2 hv, Bool.false_and]
/-- What is picked. -/
def pkV (l : List S55) (s b w : Int) (st : ByteArray) (n want : Int) : Int × Bool :=
 if 0 ≤ want ∧ want < (l.length : Int) ∧ hasV l s b w st n want.toNat = true then (want, true) else fst0 (nums (hasV l s b w st n) l.length)
theorem pick_of (l : List S55) (s b : Int) (hl : (l.length : Int) = Ct s b) (h8 : l.length ≤ 1000000) (w : Int) (st : ByteArray) (n want : Int) : Ev (fun k => index_Index_Pick.f k l s b (ixChains l) w st n want) (pkV l s b w st n want) := by
 obtain ⟨h1, h2⟩ := ixhead_of l s b w h8
 have hj : Ev (fun k => index_Index_Pick.j0 k w st n want false l s b (ixChains l)) (fst0 (nums (hasV l s b w st n) l.length)) := by
  have h3 := pick_loop l s b w st n hl (ixChains l) (ixChain (ixHs l) l.length (ixHead (ixHeads l.length) w)) (fun x hx => chain_mem hx) (by have := chain_len (ixHs l) l.length (ixHead (ixHeads l.length) w); omega) _ 0 (Nat.zero_add _)
  rw [List.drop_zero, chain_has] at h3
  refine Ev.step (f := fun k => index_Index_Pick.l0 k w st n (ixChain (ixHs l) l.length (ixHead (ixHeads l.length) w)) ((ixChain (ixHs l) l.length (ixHead (ixHeads l.length) w)).length : Int) 0 l s b (ixChains l)) (fun k => ?_) h3
  simp only [index_Index_Pick.j0]
  rw [if_neg (by decide), h1, Option.bind_some, if_pos (by omega), if_pos (by rw [chains_len]; omega), chains_at l h2]
 unfold index_Index_Pick.f pkV
 by_cases ha : want ≥ 0
 ·refine ev_pos ha ?_
  by_cases hb : want < (l.length : Int)
  ·refine ev_pos hb ?_
   obtain ⟨p, rfl⟩ : ∃ p : Nat, want = (p : Int) := ⟨want.toNat, by omega⟩
   refine Ev.bind (ev_some (has_of l s b (ixChains l) w st n hl (i := p) (by omega))) ?_
   rw [Int.toNat_natCast]
   by_cases hv : hasV l s b w st n p = true
   ·rw [hv, if_pos ⟨ha, hb, rfl⟩]
    refine Ev.step (f := fun _ => some ((p : Int), true)) (fun k => ?_) (Ev.now _)
    simp only [index_Index_Pick.j0]
    rw [if_pos trivial]
   ·rw [if_neg (fun h => hv h.2.2), Bool.eq_false_iff.2 hv]
    exact hj
  ·rw [if_neg (fun h => hb h.2.1)]
   exact ev_neg hb hj
 ·rw [if_neg (fun h => ha h.1)]
  exact ev_neg ha hj
theorem nums_none {p : Nat → Bool} {m : Nat} (h : ∀ i, i < m → p i = false) : nums p m = [] := by
 unfold nums
 rw [List.filter_eq_nil_iff.2 (fun i hi => by rw [h i (List.mem_range.1 hi)]; decide)]
 rfl
theorem pk_none {l : List S55} {s b w : Int} {st : ByteArray} {n : Int} (want : Int) (h : ∀ i, i < l.length → hasV l s b w st n i = false) : pkV l s b w st n want = (0, false) := by
 unfold pkV
 rw [nums_none h, if_neg (fun hh => ?_)]
 ·rfl
 ·have := h want.toNat (by omega)
  rw [hh.2.2] at this
  cases this
set_option maxRecDepth 10000 in
theorem or_add (i : Nat) (x y : Int) (h0 : 0 ≤ x) (h1 : 0 ≤ y) (h2 : y < 2 ^ i) (h3 : x * 2 ^ i + y < 4294967296) : Go.bits .or .u32 (x * 2 ^ i) y = x * 2 ^ i + y := by
 obtain ⟨a, rfl⟩ := Int.eq_ofNat_of_zero_le h0
 obtain ⟨b, rfl⟩ := Int.eq_ofNat_of_zero_le h1
 have e1 : ((a : Int) * 2 ^ i) = ((a * 2 ^ i : Nat) : Int) := by simp
 rw [e1] at h3 ⊢
 have hb : b < 2 ^ i := by exact_mod_cast h2
 obtain ⟨c, hc⟩ : ∃ c, c = a * 2 ^ i := ⟨_, rfl⟩
 have hor : c ||| b = c + b := by
  rw [hc, ← Nat.shiftLeft_eq, Nat.shiftLeft_add_eq_or_of_lt hb]
 rw [← hc] at h3 ⊢
 have hs : c + b < 4294967296 := by omega
 unfold Go.bits
 simp only [IntKind.wrap_u32]
 have e2 : IntKind.u32.bits = 32 := rfl
 have ht : (BitVec.ofInt 32 (c : Int) ||| BitVec.ofInt 32 (b : Int)).toNat = c + b := by
  rw [BitVec.toNat_or, BitVec.ofInt_natCast, BitVec.ofInt_natCast, BitVec.toNat_ofNat, BitVec.toNat_ofNat, Nat.mod_eq_of_lt (by omega), Nat.mod_eq_of_lt (by omega), hor]
 rw [e2, ht]
 omega
def Bytes (l : List Int) : Prop := ∀ x ∈ l, 0 ≤ x ∧ x ≤ 255
theorem bytes_app {l m : List Int} (h : Bytes l) (k : Bytes m) : Bytes (l ++ m) := fun x hx => (List.mem_append.1 hx).elim (h x) (k x)
theorem and16 {a : Int} (h0 : 0 ≤ a) (h1 : a < 4294967296) : Go.bits .and .u32 a 65535 = a % 65536 := by
 have := bits_mask .u32 32 (by decide) (fun n h0 h1 => by rw [IntKind.wrap_u32]; omega) 16 (by decide) a (by omega) (by omega)
 rw [show (65535 : Int) = 2 ^ 16 - 1 by decide, this]
 rfl
theorem or_comm32 (x y : Int) : Go.bits .or .u32 x y = Go.bits .or .u32 y x := by
 unfold Go.bits
 simp only []
 rw [BitVec.or_comm]
def st (a b : Int) : Int := a % 65536 + 65536 * (b % 65536)
theorem st_congr {a b a' b' : Int} (h1 : a % 65536 = a' % 65536) (h2 : b % 65536 = b' % 65536) : st a b = st a' b' := by unfold st; rw [h1, h2]
theorem rin_st (a b c : Int) (h0 : 0 ≤ c) (h1 : c ≤ 255) : rin (st a b) c = st (a + (c + 31)) (b + a + (c + 31)) := by
 show Go.bits .or .u32 (Go.bits .and .u32 ((Go.bits .and .u32 (st a b) 65535 + ((c % 4294967296 + 31) % 4294967296)) % 4294967296) 65535) ((((st a b) / 65536 + ((Go.bits .and .u32 (st a b) 65535 + ((c % 4294967296 + 31) % 4294967296)) % 4294967296)) % 4294967296 * 65536) % 4294967296) = _
 rw [and16 (a := st a b) (by unfold st; omega) (by unfold st; omega)]
 have e1 : st a b % 65536 = a % 65536 := by unfold st; omega
 have e2 : st a b / 65536 = b % 65536 := by unfold st; omega
 rw [e1, e2]
 have e3 : (a % 65536 + ((c % 4294967296 + 31) % 4294967296)) % 4294967296 = a % 65536 + (c + 31) := by omega
 rw [e3, and16 (by omega) (by omega)]
 have e4 : ((b % 65536 + (a % 65536 + (c + 31))) % 4294967296 * 65536) % 4294967296 = ((b + a + (c + 31)) % 65536) * 2 ^ 16 := by
  rw [show (2 : Int) ^ 16 = 65536 by decide]; omega
 have e5 : (a % 65536 + (c + 31)) % 65536 = (a + (c + 31)) % 65536 := by omega
 rw [e4, e5, or_comm32, or_add 16 _ _ (by omega) (by omega) (by omega) (by omega)]
 unfold st
 rw [show (2 : Int) ^ 16 = 65536 by decide]
 omega
def sA : List Int → Int
 | [] => 0
 | c :: l => (c + 31) + sA l
def sB : List Int → Int
 | [] => 0
 | c :: l => ((l.length : Int) + 1) * (c + 31) + sB l
theorem fold_st : ∀ (l : List Int), Bytes l → ∀ a b : Int, l.foldl rin (st a b) = st (a + sA l) (b + (l.length : Int) * a + sB l)
 | [], _, a, b => by
  show st a b = _
  refine st_congr ?_ ?_ <;> simp [sA, sB]
 | c :: l, hb, a, b => by
  have hc := hb c List.mem_cons_self
  rw [List.foldl_cons, rin_st a b c hc.1 hc.2, fold_st l (fun x hx => hb x (List.mem_cons_of_mem _ hx))]
  simp only [sA, sB]
  rw [List.length_cons, Int.natCast_add, Int.natCast_one, Int.add_mul, Int.one_mul, Int.add_mul, Int.one_mul, Int.mul_add (l.length : Int) a (c + 31)]
  refine st_congr ?_ ?_ <;> (congr 1; omega)
theorem rollF_st (l : List Int) (hb : Bytes l) : rollF l = st (sA l) (sB l) := by
 unfold rollF
 rw [show (0 : Int) = st 0 0 from rfl, fold_st l hb]
 refine st_congr ?_ ?_ <;> simp
theorem bytes_wf {l : List Int} (h : ∀ q ∈ l, (Lit.int .u8 q).wf = true) : Bytes l := fun x hx => by
 have := h x hx
 have e0 : IntKind.u8.min = 0 := by decide
 have e1 : IntKind.u8.max = 255 := by decide
 simp [Lit.wf, e0, e1] at this
 omega
/-- A sum, less its text's first byte. -/
def rout (w n c : Int) : Int := (roll_Out.f w n c).getD 0
theorem rout_of (w n c : Int) : roll_Out.f w n c = some (rout w n c) := rfl
theorem and16l {n : Int} (h0 : 0 ≤ n) (h1 : n < 4611686018427387904) : Go.bits .and .i64 n 65535 = n % 65536 := by
 have := bits_mask .i64 62 (by decide) (fun n h0 h1 => by rw [IntKind.wrap_i64]; omega) 16 (by decide) n (by omega) (by omega)
 rw [show (65535 : Int) = 2 ^ 16 - 1 by decide, this]
 rfl
theorem rout_st (a b n c : Int) (h0 : 0 ≤ c) (h1 : c ≤ 255) (hn : 0 ≤ n) (hn1 : n ≤ 65535) : rout (st a b) n c = st (a - (c + 31)) (b - n * (c + 31)) := by
 show Go.bits .or .u32 (Go.bits .and .u32 ((Go.bits .and .u32 (st a b) 65535 - ((c % 4294967296 + 31) % 4294967296)) % 4294967296) 65535) (((((st a b) / 65536 - (((Go.bits .and .i64 n 65535) % 4294967296 * ((c % 4294967296 + 31) % 4294967296)) % 4294967296)) % 4294967296) * 65536) % 4294967296) = _
 rw [and16 (a := st a b) (by unfold st; omega) (by unfold st; omega), and16l hn (by omega)]
 have e1 : st a b % 65536 = a % 65536 := by unfold st; omega
 have e2 : st a b / 65536 = b % 65536 := by unfold st; omega
 have e3 : (c % 4294967296 + 31) % 4294967296 = c + 31 := by omega
 have e4 : n % 65536 % 4294967296 = n := by omega
 rw [e1, e2, e3, e4]
 obtain ⟨D, hD⟩ : ∃ D, D = c + 31 := ⟨_, rfl⟩
 rw [← hD]
 have hp0 : 0 ≤ n * D := Int.mul_nonneg hn (by omega)
 have hp1 : n * D ≤ 65535 * 286 := Int.mul_le_mul hn1 (by omega) (by omega) (by omega)
 obtain ⟨p, hp⟩ : ∃ p, p = n * D := ⟨_, rfl⟩
 rw [← hp] at hp0 hp1 ⊢
 rw [show p % 4294967296 = p by omega]
 have e5 : (a % 65536 - D) % 4294967296 % 65536 = (a - D) % 65536 := by omega
 rw [and16 (by omega) (by omega), e5]
 have e6 : ((b % 65536 - p) % 4294967296 * 65536) % 4294967296 = ((b - p) % 65536) * 2 ^ 16 := by
  rw [show (2 : Int) ^ 16 = 65536 by decide]; omega
 rw [e6, or_comm32, or_add 16 _ _ (by omega) (by omega) (by omega) (by omega)]
 unfold st
 rw [show (2 : Int) ^ 16 = 65536 by decide]
 omega
theorem rout_cons {c : Int} {l : List Int} (hb : Bytes (c :: l)) (hl : l.length ≤ 65000) : rout (rollF (c :: l)) ((c :: l).length : Int) c = rollF l := by
 have hc := hb c List.mem_cons_self
 rw [rollF_st _ hb, rollF_st l (fun x hx => hb x (List.mem_cons_of_mem _ hx)), rout_st _ _ _ _ hc.1 hc.2 (by omega) (by rw [List.length_cons]; omega)]
 simp only [sA, sB]
 rw [List.length_cons, Int.natCast_add, Int.natCast_one]
 refine st_congr ?_ ?_
 ·congr 1; omega
 ·congr 1; omega
theorem rin_any (x n c : Int) : roll_In.f x n c = some (rin x c) := rfl
theorem rollF_snoc (l : List Int) (c : Int) : rollF (l ++ [c]) = rin (rollF l) c := by unfold rollF; rw [List.foldl_append]; rfl
/-! The search, in plain words -/
def pkX (l : List S55) (s b n : Int) (x : Mst) : Int × Bool := pkV l s b x.weak (markF x.left n).f1 (x.left.length : Int) x.want
def takeP (l : List S55) (s b n : Int) (x : Mst) : Option Mst :=
 if (pkX l s b n x).2 = true then some ⟨0, [], (pkX l s b n x).1 + 1, [], tl x.told x.out ++ [⟨(pkX l s b n x).1 * b, lenAt s b (pkX l s b n x).1.toNat, []⟩]⟩ else none
def shiftP (x : Mst) : Mst :=
 match x.left with
 | [] => x
 | c :: rest => ⟨rollF rest, rest, x.want, x.told ++ [c], x.out⟩
def pushP (x : Mst) (c : Int) : Mst := ⟨rin x.weak c, x.left ++ [c], x.want, x.told, x.out⟩
def stepP (l : List S55) (s b n : Int) (x : Mst) (c : Int) : Mst := if ((x.left ++ [c]).length : Int) = b then (takeP l s b n (pushP x c)).getD (shiftP (pushP x c)) else pushP x c
def feedP (l : List S55) (s b n : Int) (x : Mst) (cs : List Int) : Mst := cs.foldl (stepP l s b n) x
def doneP (l : List S55) (s b n q : Int) : Nat → Mst → Mst
 | 0, x => x
 | j + 1, x => if x.left.length = 0 then x else if (x.left.length : Int) = q then (takeP l s b n x).getD (doneP l s b n q j (shiftP x)) else doneP l s b n q j (shiftP x)
/-- What stays true: the sum is the window's; how long things are. -/
structure Iv (b : Int) (m : Nat) (x : Mst) : Prop where
 w : x.weak = rollF x.left
 by_ : Bytes x.left
 le : x.left.length ≤ 4096
 td : x.told.length ≤ m
 ou : x.out.length ≤ 2 * m
theorem fst0_mem' {L : List Int} (h : (fst0 L).2 = true) : (fst0 L).1 ∈ L := by
 cases L with
 | nil => cases h
 | cons a t => exact List.mem_cons_self
theorem pk_true {l : List S55} {s b w : Int} {sg : ByteArray} {n want : Int} (h : (pkV l s b w sg n want).2 = true) : ∃ i : Nat, (pkV l s b w sg n want).1 = (i : Int) ∧ i < l.length ∧ hasV l s b w sg n i = true := by
 unfold pkV at h ⊢
 by_cases hc : 0 ≤ want ∧ want < (l.length : Int) ∧ hasV l s b w sg n want.toNat = true
 ·rw [if_pos hc]
  exact ⟨want.toNat, by show want = _; omega, by omega, hc.2.2⟩
 ·rw [if_neg hc] at h ⊢
  have hm := fst0_mem' h
  unfold nums at hm ⊢
  obtain ⟨i, hi, e⟩ := List.mem_map.1 hm
  obtain ⟨h1, h2⟩ := List.mem_filter.1 hi
  exact ⟨i, e.symm, List.mem_range.1 h1, h2⟩
theorem has_weak {l : List S55} {s b w : Int} {sg : ByteArray} {n : Int} {i : Nat} (h : hasV l s b w sg n i = true) : wkOf l i = w ∧ lenAt s b i = n := by
 unfold hasV at h
 simp only [Bool.and_eq_true, decide_eq_true_eq] at h
 exact ⟨h.1.2, h.1.1⟩
theorem mn_le (a b : Int) : mn a b ≤ a ∧ mn a b ≤ b ∧ (mn a b = a ∨ mn a b = b) := by unfold mn; split <;> omega
theorem blk_in {s b n : Int} {l : List S55} (hc : Ck s b n l = 0) {i : Nat} (hi : i < l.length) : 0 ≤ (i : Int) * b ∧ (i : Int) * b + b ≤ s + b + b ∧ (i : Int) * b < s ∧ mn s (((i : Int) + 1) * b) ≤ s ∧ (i : Int) * b ≤ mn s (((i : Int) + 1) * b) ∧ s ≤ 131072 ∧ 16 ≤ b ∧ b ≤ 4096 ∧ 1 ≤ lenAt s b i ∧ lenAt s b i ≤ b := by
 obtain ⟨hf, hl, _⟩ := ck_ok hc
 have hr := (fr_ok hf).2
 obtain ⟨h1, h2, h3, h4⟩ := rg_true hr
 have hb := ct_bounds hr
 have h5 : ((i : Int) + 1) * b ≤ Ct s b * b := Int.mul_le_mul_of_nonneg_right (by omega) (by omega)
 have h6 : 0 ≤ (i : Int) * b := Int.mul_nonneg (by omega) (by omega)
 rw [Int.add_mul, Int.one_mul] at h5
 have h7 := mn_le s (((i : Int) + 1) * b)
 unfold lenAt
 rw [Int.add_mul, Int.one_mul] at h7 ⊢
 omega
theorem take_of {s b n : Int} {l : List S55} (hc : Ck s b n l = 0) (x : Mst) (h1 : x.out.length ≤ 900000) (h2 : x.left.length ≤ 1000000) : Ev (fun k => takeF k l s b n x) (takeP l s b n x) := by
 obtain ⟨hf, hl, _⟩ := ck_ok hc
 obtain ⟨hn, hr⟩ := fr_ok hf
 have h8 : l.length ≤ 1000000 := by have := (ct_bounds hr).2.2.2; omega
 have hpk := pick_of l s b hl h8 x.weak (markF x.left n).f1 (x.left.length : Int) x.want
 unfold takeF takeP pkX
 refine ev_pos ⟨h1, h2⟩ (Ev.bind (find_of l s b x.weak h8) ?_)
 by_cases h0 : (nums (fun i => decide (wkOf l i = x.weak)) l.length).length = 0
 ·refine ev_pos h0 ?_
  rw [pk_none x.want (fun i hi => ?_), if_neg (by decide)]
  ·exact Ev.now _
  ·by_cases hv : hasV l s b x.weak (markF x.left n).f1 (x.left.length : Int) i = true
   ·have hw := (has_weak hv).1
    have : (i : Int) ∈ nums (fun i => decide (wkOf l i = x.weak)) l.length := List.mem_map.2 ⟨i, List.mem_filter.2 ⟨List.mem_range.2 hi, decide_eq_true hw⟩, rfl⟩
    rw [List.eq_nil_of_length_eq_zero h0] at this
    cases this
   ·exact Bool.eq_false_iff.2 hv
 ·refine ev_neg h0 (Ev.bind (ev_some (cut_of x.left (by omega) n (by omega) hn.2)) (Ev.bind hpk ?_))
  by_cases hp : (pkV l s b x.weak (markF x.left n).f1 (x.left.length : Int) x.want).2 = true
  ·obtain ⟨i, e1, hi, hv⟩ := pk_true hp
   rw [if_pos hp, e1]
   refine ev_neg (by rw [hp]; decide) ?_
   have hb := blk_in hc hi
   have hi8 : l.length ≤ 8192 := by have := (ct_bounds hr).2.2.2; omega
   refine Ev.bind (a := ((i : Int) * b, mn s (((i : Int) + 1) * b), true)) (ev_some (range_yes (by omega) (by omega))) ?_
   refine ev_pos ⟨by omega, by dsimp only; omega⟩ ?_
   rw [Int.toNat_natCast]
   exact Ev.now _
  ·rw [if_neg hp]
   exact ev_pos (Bool.eq_false_iff.2 hp) (Ev.now _)
theorem shift_of {b : Int} {m : Nat} {x : Mst} (h : Iv b m x) (hm : m ≤ 400000) (hne : x.left ≠ []) : shiftF x = some (shiftP x) := by
 obtain ⟨w, left, want, told, out⟩ := x
 obtain ⟨h1, h2, h3, h4, h5⟩ := h
 dsimp only at h1 h2 h3 h4 h5 hne
 cases left with
 | nil => exact absurd rfl hne
 | cons c rest =>
  subst h1
  show (if (c :: rest).length ≤ 1000000 ∧ told.length ≤ 1000000 then (roll_Out.f (rollF (c :: rest)) ((c :: rest).length : Int) c).bind fun r => some (⟨r, rest, want, told ++ [c], out⟩ : Mst) else none) = _
  rw [if_pos ⟨by omega, by omega⟩, rout_of, Option.bind_some, rout_cons h2 (by rw [List.length_cons] at h3; omega)]
  rfl
theorem tl_len2 (told : List Int) (out : List S47) : (tl told out).length ≤ out.length + 1 := by
 unfold tl
 split
 ·omega
 ·rw [List.length_append]; simp
theorem take_iv {l : List S55} {s b n : Int} {m : Nat} {x y : Mst} (h : Iv b m x) (hy : takeP l s b n x = some y) : Iv b (m + 1) y ∧ y.left = [] ∧ y.told = [] := by
 unfold takeP at hy
 split at hy
 ·cases hy
  refine ⟨⟨rfl, fun _ h => (List.not_mem_nil h).elim, Nat.zero_le _, Nat.zero_le _, ?_⟩, rfl, rfl⟩
  have := tl_len2 x.told x.out
  have := h.ou
  rw [List.length_append]
  simp only [List.length_cons, List.length_nil]
  omega
 ·cases hy
theorem shift_iv {b : Int} {m : Nat} {x : Mst} (h : Iv b m x) : Iv b (m + 1) (shiftP x) ∧ (shiftP x).left.length = x.left.length - 1 := by
 obtain ⟨w, left, want, told, out⟩ := x
 obtain ⟨h1, h2, h3, h4, h5⟩ := h
 dsimp only at h1 h2 h3 h4 h5
 cases left with
 | nil => exact ⟨⟨h1, h2, h3, by show told.length ≤ m + 1; omega, by show out.length ≤ 2 * (m + 1); omega⟩, rfl⟩
 | cons c rest =>
  refine ⟨⟨rfl, fun x hx => h2 x (List.mem_cons_of_mem _ hx), by show rest.length ≤ 4096; rw [List.length_cons] at h3; omega, ?_, by show out.length ≤ 2 * (m + 1); omega⟩, rfl⟩
  show (told ++ [c]).length ≤ m + 1
  rw [List.length_append, List.length_cons, List.length_nil]
  omega
theorem push_iv {b : Int} {m : Nat} {x : Mst} {c : Int} (h : Iv b m x) (hc : 0 ≤ c ∧ c ≤ 255) (hl : x.left.length < 4096) : Iv b m (pushP x c) := by
 refine ⟨?_, bytes_app h.by_ (fun x hx => by rw [List.mem_singleton.1 hx]; exact hc), ?_, h.td, h.ou⟩
 ·show rin x.weak c = rollF (x.left ++ [c])
  rw [rollF_snoc, h.w]
 ·show (x.left ++ [c]).length ≤ 4096
  rw [List.length_append, List.length_cons, List.length_nil]
  omega
theorem iv_up {b : Int} {m : Nat} {x : Mst} (h : Iv b m x) : Iv b (m + 1) x := ⟨h.w, h.by_, h.le, by have := h.td; omega, by have := h.ou; omega⟩
theorem step_of {s b n : Int} {l : List S55} (hc : Ck s b n l = 0) {m : Nat} {x : Mst} {c : Int} (h : Iv b m x) (hm : m ≤ 400000) (hcb : 0 ≤ c ∧ c ≤ 255) (hl : (x.left.length : Int) < b) :
    Ev (fun k => stepF k l s b n x c) (stepP l s b n x c) ∧ Iv b (m + 1) (stepP l s b n x c) ∧ ((stepP l s b n x c).left.length : Int) < b := by
 have hb4 : 16 ≤ b ∧ b ≤ 4096 := by have := rg_true (fr_ok (ck_ok hc).1).2; omega
 have hp := push_iv h hcb (by omega)
 have hln : ((x.left ++ [c]).length : Int) = (x.left.length : Int) + 1 := by rw [List.length_append]; simp
 unfold stepF stepP
 by_cases hfull : ((x.left ++ [c]).length : Int) = b
 ·have ht := take_of hc (pushP x c) (by have := hp.ou; omega) (by have := hp.le; omega)
  have hs := shift_of hp (by omega) (by show x.left ++ [c] ≠ []; simp)
  rw [if_pos hfull]
  cases hy : takeP l s b n (pushP x c) with
  | some y =>
   have hi := take_iv hp hy
   rw [hy] at ht
   refine ⟨ev_pos (by have := h.le; omega) (Ev.bind (ev_some (rin_any _ _ _)) (ev_pos hfull (Ev.bind ht (Ev.now _)))), hi.1, ?_⟩
   show (y.left.length : Int) < b
   rw [hi.2.1]
   show (0 : Int) < b
   omega
  | none =>
   have hi := shift_iv hp
   rw [hy] at ht
   refine ⟨ev_pos (by have := h.le; omega) (Ev.bind (ev_some (rin_any _ _ _)) (ev_pos hfull (Ev.bind ht (ev_some hs)))), hi.1, ?_⟩
   show ((shiftP (pushP x c)).left.length : Int) < b
   rw [hi.2, show (pushP x c).left = x.left ++ [c] from rfl]
   omega
 ·rw [if_neg hfull]
  refine ⟨ev_pos (by have := h.le; omega) (Ev.bind (ev_some (rin_any _ _ _)) (ev_neg hfull (Ev.now _))), iv_up hp, ?_⟩
  show ((x.left ++ [c]).length : Int) < b
  omega
theorem feed_of {s b n : Int} {l : List S55} (hc : Ck s b n l = 0) : ∀ (cs : List Int) (m : Nat) (x : Mst), Iv b m x → m + cs.length ≤ 400000 → Bytes cs → (x.left.length : Int) < b →
    Ev (fun k => feedF k l s b n x cs) (feedP l s b n x cs) ∧ Iv b (m + cs.length) (feedP l s b n x cs) ∧ ((feedP l s b n x cs).left.length : Int) < b
 | [], m, x, h, hm, hb, hl => ⟨Ev.now _, h, hl⟩
 | c :: cs, m, x, h, hm, hb, hl => by
  rw [List.length_cons] at hm
  obtain ⟨h1, h2, h3⟩ := step_of hc h (by omega) (hb c List.mem_cons_self) hl
  obtain ⟨k1, k2, k3⟩ := feed_of hc cs (m + 1) _ h2 (by omega) (fun x hx => hb x (List.mem_cons_of_mem _ hx)) h3
  refine ⟨Ev.bind h1 k1, ?_, k3⟩
  rw [List.length_cons, show m + (cs.length + 1) = m + 1 + cs.length by omega]
  exact k2
theorem done_of {s b n q : Int} {l : List S55} (hc : Ck s b n l = 0) : ∀ (j m : Nat) (x : Mst), Iv b m x → m + j ≤ 400000 → x.left.length ≤ j → Ev (fun k => doneF k l s b n q j x) (doneP l s b n q j x) ∧ Iv b (m + j) (doneP l s b n q j x)
 | 0, m, x, h, hm, hj => by
  refine ⟨ev_pos (by omega) (Ev.now _), h⟩
 | j + 1, m, x, h, hm, hj => by
  have hup : ∀ {y : Mst}, Iv b m y → Iv b (m + (j + 1)) y := fun h => ⟨h.w, h.by_, h.le, by have := h.td; omega, by have := h.ou; omega⟩
  unfold doneF doneP
  by_cases h0 : x.left.length = 0
  ·rw [if_pos h0]
   exact ⟨ev_pos h0 (Ev.now _), hup h⟩
  ·rw [if_neg h0]
   have hne : x.left ≠ [] := fun e => h0 (by rw [e]; rfl)
   have hs := shift_of h (by omega) hne
   have hi := shift_iv h
   obtain ⟨k1, k2⟩ := done_of hc j (m + 1) (shiftP x) hi.1 (by omega) (by rw [hi.2]; omega)
   rw [show m + 1 + j = m + (j + 1) by omega] at k2
   by_cases hq : (x.left.length : Int) = q
   ·rw [if_pos hq]
    have ht := take_of hc x (by have := h.ou; omega) (by have := h.le; omega)
    cases hy : takeP l s b n x with
    | some y =>
     rw [hy] at ht
     have hv := (take_iv h hy).1
     exact ⟨ev_neg h0 (ev_pos hq (Ev.bind ht (Ev.now _))), ⟨hv.w, hv.by_, hv.le, by have := hv.td; show y.told.length ≤ _; omega, by have := hv.ou; show y.out.length ≤ _; omega⟩⟩
    | none =>
     rw [hy] at ht
     exact ⟨ev_neg h0 (ev_pos hq (Ev.bind ht (Ev.bind (ev_some hs) k1))), k2⟩
   ·rw [if_neg hq]
    exact ⟨ev_neg h0 (ev_neg hq (Ev.bind (ev_some hs) k1)), k2⟩
/-- The last block's length. -/
def lastP (s b : Int) (l : List S55) : Int := if l.length = 0 then 0 else lenAt s b (l.length - 1)
theorem last_of {s b n : Int} {l : List S55} (hc : Ck s b n l = 0) : ∃ q, blocks_Range.f s b ((l.length : Int) - 1) = some q ∧ wrap64 (q.2.1 - q.1) = lastP s b l := by
 obtain ⟨hf, hl, _⟩ := ck_ok hc
 unfold lastP
 by_cases h0 : l.length = 0
 ·rw [if_pos h0]
  exact ⟨_, range_no (Or.inl (by omega)), by unfold wrap64; decide⟩
 ·rw [if_neg h0]
  have e : ((l.length : Int) - 1) = ((l.length - 1 : Nat) : Int) := by omega
  rw [e]
  exact ⟨_, range_yes (by omega) (by omega), lenAt_in (by omega)⟩
def x0P : Mst := ⟨0, [], 0, [], []⟩
/-- Of, ahead of Norm. -/
def fedP (l : List S55) (s b n : Int) (cs : List Int) : Mst := feedP l s b n x0P cs
def endP (l : List S55) (s b n : Int) (x : Mst) : Mst := doneP l s b n (lastP s b l) 70000 ⟨x.weak, x.left, x.want, [], []⟩
def opsP (l : List S55) (s b n : Int) (cs : List Int) : List S47 := tl (fedP l s b n cs).told (fedP l s b n cs).out ++ tl (endP l s b n (fedP l s b n cs)).told (endP l s b n (fedP l s b n cs)).out
theorem of_of {s b n : Int} {l : List S55} (hc : Ck s b n l = 0) (cs : List Int) (hb : Bytes cs) (hl : cs.length ≤ 65536) {r : List S47} (hn : delta_Norm.f (opsP l s b n cs) = some r) : Ev (fun k => match_Of.f k s b n l cs) (r, 0) := by
 have h8 : l.length ≤ 1000000 := by have := (ct_bounds (fr_ok (ck_ok hc).1).2).2.2.2; have := (ck_ok hc).2.1; omega
 have hb4 : 16 ≤ b := by have := rg_true (fr_ok (ck_ok hc).1).2; omega
 have hx0 : Iv b 0 x0P := ⟨rfl, fun _ h => (List.not_mem_nil h).elim, Nat.zero_le _, Nat.le_refl _, Nat.le_refl _⟩
 obtain ⟨f1, f2, f3⟩ := feed_of hc cs 0 x0P hx0 (by omega) hb (show ((0 : Nat) : Int) < b by omega)
 obtain ⟨q, q1, q2⟩ := last_of hc
 have hy : Iv b 0 ⟨(fedP l s b n cs).weak, (fedP l s b n cs).left, (fedP l s b n cs).want, [], []⟩ := ⟨f2.w, f2.by_, f2.le, Nat.le_refl _, Nat.le_refl _⟩
 obtain ⟨d1, d2⟩ := done_of (q := lastP s b l) hc 70000 0 _ hy (by omega) (by have := f2.le; show (fedP l s b n cs).left.length ≤ 70000; unfold fedP; omega)
 unfold match_Of.f
 refine Ev.bind (ev_some (check_of s b n l)) (ev_neg (by rw [hc]; decide) (ev_pos h8 (ev_neg (by omega) (Ev.bind f1 (Ev.bind (ev_some q1) (ev_pos (by have := f2.ou; omega) ?_))))))
 rw [q2]
 exact Ev.bind d1 (ev_pos (by have := d2.ou; show (doneP _ _ _ _ _ _ _).out.length ≤ _; omega) (Ev.bind (ev_some hn) (Ev.now _)))
theorem map_of_to (l : List S47) : (l.map toT).map ofT = l := by
 rw [List.map_map]
 exact List.map_id l
def skp (o : S47) : Prop := o.f2 = [] ∧ o.f1 ≤ 0
def nrmS (o : S47) : S47 := if o.f2 = [] then o else ⟨0, 0, o.f2⟩
def goS (p o : S47) : Prop := o.f1 ≤ 131072 ∧ 0 ≤ p.f0 ∧ p.f0 ≤ 131072 ∧ p.f1 ≤ wrap64 (131072 - p.f0) ∧ wrap64 (p.f0 + p.f1) = o.f0
instance (p o : S47) : Decidable (goS p o) := by unfold goS; infer_instance
def joinS (p o : S47) : List S47 :=
 if p.f2 = [] then (if o.f2 = [] then (if goS p o then [⟨p.f0, wrap64 (p.f1 + o.f1), p.f2⟩] else [p, nrmS o]) else [p, nrmS o])
 else if o.f2 = [] then [p, nrmS o] else [⟨p.f0, p.f1, p.f2 ++ o.f2⟩]
def addS (xs : List S47) (o : S47) : List S47 := (Jn.addL (xs.map toT) (toT o)).map ofT
theorem nrm_of (o : S47) : ofT (Jn.nrm (toT o)) = nrmS o := by
 unfold Jn.nrm nrmS
 show ofT (if o.f2 = [] then toT o else (0, 0, o.f2)) = _
 split <;> rfl
theorem join_of (p o : S47) : (Jn.join2 (toT p) (toT o)).map ofT = joinS p o := by
 unfold Jn.join2 joinS
 show (if p.f2 = [] then (if o.f2 = [] then (if goS p o then [((toT p).1, wrap64 ((toT p).2.1 + (toT o).2.1), (toT p).2.2)] else [toT p, Jn.nrm (toT o)]) else [toT p, Jn.nrm (toT o)]) else if o.f2 = [] then [toT p, Jn.nrm (toT o)] else [((toT p).1, (toT p).2.1, (toT p).2.2 ++ (toT o).2.2)]).map ofT = _
 have hn : [toT p, Jn.nrm (toT o)].map ofT = [p, nrmS o] := by rw [List.map_cons, List.map_cons, nrm_of]; rfl
 by_cases h1 : p.f2 = []
 ·rw [if_pos h1, if_pos h1]
  by_cases h2 : o.f2 = []
  ·rw [if_pos h2, if_pos h2]
   by_cases h3 : goS p o
   ·rw [if_pos h3, if_pos h3]; rfl
   ·rw [if_neg h3, if_neg h3]; exact hn
  ·rw [if_neg h2, if_neg h2]; exact hn
 ·rw [if_neg h1, if_neg h1]
  by_cases h2 : o.f2 = []
  ·rw [if_pos h2, if_pos h2]; exact hn
  ·rw [if_neg h2, if_neg h2]; rfl
theorem add_skip {xs : List S47} {o : S47} (h : skp o) : addS xs o = xs := by
 have e : Jn.addL (xs.map toT) (toT o) = xs.map toT := by unfold Jn.addL; rw [if_pos (show (toT o).2.2 = [] ∧ (toT o).2.1 ≤ 0 from h)]
 unfold addS
 rw [e, map_of_to]
theorem add_nil {o : S47} (h : ¬ skp o) : addS [] o = [nrmS o] := by
 unfold addS
 rw [List.map_nil, Jn.addL_nil (toT o) h, List.map_cons, nrm_of]
 rfl
theorem add_snoc {ys : List S47} {p o : S47} (h : ¬ skp o) : addS (ys ++ [p]) o = ys ++ joinS p o := by
 unfold addS
 rw [List.map_append, show [p].map toT = [toT p] from rfl, Jn.addL_snoc (ys.map toT) (toT p) (toT o) h, List.map_append, map_of_to, join_of]
def normS (l : List S47) : List S47 := l.foldl addS []
theorem fold_of : ∀ (l xs : List S47), ((l.map toT).foldl Jn.addL (xs.map toT)).map ofT = l.foldl addS xs
 | [], xs => map_of_to xs
 | o :: l, xs => by
  rw [List.map_cons, List.foldl_cons, List.foldl_cons, ← fold_of l (addS xs o)]
  unfold addS
  rw [map_to_of]
theorem wt_le (l : List S47) (h : ∀ o ∈ l, o.f2.length ≤ 65536) : Jn.wt (l.map toT) ≤ l.length * 65536 := by
 induction l with
 | nil => simp [Jn.wt_nil]
 | cons o l ih =>
  rw [List.map_cons, Jn.wt_cons, List.length_cons]
  have h1 := ih (fun x hx => h x (List.mem_cons_of_mem _ hx))
  have h2 : (toT o).2.2.length ≤ 65536 := h o List.mem_cons_self
  omega
theorem norm_d {l : List S47} (hs : l.length ≤ 10000) (hd : ∀ o ∈ l, o.f2.length ≤ 65536) : delta_Norm.f l = some (normS l) := by
 unfold delta_Norm.f
 have := wt_le l hd
 rw [if_pos ⟨by omega, by omega⟩]
 exact congrArg some (fold_of l [])
theorem rd40 {l : List S47} {i : Nat} (h : i < l.length) : rd_T47 l (i : Int) = l[i] := by
 unfold rd_T47
 rw [Int.toNat_natCast, List.getD_eq_getElem?_getD, List.getElem?_eq_getElem h, Option.getD_some]
theorem step40 {l : List S47} {i : Nat} (h : i < l.length) : l.drop i = rd_T47 l (i : Int) :: l.drop (i + 1) := by
 rw [rd40 h]
 exact List.drop_eq_getElem_cons h
theorem end40 {l : List S47} {i : Nat} (h : i + 0 = l.length) : l.drop i = [] := List.drop_eq_nil_of_le (by omega)
theorem inc {i n : Nat} (h : i < n) (hn : n ≤ 4000000000000) : wrap64 ((i : Int) + 1) = ((i + 1 : Nat) : Int) := by unfold wrap64; omega
/-- How many bytes an op makes. -/
def ln (o : S47) : Int := if (o.f2.length : Int) > 0 then (o.f2.length : Int) else mx o.f1 0
theorem mx0 (x : Int) : 0 ≤ mx x 0 ∧ x ≤ mx x 0 ∧ (mx x 0 = x ∨ mx x 0 = 0) := by unfold mx; split <;> omega
theorem told_d (o : S47) : delta_told.f o.f0 o.f1 o.f2 = some (decide ((o.f2.length : Int) > 0)) := rfl
theorem len_d (o : S47) : delta_length.f o.f0 o.f1 o.f2 = some (ln o) := by
 unfold delta_length.f delta_told.f ln
 by_cases h : (o.f2.length : Int) > 0
 ·rw [Option.bind_some, decide_eq_true h, if_pos rfl, if_pos h]
 ·rw [Option.bind_some, decide_eq_false h, if_neg (by decide), if_neg h]
/-- The bytes told, and copied. -/
def costL : Int → Int → List S47 → Int × Int
 | a, b, [] => (a, b)
 | a, b, o :: l => if (o.f2.length : Int) > 0 then costL (wrap64 (a + ln o)) b l else costL a (wrap64 (b + ln o)) l
theorem cost_loop (l : List S47) (hn : l.length ≤ 4000000000000) : ∀ (d k i : Nat) (a b : Int), i + d = l.length → d < k → delta_Cost.l0 k a b l (l.length : Int) (i : Int) = some (costL a b (l.drop i)) := by
 intro d
 induction d with
 | zero =>
  intro k i a b hi hk
  obtain ⟨k, rfl⟩ : ∃ m, k = m + 1 := ⟨k - 1, by omega⟩
  simp only [delta_Cost.l0]
  rw [if_neg (by omega), end40 hi]
  rfl
 | succ d ih =>
  intro k i a b hi hk
  obtain ⟨k, rfl⟩ : ∃ m, k = m + 1 := ⟨k - 1, by omega⟩
  have hlt : i < l.length := by omega
  simp only [delta_Cost.l0]
  rw [if_pos (by omega), if_pos (by omega), if_pos (by omega), told_d, Option.bind_some, step40 hlt, inc hlt hn, len_d]
  simp only [costL]
  by_cases h : ((rd_T47 l (i : Int)).f2.length : Int) > 0
  ·rw [decide_eq_true h, if_pos rfl, if_pos h, Option.bind_some]
   exact ih k (i + 1) _ _ (by omega) (by omega)
  ·rw [decide_eq_false h, if_neg (by decide), if_neg h, Option.bind_some]
   exact ih k (i + 1) _ _ (by omega) (by omega)
theorem cost_d (l : List S47) (hn : l.length ≤ 4000000000000) {k : Nat} (hk : l.length < k) : delta_Cost.f k l = some (costL 0 0 l) := by
 have := cost_loop l hn l.length k 0 0 0 (by omega) (by omega)
 rw [List.drop_zero] at this
 exact this
theorem aw_marks : marksF ([] ++ awA ++ awB) (OfB ([] ++ awA ++ awB) 16) 8 (cutNum ([] ++ awA ++ awB) (OfB ([] ++ awA ++ awB) 16)) = [markF awA 8, markF awB 8] := by
 rw [show OfB ([] ++ awA ++ awB) 16 = 16 from rfl, show cutNum ([] ++ awA ++ awB) 16 = 2 by decide]
 show [markF (cutRow ([] ++ awA ++ awB) 16 0) 8, markF (cutRow ([] ++ awA ++ awB) 16 1) 8] = _
 rw [show cutRow ([] ++ awA ++ awB) 16 0 = awA by unfold cutRow wrap64; decide, show cutRow ([] ++ awA ++ awB) 16 1 = awB by unfold cutRow wrap64; decide]
theorem aw_ops : (opsP [markF awA 8, markF awB 8] 32 16 8 ([] ++ awB ++ [120] ++ awA)).map toT = awO.map toT := by decide +kernel
theorem awake9 : Ev (fun k => remoralaw09_awake.f k) true := by
 have o1 : OfOk 16 8 := by unfold OfOk; omega
 have h1 := of_ok ([] ++ awA ++ awB) (by decide) 16 8 o1
 have hc := marks_ck ([] ++ awA ++ awB) (by decide) 16 8 o1
 rw [aw_marks] at h1 hc
 have e1 : ((([] ++ awA ++ awB : List Int).length : Nat) : Int) = 32 := rfl
 have e2 : OfB ([] ++ awA ++ awB) 16 = 16 := rfl
 rw [e1, e2] at h1 hc
 obtain ⟨ms, hms⟩ : ∃ ms, ms = [markF awA 8, markF awB 8] := ⟨_, rfl⟩
 have ho : opsP ms 32 16 8 ([] ++ awB ++ [120] ++ awA) = awO := by
  rw [hms]
  exact toT_inj aw_ops
 rw [← hms] at h1 hc
 clear hms
 have hm := of_of hc ([] ++ awB ++ [120] ++ awA) (by unfold Bytes; decide) (by decide) (r := awO) (by rw [ho]; kernel_rfl)
 clear ho
 unfold remoralaw09_awake.f
 exact Ev.bind h1 (ev_pos rfl (Ev.bind hm (ev_pos ⟨rfl, rfl⟩ (Ev.bind (Ev.of (delta_Same.mono awO awO) (k := 20) (by decide +kernel)) (ev_pos rfl (Ev.now _))))))
/-! The basis itself -/
theorem feed_short {l : List S55} {s b n : Int} : ∀ (r : List Int) (x : Mst), (x.left.length : Int) + (r.length : Int) < b → feedP l s b n x r = ⟨r.foldl rin x.weak, x.left ++ r, x.want, x.told, x.out⟩
 | [], x, _ => by show x = ⟨x.weak, x.left ++ [], x.want, x.told, x.out⟩; rw [List.append_nil]
 | c :: r, x, h => by
  rw [List.length_cons] at h
  show feedP l s b n (stepP l s b n x c) r = _
  have e : stepP l s b n x c = pushP x c := by
   unfold stepP
   rw [if_neg (by rw [List.length_append, List.length_cons, List.length_nil]; omega)]
  rw [e, feed_short r (pushP x c) (by show ((x.left ++ [c]).length : Int) + _ < b; rw [List.length_append, List.length_cons, List.length_nil]; omega)]
  show (⟨_, (x.left ++ [c]) ++ r, _, _, _⟩ : Mst) = _
  rw [List.append_assoc]
  rfl
theorem pk_want {l : List S55} {s b w : Int} {sg : ByteArray} {n : Int} {i : Nat} (hi : i < l.length) (h : hasV l s b w sg n i = true) : pkV l s b w sg n (i : Int) = ((i : Int), true) := by
 unfold pkV
 rw [if_pos ⟨by omega, by omega, by rw [Int.toNat_natCast]; exact h⟩]
def cpy (b : Int) (i : Nat) : List S47 := (List.range i).map fun j : Nat => (⟨(j : Int) * b, b, []⟩ : S47)
/-- A whole block that is what the number that is wanted says. -/
theorem feed_block {l : List S55} {s b n : Int} {i : Nat} (hi : i < l.length) (r : List Int) (c : Int) (hr : ((r ++ [c]).length : Int) = b) (h : hasV l s b (rollF (r ++ [c])) (markF (r ++ [c]) n).f1 ((r ++ [c]).length : Int) i = true) (out : List S47) :
    feedP l s b n ⟨0, [], (i : Int), [], out⟩ (r ++ [c]) = ⟨0, [], (i : Int) + 1, [], out ++ [⟨(i : Int) * b, lenAt s b i, []⟩]⟩ := by
 have hl : ((r ++ [c]).length : Int) = (r.length : Int) + 1 := by rw [List.length_append]; simp
 show (r ++ [c]).foldl (stepP l s b n) _ = _
 rw [List.foldl_append]
 have e := feed_short (l := l) (s := s) (b := b) (n := n) r ⟨0, [], (i : Int), [], out⟩ (by show ((0 : Nat) : Int) + _ < b; omega)
 unfold feedP at e
 rw [e]
 show stepP l s b n ⟨r.foldl rin 0, [] ++ r, (i : Int), [], out⟩ c = _
 rw [List.nil_append]
 unfold stepP
 rw [if_pos hr]
 have hp : pkX l s b n (pushP ⟨r.foldl rin 0, r, (i : Int), [], out⟩ c) = ((i : Int), true) := by
  unfold pkX pushP
  show pkV l s b (rin (rollF r) c) (markF (r ++ [c]) n).f1 ((r ++ [c]).length : Int) (i : Int) = _
  rw [← rollF_snoc]
  exact pk_want hi h
 unfold takeP
 rw [hp, if_pos rfl]
 show (⟨0, [], (i : Int) + 1, [], tl [] out ++ [⟨(i : Int) * b, lenAt s b (i : Int).toNat, []⟩]⟩ : Mst) = _
 rw [Int.toNat_natCast]
 rfl
theorem row_of {l0 : List Int} {b : Int} (hl : l0.length ≤ 131072) (hb : 16 ≤ b ∧ b ≤ 4096) {i : Nat} (hi : (i : Int) * b < (l0.length : Int)) : cutRow l0 b i = (l0.take ((i + 1) * b.toNat)).drop (i * b.toNat) := by
 obtain ⟨B, rfl⟩ : ∃ B : Nat, b = (B : Int) := ⟨b.toNat, by omega⟩
 have hm : (i : Int) * (B : Int) = ((i * B : Nat) : Int) := by rw [Int.natCast_mul]
 have hi16 : i * 16 ≤ i * B := Nat.mul_le_mul_left _ (by omega)
 have h1 : wrap64 (wrap64 ((i : Int) + 1) * (B : Int)) = (((i + 1) * B : Nat) : Int) := by
  rw [w64 ((i : Int) + 1) (by omega) (by omega), Int.natCast_mul, Int.natCast_add, Int.natCast_one]
  refine w64 _ ?_ ?_
  ·rw [Int.add_mul, hm]; omega
  ·rw [Int.add_mul, hm]; omega
 unfold cutRow
 rw [h1, hm, w64 _ (by omega) (by omega), Int.toNat_natCast, Int.toNat_natCast]
 congr 1
 unfold mn
 split
 ·rw [Int.toNat_natCast]
 ·next h => rw [Int.toNat_natCast, List.take_of_length_le (Nat.le_refl _), List.take_of_length_le (by omega)]
theorem has_own {l0 : List Int} {b n : Int} {i m : Nat} (hi : i < m) {w : Int} {sg : ByteArray} {r : List Int} (hr : cutRow l0 b i = r) (hw : w = rollF r) (hs : sg = (markF r n).f1) {s z : Int} (hz : lenAt s b i = z) : hasV (marksF l0 b n m) s b w sg z i = true := by
 have e : rd_T55 (marksF l0 b n m) (i : Int) = markF r n := by
  unfold rd_T55 marksF
  rw [Int.toNat_natCast, List.getD_eq_getElem?_getD, List.getElem?_map, List.getElem?_range hi, Option.map_some, Option.getD_some, hr]
 unfold hasV wkOf
 rw [e, hw, hs, decide_eq_true hz, decide_eq_true (show (markF r n).f0 = rollF r from rfl), beq_self_eq_true]
 rfl
theorem num_at {l0 : List Int} {B : Nat} (hB : 16 ≤ B) (i : Nat) : i < cutNum l0 (B : Int) ↔ i * B < l0.length := by
 unfold cutNum
 rw [Int.toNat_natCast, show (i < (l0.length + B - 1) / B) = (i + 1 ≤ (l0.length + B - 1) / B) from rfl, Nat.le_div_iff_mul_le (by omega), Nat.add_mul, Nat.one_mul]
 omega
theorem len_at {L B i : Nat} (h : i * B < L) : lenAt (L : Int) (B : Int) i = ((min L ((i + 1) * B) - i * B : Nat) : Int) := by
 have e1 : ((i : Int) + 1) * (B : Int) = (((i + 1) * B : Nat) : Int) := by rw [Int.natCast_mul, Int.natCast_add, Int.natCast_one]
 have e2 : (i : Int) * (B : Int) = ((i * B : Nat) : Int) := by rw [Int.natCast_mul]
 have e3 : (i + 1) * B = i * B + B := by rw [Nat.add_mul, Nat.one_mul]
 unfold lenAt mn
 rw [e1, e2]
 split <;> omega
/-- All whole blocks of the basis, one behind the other. -/
theorem feed_own {l0 : List Int} {B : Nat} {n : Int} (hl : l0.length ≤ 131072) (hB : 16 ≤ B ∧ B ≤ 4096) : ∀ i : Nat, i * B ≤ l0.length →
    feedP (marksF l0 (B : Int) n (cutNum l0 (B : Int))) (l0.length : Int) (B : Int) n x0P (l0.take (i * B)) = ⟨0, [], (i : Int), [], cpy (B : Int) i⟩
 | 0, _ => by rw [Nat.zero_mul]; rfl
 | i + 1, h => by
  have e3 : (i + 1) * B = i * B + B := by rw [Nat.add_mul, Nat.one_mul]
  have ih := feed_own (n := n) hl hB i (by omega)
  have hlt : i < cutNum l0 (B : Int) := (num_at hB.1 i).2 (by omega)
  have hrow : cutRow l0 (B : Int) i = (l0.take ((i + 1) * B)).drop (i * B) := by
   have := row_of (b := (B : Int)) hl (by omega) (i := i) (by rw [show (i : Int) * (B : Int) = ((i * B : Nat) : Int) by rw [Int.natCast_mul]]; omega)
   rwa [Int.toNat_natCast] at this
  have hsp : l0.take ((i + 1) * B) = l0.take (i * B) ++ cutRow l0 (B : Int) i := by
   have := (List.take_append_drop (i * B) (l0.take ((i + 1) * B))).symm
   rw [List.take_take, Nat.min_eq_left (by omega)] at this
   rw [hrow]
   exact this
  have hrl : (cutRow l0 (B : Int) i).length = B := by rw [hrow, List.length_drop, List.length_take]; omega
  obtain ⟨r, c, hrc⟩ : ∃ r c, cutRow l0 (B : Int) i = r ++ [c] := by
   refine ⟨(cutRow l0 (B : Int) i).dropLast, (cutRow l0 (B : Int) i).getLast (fun e => by rw [e] at hrl; simp at hrl; omega), (List.dropLast_concat_getLast _).symm⟩
  have hz : lenAt (l0.length : Int) (B : Int) i = (B : Int) := by rw [len_at (by omega)]; congr 1; omega
  have hb := feed_block (l := marksF l0 (B : Int) n (cutNum l0 (B : Int))) (s := (l0.length : Int)) (b := (B : Int)) (n := n) (i := i) (by rw [marks_len]; exact hlt) r c (by rw [← hrc, hrl]) (by rw [← hrc, hrl]; exact has_own hlt rfl rfl rfl hz) (cpy (B : Int) i)
  rw [hsp]
  unfold feedP at ih hb ⊢
  rw [List.foldl_append, ih, hrc, hb, hz]
  unfold cpy
  rw [List.range_succ, List.map_append, Int.natCast_add, Int.natCast_one]
  rfl
theorem norm_next {xs : List S47} {i : Nat} {a : Nat} (ih : normS xs = if i = 0 then [] else [⟨0, (a : Int), []⟩]) {z : Int} (hz : 1 ≤ z) (ha : (a : Int) + z ≤ 131072) (h0 : i = 0 → a = 0) {y : Int} (hy : y = (a : Int) + z) (_ : 0 ≤ a) : normS (xs ++ [⟨(a : Int), z, []⟩]) = [⟨0, y, []⟩] := by
 have hs : ¬ skp ⟨(a : Int), z, []⟩ := fun h => absurd h.2 (by show ¬ z ≤ 0; omega)
 unfold normS at ih ⊢
 rw [List.foldl_append, ih, hy]
 show addS _ _ = _
 by_cases hi : i = 0
 ·rw [if_pos hi, add_nil hs, h0 hi]
  unfold nrmS
  rw [if_pos rfl]
  simp
 ·rw [if_neg hi, show ([⟨0, (a : Int), []⟩] : List S47) = [] ++ [⟨0, (a : Int), []⟩] from rfl, add_snoc hs]
  have hg : goS ⟨0, (a : Int), []⟩ ⟨(a : Int), z, []⟩ := by
   refine ⟨by show z ≤ 131072; omega, show (0 : Int) ≤ 0 by decide, show (0 : Int) ≤ 131072 by decide, ?_, ?_⟩
   ·show (a : Int) ≤ wrap64 (131072 - 0)
    rw [w64 _ (by omega) (by omega)]; omega
   ·show wrap64 (0 + (a : Int)) = (a : Int)
    rw [w64 _ (by omega) (by omega)]; omega
  unfold joinS
  rw [if_pos rfl, if_pos rfl, if_pos hg]
  show [(⟨0, wrap64 ((a : Int) + z), []⟩ : S47)] = _
  rw [w64 _ (by omega) (by omega)]
theorem norm_cpy {B : Nat} (hB : 16 ≤ B) : ∀ i : Nat, i * B ≤ 131072 → normS (cpy (B : Int) i) = if i = 0 then [] else [⟨0, ((i * B : Nat) : Int), []⟩]
 | 0, _ => rfl
 | i + 1, h => by
  have e3 : (i + 1) * B = i * B + B := by rw [Nat.add_mul, Nat.one_mul]
  have ih := norm_cpy hB i (by omega)
  have e : cpy (B : Int) (i + 1) = cpy (B : Int) i ++ [⟨((i * B : Nat) : Int), (B : Int), []⟩] := by
   unfold cpy
   rw [List.range_succ, List.map_append, Int.natCast_mul]
   rfl
  rw [e, if_neg (by omega)]
  exact norm_next ih (by omega) (by omega) (fun h => by rw [h, Nat.zero_mul]) (by rw [e3, Int.natCast_add]) (Nat.zero_le _)
theorem same_ops {l0 : List Int} {B : Nat} {n : Int} (hl : l0.length ≤ 1500) (hB : 16 ≤ B ∧ B ≤ 4096) : ∃ f : Nat, (f = 0 → l0.length < B) ∧ f * B ≤ l0.length ∧ opsP (marksF l0 (B : Int) n (cutNum l0 (B : Int))) (l0.length : Int) (B : Int) n l0 = cpy (B : Int) f ++ (if l0.length = f * B then [] else [⟨((f * B : Nat) : Int), ((l0.length - f * B : Nat) : Int), []⟩]) := by
 obtain ⟨f, hf⟩ : ∃ f, f = l0.length / B := ⟨_, rfl⟩
 have h1 : f * B ≤ l0.length := by rw [hf]; exact Nat.div_mul_le_self _ _
 have h2 : l0.length < f * B + B := by
  have := Nat.lt_div_mul_add (a := l0.length) (b := B) (by omega)
  rw [hf]; exact this
 clear hf
 refine ⟨f, fun h => by rw [h, Nat.zero_mul] at h2; omega, h1, ?_⟩
 have hown := feed_own (n := n) (l0 := l0) (by omega) hB f h1
 obtain ⟨r, hr⟩ : ∃ r, r = l0.drop (f * B) := ⟨_, rfl⟩
 have hrl : r.length = l0.length - f * B := by rw [hr, List.length_drop]
 have hfed : fedP (marksF l0 (B : Int) n (cutNum l0 (B : Int))) (l0.length : Int) (B : Int) n l0 = ⟨rollF r, r, (f : Int), [], cpy (B : Int) f⟩ := by
  unfold fedP
  rw [show feedP (marksF l0 (B : Int) n (cutNum l0 (B : Int))) (l0.length : Int) (B : Int) n x0P l0 = feedP (marksF l0 (B : Int) n (cutNum l0 (B : Int))) (l0.length : Int) (B : Int) n (feedP (marksF l0 (B : Int) n (cutNum l0 (B : Int))) (l0.length : Int) (B : Int) n x0P (l0.take (f * B))) (l0.drop (f * B)) from by
   unfold feedP
   rw [← List.foldl_append, List.take_append_drop], hown, ← hr, feed_short r ⟨0, [], (f : Int), [], cpy (B : Int) f⟩ (by show ((0 : Nat) : Int) + _ < _; omega)]
  show (⟨_, [] ++ r, _, _, _⟩ : Mst) = _
  rw [List.nil_append]
  rfl
 unfold opsP
 rw [hfed]
 show cpy (B : Int) f ++ tl (endP _ _ _ _ _).told (endP _ _ _ _ _).out = _
 congr 1
 unfold endP
 show tl (doneP _ _ _ _ (lastP (l0.length : Int) (B : Int) (marksF l0 (B : Int) n (cutNum l0 (B : Int)))) (69999 + 1) ⟨rollF r, r, (f : Int), [], []⟩).told (doneP _ _ _ _ (lastP (l0.length : Int) (B : Int) (marksF l0 (B : Int) n (cutNum l0 (B : Int)))) (69999 + 1) ⟨rollF r, r, (f : Int), [], []⟩).out = _
 by_cases h0 : l0.length = f * B
 ·rw [if_pos h0]
  have : r = [] := List.eq_nil_of_length_eq_zero (by omega)
  rw [this]
  unfold doneP
  rw [if_pos (show ([] : List Int).length = 0 from rfl)]
  rfl
 ·rw [if_neg h0]
  have c1 : f < cutNum l0 (B : Int) := (num_at hB.1 f).2 (by omega)
  have c2 : ¬ f + 1 < cutNum l0 (B : Int) := fun h => by
   have := (num_at hB.1 (f + 1)).1 h
   rw [Nat.add_mul, Nat.one_mul] at this
   omega
  have e3 : (f + 1) * B = f * B + B := by rw [Nat.add_mul, Nat.one_mul]
  have hz : lenAt (l0.length : Int) (B : Int) f = ((l0.length - f * B : Nat) : Int) := by rw [len_at (by omega)]; congr 1; omega
  have hlast : lastP (l0.length : Int) (B : Int) (marksF l0 (B : Int) n (cutNum l0 (B : Int))) = (r.length : Int) := by
   unfold lastP
   rw [marks_len, if_neg (by omega), show cutNum l0 (B : Int) - 1 = f by omega, hz, hrl]
  rw [hlast]
  have hrow : cutRow l0 (B : Int) f = r := by
   have := row_of (b := (B : Int)) (l0 := l0) (by omega) (by omega) (i := f) (by rw [show (f : Int) * (B : Int) = ((f * B : Nat) : Int) by rw [Int.natCast_mul]]; omega)
   rw [Int.toNat_natCast, List.take_of_length_le (by omega)] at this
   rw [this, hr]
  have hp : pkX (marksF l0 (B : Int) n (cutNum l0 (B : Int))) (l0.length : Int) (B : Int) n ⟨rollF r, r, (f : Int), [], []⟩ = ((f : Int), true) := by
   unfold pkX
   exact pk_want (by rw [marks_len]; exact c1) (has_own c1 hrow rfl rfl (by rw [hz, hrl]))
  unfold doneP
  rw [if_neg (by show ¬ r.length = 0; omega), if_pos rfl]
  unfold takeP
  rw [hp, if_pos rfl]
  show tl [] (tl [] [] ++ [⟨(f : Int) * (B : Int), lenAt (l0.length : Int) (B : Int) (f : Int).toNat, []⟩]) = _
  rw [Int.toNat_natCast, hz, Int.natCast_mul]
  rfl
theorem same_norm {l0 : List Int} {B : Nat} {n : Int} (hl : l0.length ≤ 1500) (hB : 16 ≤ B ∧ B ≤ 4096) (hc : Ck (l0.length : Int) (B : Int) n (marksF l0 (B : Int) n (cutNum l0 (B : Int))) = 0) :
    delta_Norm.f (opsP (marksF l0 (B : Int) n (cutNum l0 (B : Int))) (l0.length : Int) (B : Int) n l0) = some (if l0.length = 0 then [] else [⟨0, (l0.length : Int), []⟩]) := by
 obtain ⟨f, hf0, h1, ho⟩ := same_ops (n := n) hl hB
 have hf : f ≤ 1500 := by
  have : f * 1 ≤ f * B := Nat.mul_le_mul_left _ (by omega)
  omega
 have hd : ∀ o ∈ cpy (B : Int) f ++ (if l0.length = f * B then [] else [(⟨((f * B : Nat) : Int), ((l0.length - f * B : Nat) : Int), []⟩ : S47)]), o.f2 = [] := by
  intro o hm
  rcases List.mem_append.1 hm with h | h
  ·unfold cpy at h
   obtain ⟨j, _, rfl⟩ := List.mem_map.1 h
   rfl
  ·split at h
   ·cases h
   ·rw [List.mem_singleton.1 h]
 rw [ho, norm_d (by
  rw [List.length_append]
  have : (cpy (B : Int) f).length = f := by unfold cpy; rw [List.length_map, List.length_range]
  split <;> simp [this] <;> omega) (fun o hm => by rw [hd o hm]; exact Nat.zero_le _)]
 have hn := norm_cpy hB.1 f (by omega)
 congr 1
 by_cases h0 : l0.length = f * B
 ·rw [if_pos h0, List.append_nil, hn]
  by_cases h2 : f = 0
  ·rw [if_pos h2, if_pos (by rw [h0, h2, Nat.zero_mul])]
  ·have : 1 * 16 ≤ f * B := Nat.mul_le_mul (by omega) hB.1
   rw [if_neg h2, if_neg (by omega), h0]
 ·rw [if_neg h0, if_neg (by omega)]
  exact norm_next hn (by omega) (by omega) (fun h => by rw [h, Nat.zero_mul]) (by omega) (Nat.zero_le _)
theorem MatchSame : remoralaw09_MatchSame.Pure := by
 intro l0 a1 a2 hl0 _ ha1 ha2
 refine Ev.rounds ?_
 unfold remoralaw09_MatchSame.f
 by_cases hg : (l0.length : Int) > 1500
 ·exact ev_pos hg (Ev.bind awake9 (Ev.now _))
 ·refine ev_neg hg ?_
  by_cases ho : OfOk a1 a2
  ·have h1 := of_ok l0 (by omega) a1 a2 ho
   have hc := marks_ck l0 (by omega) a1 a2 ho
   obtain ⟨hb1, hb2⟩ := ofB_in l0 ho
   obtain ⟨B, hB⟩ : ∃ B : Nat, OfB l0 a1 = (B : Int) := ⟨(OfB l0 a1).toNat, by omega⟩
   rw [hB] at h1 hc hb1 hb2
   have hby : Bytes l0 := bytes_wf hl0.2
   have hm := of_of hc l0 hby (by omega) (same_norm (n := a2) (show l0.length ≤ 1500 by omega) (by omega : 16 ≤ B ∧ B ≤ 4096) hc)
   refine Ev.bind h1 (ev_pos rfl (Ev.bind hm ?_))
   by_cases h0 : l0.length = 0
   ·rw [if_pos h0]
    refine Ev.bind (Ev.of (delta_Cost.mono _) (k := 3) (cost_d [] (by decide) (by decide))) (ev_pos rfl (ev_pos rfl (ev_pos (by rw [h0]; rfl) (ev_pos (by rw [h0]; decide) (ev_pos (by rw [h0]; rfl) (Ev.bind awake9 (Ev.now _)))))))
   ·rw [if_neg h0]
    have hcost : costL 0 0 [(⟨0, (l0.length : Int), []⟩ : S47)] = (0, (l0.length : Int)) := by
     simp only [costL]
     rw [if_neg (by decide)]
     congr 1
     show wrap64 (0 + ln ⟨0, (l0.length : Int), []⟩) = _
     rw [show ln (⟨0, (l0.length : Int), []⟩ : S47) = (l0.length : Int) by unfold ln; show (if ((0 : Nat) : Int) > 0 then ((0 : Nat) : Int) else mx (l0.length : Int) 0) = _; rw [if_neg (by decide)]; unfold mx; split <;> omega, w64 _ (by omega) (by omega)]
     omega
    refine Ev.bind (Ev.of (delta_Cost.mono _) (k := 3) (cost_d [(⟨0, (l0.length : Int), []⟩ : S47)] (show 1 ≤ 4000000000000 by decide) (show 1 < 3 by decide))) ?_
    rw [hcost]
    refine ev_pos rfl (ev_pos rfl (ev_pos rfl (ev_pos ?_ (ev_neg (by omega) (ev_pos (show (0 : Int) < ((1 : Nat) : Int) by decide) (ev_pos rfl (Ev.bind awake9 (Ev.now _))))))))
    show ((1 : Nat) : Int) = mn (l0.length : Int) 1
    unfold mn
    split <;> omega
  ·exact Ev.bind ⟨0, fun k _ => of_bad l0 a1 a2 ho k⟩ (ev_neg (by decide) (Ev.bind awake9 (Ev.now _)))

end Go.Proofs.Ytkihlcmjjoiccaa.Pure
