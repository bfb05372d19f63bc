/- Each block of a signature is found with its sum and picked with both. Conditions: none. -/
import Derived.Test.YtlndkemblbbfaaaPIndexOwnx10
namespace Go.Proofs.Ytlndkemblbbfaaa.Pure
open Go.RowKit Go.Proofs.Ytlndkemblbbfaaa.PIndexOwn Go.Proofs.YtlndkemblbbfaaaW.PrintWords Go.Proofs.YtlndkemblbbfaaaW.PrintLast Go.Proofs.YtlndkemblbbfaaaW.PrintMore
set_option maxRecDepth 100000
set_option linter.unusedVariables false
theorem w64 (n : Int) (h0 : -9223372036854775808 ≤ n) (h1 : n ≤ 9223372036854775807) : wrap64 n = n := by unfold wrap64; omega
/-- The length by cases. -/
def Ln (s : Int) : Int := if s ≤ 256 then 16 else if s ≤ 1024 then 32 else if s ≤ 4096 then 64 else if s ≤ 16384 then 128 else if s ≤ 65536 then 256 else if s ≤ 262144 then 512 else if s ≤ 1048576 then 1024 else if s ≤ 4194304 then 2048 else 4096
theorem length_of (s : Int) (m : Nat) : blocks_Length.f (m + 9) s = some (Ln s) := by
 have e1 : wrap64 (16 * 16) = 256 := by unfold wrap64; decide
 have e2 : wrap64 (32 * 32) = 1024 := by unfold wrap64; decide
 have e3 : wrap64 (64 * 64) = 4096 := by unfold wrap64; decide
 have e4 : wrap64 (128 * 128) = 16384 := by unfold wrap64; decide
 have e5 : wrap64 (256 * 256) = 65536 := by unfold wrap64; decide
 have e6 : wrap64 (512 * 512) = 262144 := by unfold wrap64; decide
 have e7 : wrap64 (1024 * 1024) = 1048576 := by unfold wrap64; decide
 have e8 : wrap64 (2048 * 2048) = 4194304 := by unfold wrap64; decide
 have d1 : wrap64 (16 * 2) = 32 := by unfold wrap64; decide
 have d2 : wrap64 (32 * 2) = 64 := by unfold wrap64; decide
 have d3 : wrap64 (64 * 2) = 128 := by unfold wrap64; decide
 have d4 : wrap64 (128 * 2) = 256 := by unfold wrap64; decide
 have d5 : wrap64 (256 * 2) = 512 := by unfold wrap64; decide
 have d6 : wrap64 (512 * 2) = 1024 := by unfold wrap64; decide
 have d7 : wrap64 (1024 * 2) = 2048 := by unfold wrap64; decide
 have d8 : wrap64 (2048 * 2) = 4096 := by unfold wrap64; decide
 unfold blocks_Length.f Ln
 by_cases c1 : s ≤ 256
 ·rw [if_pos c1]; simp only [blocks_Length.l0]; rw [if_pos (by decide), e1, if_neg (by omega)]
 rw [if_neg c1]
 by_cases c2 : s ≤ 1024
 ·rw [if_pos c2]; simp only [blocks_Length.l0]; rw [if_pos (by decide), e1, if_pos (by omega), d1, if_pos (by decide), e2, if_neg (by omega)]
 rw [if_neg c2]
 by_cases c3 : s ≤ 4096
 ·rw [if_pos c3]; simp only [blocks_Length.l0]; rw [if_pos (by decide), e1, if_pos (by omega), d1, if_pos (by decide), e2, if_pos (by omega), d2, if_pos (by decide), e3, if_neg (by omega)]
 rw [if_neg c3]
 by_cases c4 : s ≤ 16384
 ·rw [if_pos c4]; simp only [blocks_Length.l0]; rw [if_pos (by decide), e1, if_pos (by omega), d1, if_pos (by decide), e2, if_pos (by omega), d2, if_pos (by decide), e3, if_pos (by omega), d3, if_pos (by decide), e4, if_neg (by omega)]
 rw [if_neg c4]
 by_cases c5 : s ≤ 65536
 ·rw [if_pos c5]; simp only [blocks_Length.l0]; rw [if_pos (by decide), e1, if_pos (by omega), d1, if_pos (by decide), e2, if_pos (by omega), d2, if_pos (by decide), e3, if_pos (by omega), d3, if_pos (by decide), e4, if_pos (by omega), d4, if_pos (by decide), e5, if_neg (by omega)]
 rw [if_neg c5]
 by_cases c6 : s ≤ 262144
 ·rw [if_pos c6]; simp only [blocks_Length.l0]; rw [if_pos (by decide), e1, if_pos (by omega), d1, if_pos (by decide), e2, if_pos (by omega), d2, if_pos (by decide), e3, if_pos (by omega), d3, if_pos (by decide), e4, if_pos (by omega), d4, if_pos (by decide), e5, if_pos (by omega), d5, if_pos (by decide), e6, if_neg (by omega)]
 rw [if_neg c6]
 by_cases c7 : s ≤ 1048576
 ·rw [if_pos c7]; simp only [blocks_Length.l0]; rw [if_pos (by decide), e1, if_pos (by omega), d1, if_pos (by decide), e2, if_pos (by omega), d2, if_pos (by decide), e3, if_pos (by omega), d3, if_pos (by decide), e4, if_pos (by omega), d4, if_pos (by decide), e5, if_pos (by omega), d5, if_pos (by decide), e6, if_pos (by omega), d6, if_pos (by decide), e7, if_neg (by omega)]
 rw [if_neg c7]
 by_cases c8 : s ≤ 4194304
 ·rw [if_pos c8]; simp only [blocks_Length.l0]; rw [if_pos (by decide), e1, if_pos (by omega), d1, if_pos (by decide), e2, if_pos (by omega), d2, if_pos (by decide), e3, if_pos (by omega), d3, if_pos (by decide), e4, if_pos (by omega), d4, if_pos (by decide), e5, if_pos (by omega), d5, if_pos (by decide), e6, if_pos (by omega), d6, if_pos (by decide), e7, if_pos (by omega), d7, if_pos (by decide), e8, if_neg (by omega)]
 rw [if_neg c8]
 simp only [blocks_Length.l0]; rw [if_pos (by decide), e1, if_pos (by omega), d1, if_pos (by decide), e2, if_pos (by omega), d2, if_pos (by decide), e3, if_pos (by omega), d3, if_pos (by decide), e4, if_pos (by omega), d4, if_pos (by decide), e5, if_pos (by omega), d5, if_pos (by decide), e6, if_pos (by omega), d6, if_pos (by decide), e7, if_pos (by omega), d7, if_pos (by decide), e8, if_pos (by omega), d8, if_neg (by decide)]
def Rg (s b : Int) : Bool := decide (0 ≤ s ∧ s ≤ 131072 ∧ 16 ≤ b ∧ b ≤ 4096)
theorem right_of (s b : Int) : blocks_Right.f s b = some (Rg s b) := by
 unfold blocks_Right.f blocks_block.f Rg
 by_cases h1 : s ≥ 0
 ·rw [if_pos h1]
  by_cases h2 : s ≤ 131072
  ·rw [if_pos h2]
   by_cases h3 : b ≥ 16
   ·rw [if_pos h3]; exact congrArg some (decide_eq_decide.2 (by omega))
   ·rw [if_neg h3]; exact congrArg some (decide_eq_false (by omega)).symm
  ·rw [if_neg h2]; exact congrArg some (decide_eq_false (by omega)).symm
 ·rw [if_neg h1]; exact congrArg some (decide_eq_false (by omega)).symm
theorem rg_true {s b : Int} (h : Rg s b = true) : 0 ≤ s ∧ s ≤ 131072 ∧ 16 ≤ b ∧ b ≤ 4096 := of_decide_eq_true h
theorem rg_mk {s b : Int} (h : 0 ≤ s ∧ s ≤ 131072 ∧ 16 ≤ b ∧ b ≤ 4096) : Rg s b = true := decide_eq_true h
/-- How many blocks. -/
def Ct (s b : Int) : Int := if Rg s b = true then (s + b - 1) / b else 0
theorem ct_bounds {s b : Int} (h : Rg s b = true) : Ct s b * b ≤ s + b - 1 ∧ s ≤ Ct s b * b ∧ 0 ≤ Ct s b ∧ Ct s b ≤ 8192 := by
 obtain ⟨h1, h2, h3, h4⟩ := rg_true h
 unfold Ct; rw [if_pos h]
 have a := Int.ediv_mul_le (s + b - 1) (b := b) (by omega)
 have c := Int.lt_ediv_add_one_mul_self (s + b - 1) (b := b) (by omega)
 have d : 0 ≤ (s + b - 1) / b := Int.ediv_nonneg (by omega) (by omega)
 have e : (s + b - 1) / b < 8193 := Int.ediv_lt_of_lt_mul (by omega) (by omega)
 rw [Int.add_mul] at c
 exact ⟨a, by omega, d, by omega⟩
theorem count_of (s b : Int) : blocks_Count.f s b = some (Ct s b) := by
 unfold blocks_Count.f
 rw [right_of]; simp only [Option.bind_some]
 by_cases h : Rg s b = true
 ·obtain ⟨h1, h2, h3, h4⟩ := rg_true h
  have hb := ct_bounds h
  unfold Ct at hb ⊢
  rw [if_pos h] at hb
  rw [if_pos h, if_pos h, if_neg (by omega), w64 (s + b) (by omega) (by omega), w64 (s + b - 1) (by omega) (by omega), Int.tdiv_eq_ediv_of_nonneg (by omega), w64 _ (by omega) (by omega)]
 ·unfold Ct; rw [if_neg h, if_neg h]
theorem mul_bounds {i b : Int} (h0 : 0 ≤ i) (h1 : i ≤ 8192) (h2 : 16 ≤ b) (h3 : b ≤ 4096) : 0 ≤ i * b ∧ i * b ≤ 8192 * 4096 :=
 ⟨Int.mul_nonneg h0 (by omega), Int.mul_le_mul h1 h3 (by omega) (by omega)⟩
theorem range_no {s b i : Int} (h : i < 0 ∨ Ct s b ≤ i) : blocks_Range.f s b i = some (0, 0, false) := by
 unfold blocks_Range.f
 by_cases h0 : i < 0
 ·rw [if_pos h0]
 ·rw [if_neg h0, count_of]; simp only [Option.bind_some]; rw [if_pos (by omega)]
theorem ct_right {s b i : Int} (h0 : 0 ≤ i) (h : i < Ct s b) : Rg s b = true := by
 by_cases hr : Rg s b = true
 ·exact hr
 ·unfold Ct at h; rw [if_neg hr] at h; omega
theorem range_yes {s b i : Int} (h0 : 0 ≤ i) (h : i < Ct s b) : blocks_Range.f s b i = some (i * b, mn s ((i + 1) * b), true) := by
 have hr := ct_right h0 h
 obtain ⟨h1, h2, h3, h4⟩ := rg_true hr
 have hb := ct_bounds hr
 have m1 := mul_bounds (i := i) (b := b) h0 (by omega) h3 h4
 have m2 := mul_bounds (i := i + 1) (b := b) (by omega) (by omega) h3 h4
 unfold blocks_Range.f
 rw [if_neg (by omega), count_of]; simp only [Option.bind_some]
 rw [if_neg (by omega), w64 (i * b) (by omega) (by omega), w64 (i + 1) (by omega) (by omega), w64 ((i + 1) * b) (by omega) (by omega)]
theorem inc6 {i n : Nat} (h : i < n) (hn : n ≤ 4000000000000) : wrap64 ((i : Int) + 1) = ((i + 1 : Nat) : Int) := by unfold wrap64; omega
theorem ev_pos {α : Type} {c : Prop} [Decidable c] (h : c) {f g : Nat → Option α} {r : α} (k : Ev f r) : Ev (fun k => if c then f k else g k) r := Ev.congr (fun _ => if_pos h) k
theorem ev_neg {α : Type} {c : Prop} [Decidable c] (h : ¬ c) {f g : Nat → Option α} {r : α} (k : Ev g r) : Ev (fun k => if c then f k else g k) r := Ev.congr (fun _ => if_neg h) k
theorem ev_some {α : Type} {o : Option α} {r : α} (h : o = some r) : Ev (fun _ => o) r := by subst h; exact Ev.now _
/-- What is wrong with a signature's numbers. -/
def Fr (s b n : Int) : Int := if (1 ≤ n ∧ n ≤ 32) ∧ Rg s b = true then 0 else 2
theorem fr_ok {s b n : Int} (h : Fr s b n = 0) : (1 ≤ n ∧ n ≤ 32) ∧ Rg s b = true := by
 unfold Fr at h
 by_cases h1 : (1 ≤ n ∧ n ≤ 32) ∧ Rg s b = true
 ·exact h1
 ·rw [if_neg h1] at h; omega
theorem fr_mk {s b n : Int} (h : (1 ≤ n ∧ n ≤ 32) ∧ Rg s b = true) : Fr s b n = 0 := if_pos h
theorem fr_two {s b n : Int} (h : ¬ Fr s b n = 0) : Fr s b n = 2 := by
 unfold Fr at h ⊢
 by_cases h1 : (1 ≤ n ∧ n ≤ 32) ∧ Rg s b = true
 ·rw [if_pos h1] at h; omega
 ·rw [if_neg h1]
theorem strong_of (n : Int) : sig_strong.f n = some (decide (1 ≤ n ∧ n ≤ 32)) := by
 unfold sig_strong.f
 by_cases h : n ≥ 1
 ·rw [if_pos h]; congr 1; by_cases h2 : n ≤ 32
  ·rw [decide_eq_true h2, decide_eq_true ⟨h, h2⟩]
  ·rw [decide_eq_false h2, decide_eq_false (fun h3 => h2 h3.2)]
 ·rw [if_neg h, decide_eq_false (fun h3 => h h3.1)]
theorem front_of (s b n : Int) (l : List S44) : sig_front.f s b n l = some (Fr s b n) := by
 unfold sig_front.f Fr
 rw [strong_of, Option.bind_some]
 by_cases h : 1 ≤ n ∧ n ≤ 32
 ·rw [decide_eq_true h, if_pos rfl, right_of, Option.bind_some]
  by_cases h2 : Rg s b = true
  ·rw [if_pos h2, if_pos ⟨h, h2⟩]
  ·rw [if_neg h2, if_neg (fun h3 => h2 h3.2)]
 ·rw [decide_eq_false h, if_neg (by decide), if_neg (fun h3 => h h3.1)]
/-- What is wrong with a signature. -/
def Ck (s b n : Int) (l : List S44) : Int := if Fr s b n = 0 then (if (l.length : Int) = Ct s b then (if anyOff n l 0 = true then 5 else 0) else 5) else 2
theorem check_of (s b n : Int) (l : List S44) : sig_Check.f s b n l = some (Ck s b n l) := by
 unfold sig_Check.f Ck
 rw [front_of, Option.bind_some]
 by_cases h : Fr s b n = 0
 ·rw [if_pos h, if_pos h, count_of, Option.bind_some]
  by_cases h2 : (l.length : Int) = Ct s b
  ·rw [if_pos h2, if_pos h2, if_pos (by have := (ct_bounds (fr_ok h).2).2.2.2; omega)]
   by_cases h3 : anyOff n l 0 = true
   ·rw [if_pos h3, if_pos h3]
   ·rw [if_neg h3, if_neg h3]
  ·rw [if_neg h2, if_neg h2]
 ·rw [if_neg h, if_neg h, fr_two h]
theorem ck_ok {s b n : Int} {l : List S44} (h : Ck s b n l = 0) : Fr s b n = 0 ∧ (l.length : Int) = Ct s b ∧ anyOff n l 0 = false := by
 unfold Ck at h
 by_cases h1 : Fr s b n = 0
 ·rw [if_pos h1] at h
  by_cases h2 : (l.length : Int) = Ct s b
  ·rw [if_pos h2] at h
   by_cases h3 : anyOff n l 0 = true
   ·rw [if_pos h3] at h; omega
   ·exact ⟨h1, h2, by simpa using h3⟩
  ·rw [if_neg h2] at h; omega
 ·rw [if_neg h1] at h; omega
theorem ck_mk {s b n : Int} {l : List S44} (h1 : Fr s b n = 0) (h2 : (l.length : Int) = Ct s b) (h3 : ∀ m ∈ l, (m.f1.size : Int) = n) : Ck s b n l = 0 := by
 unfold Ck
 rw [if_pos h1, if_pos h2, if_neg]
 unfold anyOff
 rw [List.drop_zero, Bool.not_eq_true, List.any_eq_false]
 intro m hm
 have := h3 m hm
 simp [this]
theorem any_not {n : Int} {l : List S44} (h : anyOff n l 0 = false) : ∀ m ∈ l, (m.f1.size : Int) = n := by
 intro m hm
 unfold anyOff at h
 rw [List.drop_zero, List.any_eq_false] at h
 have := h m hm
 simpa using this
/-- One round of a rolling sum. -/
def rin (x c : Int) : Int := ((roll_In.f x 0 c).getD 0)
theorem rin_of (x c : Int) : roll_In.f x 0 c = some (rin x c) := rfl
def rollF (l : List Int) : Int := l.foldl rin 0
theorem roll_loop (l : List Int) (hn : l.length ≤ 4000000000000) (d : Nat) : ∀ (i : Nat) (x : Int), i + d = l.length → Ev (fun k => roll_Of.l0 k x l (l.length : Int) (i : Int)) ((l.drop i).foldl rin x) := by
 induction d with
 | zero =>
  intro i x hi
  refine Ev.step (f := fun _ => some x) (fun k => ?_) ?_
  ·simp only [roll_Of.l0]
   rw [if_neg (by omega)]
  ·rw [List.drop_eq_nil_of_le (show l.length ≤ i by omega)]
   exact Ev.now _
 | succ d ih =>
  intro i x hi
  have hlt : i < l.length := by omega
  refine Ev.step (f := fun k => roll_Of.l0 k (rin x (rd l (i : Int))) l (l.length : Int) ((i + 1 : Nat) : Int)) (fun k => ?_) ?_
  ·simp only [roll_Of.l0]
   rw [if_pos (by omega), if_pos (by omega), if_pos (by omega), rin_of, Option.bind_some, inc6 hlt hn]
  ·rw [List.drop_eq_getElem_cons hlt, List.foldl_cons]
   have e : rd l (i : Int) = l[i] := by unfold rd; rw [Int.toNat_natCast, List.getD_eq_getElem?_getD, List.getElem?_eq_getElem hlt]; rfl
   rw [e]
   exact ih (i + 1) _ (by omega)
theorem roll_of (l : List Int) (hn : l.length ≤ 4000000000000) : Ev (fun k => roll_Of.f k l) (rollF l) := roll_loop l hn l.length 0 0 (by omega)
/-- A text's mark. -/
def markF (l : List Int) (n : Int) : S44 := ⟨rollF l, (strOfNums (shaSum l)).extract 0 n.toNat⟩
theorem sum_size (l : List Int) : (strOfNums (shaSum l)).size = 32 := by rw [strOfNums_size, shaSum_len]
theorem mark_size (l : List Int) (n : Int) (h0 : 0 ≤ n) (h1 : n ≤ 32) : ((markF l n).f1.size : Int) = n := by
 unfold markF
 rw [ByteArray.size_extract, sum_size]
 omega
theorem cut_of (l : List Int) (hn : l.length ≤ 1000000000) (n : Int) (h0 : 0 ≤ n) (h1 : n ≤ 32) : sha_Cut.f l n = some ((markF l n).f1, 0) := by
 unfold sha_Cut.f sha_Sum.f
 rw [if_neg (by omega), if_neg (by omega), if_pos (by omega), Option.bind_some, if_pos h0, if_pos (by rw [sum_size]; exact h1)]
 rfl
theorem mark_of (l : List Int) (hn : l.length ≤ 1000000000) (n : Int) (h0 : 0 ≤ n) (h1 : n ≤ 32) : Ev (fun k => sig_mark.f k l n) ((markF l n).f0, (markF l n).f1) := by
 unfold sig_mark.f
 refine Ev.bind (ev_some (cut_of l hn n h0 h1)) (Ev.bind (roll_of l (by omega)) (Ev.now _))
/-- The marks of a text's blocks. -/
def marksF (l : List Int) (B n : Int) (m : Nat) : List S44 := (List.range m).map fun i => markF (cutRow l B i) n
theorem marks_len (l : List Int) (B n : Int) (m : Nat) : (marksF l B n m).length = m := by unfold marksF; rw [List.length_map, List.length_range]
theorem row_len (l : List Int) (B : Int) (i : Nat) : (cutRow l B i).length ≤ l.length := by
 unfold cutRow
 rw [List.length_drop, List.length_take]
 omega
theorem marks_of (l : List Int) (hn : l.length ≤ 1000000000) (B n : Int) (h0 : 0 ≤ n) (h1 : n ≤ 32) : ∀ m : Nat, Ev (fun k => sigMs k l B n m) (marksF l B n m)
 | 0 => Ev.now _
 | m + 1 => by
  refine Ev.bind (marks_of l hn B n h0 h1 m) (Ev.bind (mark_of _ (Nat.le_trans (row_len l B m) hn) n h0 h1) ?_)
  refine ev_some ?_
  unfold marksF
  rw [List.range_succ, List.map_append]
  rfl
/-- A text's signature, or why there is none. -/
def OfB (l : List Int) (b : Int) : Int := if b = 0 then Ln (l.length : Int) else b
def OfOk (b n : Int) : Prop := (1 ≤ n ∧ n ≤ 32) ∧ (b = 0 ∨ (16 ≤ b ∧ b ≤ 4096))
theorem ln_in (s : Int) : 16 ≤ Ln s ∧ Ln s ≤ 4096 := by
 unfold Ln
 repeat' split
 all_goals omega
theorem ofB_in (l : List Int) {b n : Int} (h : OfOk b n) : 16 ≤ OfB l b ∧ OfB l b ≤ 4096 := by
 unfold OfB
 split
 ·exact ln_in _
 ·next h0 => exact h.2.resolve_left h0
theorem of_ok (l : List Int) (hn : l.length ≤ 131072) (b n : Int) (h : OfOk b n) : Ev (fun k => sig_Of.f k l b n) ((l.length : Int), OfB l b, n, marksF l (OfB l b) n (cutNum l (OfB l b)), 0) := by
 unfold sig_Of.f
 refine ev_pos (show (1 ≤ n ∧ n ≤ 32) ∧ (b = 0 ∨ (16 ≤ b ∧ b ≤ 4096)) from h) (ev_pos hn ?_)
 refine Ev.bind (a := OfB l b) ?_ (ev_pos (ofB_in l h) (Ev.bind (marks_of l (by omega) _ n (by have := h.1; omega) h.1.2 _) (Ev.now _)))
 unfold OfB
 by_cases h0 : b = 0
 ·rw [if_pos h0]
  refine ev_pos h0 ⟨9, fun k hk => ?_⟩
  obtain ⟨m, rfl⟩ : ∃ m, k = m + 9 := ⟨k - 9, by omega⟩
  exact length_of _ m
 ·rw [if_neg h0]
  exact ev_neg h0 (Ev.now _)
theorem of_bad (l : List Int) (b n : Int) (h : ¬ OfOk b n) (k : Nat) : sig_Of.f k l b n = some (0, 0, 0, [], 2) := by
 unfold sig_Of.f
 rw [if_neg (show ¬ ((1 ≤ n ∧ n ≤ 32) ∧ (b = 0 ∨ (16 ≤ b ∧ b ≤ 4096))) from h)]
theorem cutNum_ct {l : List Int} (hl : l.length ≤ 131072) {b : Int} (h0 : 16 ≤ b) (h1 : b ≤ 4096) : ((cutNum l b : Nat) : Int) = Ct (l.length : Int) b := by
 have := (cut_facts h0 h1 hl).1
 rw [count_of] at this
 exact (Option.some.inj this).symm
theorem marks_ck (l : List Int) (hl : l.length ≤ 131072) (b n : Int) (h : OfOk b n) : Ck (l.length : Int) (OfB l b) n (marksF l (OfB l b) n (cutNum l (OfB l b))) = 0 := by
 obtain ⟨h0, h1⟩ := ofB_in l h
 refine ck_mk (fr_mk ⟨h.1, rg_mk ⟨by omega, by omega, h0, h1⟩⟩) ?_ ?_
 ·rw [marks_len]
  exact cutNum_ct hl h0 h1
 ·intro m hm
  obtain ⟨i, _, rfl⟩ := List.mem_map.1 hm
  exact mark_size _ n (by have := h.1; omega) h.1.2
/-- The numbers below m for which p holds. -/
def nums (p : Nat → Bool) (m : Nat) : List Int := ((List.range m).filter p).map fun i : Nat => (i : Int)
def wkOf (l : List S44) (i : Nat) : Int := (rd_T44 l (i : Int)).f0
theorem nums_len (p : Nat → Bool) (m : Nat) : (nums p m).length ≤ m := by
 unfold nums
 rw [List.length_map]
 exact Nat.le_trans (List.length_filter_le _ _) (by rw [List.length_range]; exact Nat.le_refl _)
theorem rd_at {L : List Int} {i : Nat} (h : i < L.length) : rd L (i : Int) = L[i] := by
 unfold rd
 rw [Int.toNat_natCast, List.getD_eq_getElem?_getD, List.getElem?_eq_getElem h]
 rfl
theorem ints_loop (L : List Int) (hn : L.length ≤ 4000000000000) (d : Nat) : ∀ i : Nat, i + d = L.length → Ev (fun k => remoralaw07_ints.l0 k L L (i : Int)) true := by
 induction d with
 | zero =>
  intro i hi
  refine Ev.step (f := fun _ => some true) (fun k => ?_) (Ev.now _)
  simp only [remoralaw07_ints.l0]
  rw [if_neg (by omega)]
 | succ d ih =>
  intro i hi
  have hlt : i < L.length := by omega
  refine Ev.step (f := fun k => remoralaw07_ints.l0 k L L ((i + 1 : Nat) : Int)) (fun k => ?_) (ih (i + 1) (by omega))
  simp only [remoralaw07_ints.l0]
  rw [if_pos (by omega), if_pos (by omega), if_pos (by omega), if_pos trivial, inc6 hlt hn]
theorem ints_of (L : List Int) (hn : L.length ≤ 4000000000000) : Ev (fun k => remoralaw07_ints.f k L L) true := by
 unfold remoralaw07_ints.f
 exact ev_pos rfl (ints_loop L hn L.length 0 (by omega))
theorem find_loop (l : List S44) (s b a1 : Int) (ch : List (List Int)) (xs : List Int) (hx : ∀ x ∈ xs, 0 ≤ x ∧ x < (l.length : Int)) (hn : xs.length ≤ 4000000000000) (d : Nat) : ∀ (i : Nat) (acc : List Int), i + d = xs.length → acc.length + d ≤ 4000000000000 →
    Ev (fun k => index_Index_Find.l0 k a1 acc xs (xs.length : Int) (i : Int) l s b ch) (acc ++ (xs.drop i).filter fun x => decide ((rd_T44 l x).f0 = a1)) := by
 induction d with
 | zero =>
  intro i acc hi ha
  rw [List.drop_eq_nil_of_le (by omega), List.filter_nil, List.append_nil]
  refine Ev.step (f := fun _ => some acc) (fun k => ?_) (Ev.now _)
  simp only [index_Index_Find.l0]
  rw [if_neg (by omega)]
 | succ d ih =>
  intro i acc hi ha
  have hlt : i < xs.length := by omega
  have hb := hx xs[i] (List.getElem_mem hlt)
  rw [List.drop_eq_getElem_cons hlt]
  by_cases hw : (rd_T44 l xs[i]).f0 = a1
  ·rw [List.filter_cons_of_pos (by simpa using hw)]
   have h2 := ih (i + 1) (acc ++ [xs[i]]) (by omega) (by rw [List.length_append]; simp only [List.length_cons, List.length_nil]; omega)
   rw [List.append_assoc] at h2
   refine Ev.step (f := fun k => index_Index_Find.l0 k a1 (acc ++ [xs[i]]) xs (xs.length : Int) ((i + 1 : Nat) : Int) l s b ch) (fun k => ?_) h2
   simp only [index_Index_Find.l0]
   rw [rd_at hlt, if_pos (by omega), if_pos (by omega), if_pos (by omega), if_pos hb.1, if_pos hb.2, if_pos hw, if_pos (by omega), inc6 hlt hn]
  ·rw [List.filter_cons_of_neg (by simpa using hw)]
   refine Ev.step (f := fun k => index_Index_Find.l0 k a1 acc xs (xs.length : Int) ((i + 1 : Nat) : Int) l s b ch) (fun k => ?_) (ih (i + 1) acc (by omega) (by omega))
   simp only [index_Index_Find.l0]
   rw [rd_at hlt, if_pos (by omega), if_pos (by omega), if_pos (by omega), if_pos hb.1, if_pos hb.2, if_neg hw, inc6 hlt hn]
theorem chain_mem {hs : List Nat} {m j : Nat} {x : Int} (h : x ∈ ixChain hs m j) : 0 ≤ x ∧ x < (m : Int) := by
 unfold ixChain at h
 obtain ⟨p, hp, rfl⟩ := List.mem_map.1 h
 have := List.mem_range.1 (List.mem_filter.1 hp).1
 omega
theorem chains_len (l : List S44) : (ixChains l).length = ixHeads l.length := by
 unfold ixChains
 rw [List.length_map, List.length_range]
theorem chains_at (l : List S44) {j : Nat} (h : j < ixHeads l.length) : rd_L6 (ixChains l) (j : Int) = ixChain (ixHs l) l.length j := by
 unfold rd_L6 ixChains
 rw [Int.toNat_natCast, List.getD_eq_getElem?_getD, List.getElem?_map, List.getElem?_range h]
 rfl
theorem ixhead_of (l : List S44) (s b a1 : Int) (hl : l.length ≤ 1000000) : index_Index_head.f l s b (ixChains l) a1 = some ((ixHead (ixHeads l.length) a1 : Nat) : Int) ∧ ixHead (ixHeads l.length) a1 < ixHeads l.length := by
 have h := ixHead_eq a1 (ixHeads_pos l.length) (ixHeads_le hl)
 refine ⟨?_, h.2⟩
 rw [← h.1]
 unfold index_Index_head.f ixHeadI
 rw [chains_len]
theorem chain_filter (l : List S44) (a1 : Int) : (ixChain (ixHs l) l.length (ixHead (ixHeads l.length) a1)).filter (fun x => decide ((rd_T44 l x).f0 = a1)) = nums (fun i => decide (wkOf l i = a1)) l.length := by
 unfold ixChain nums
 rw [List.filter_map, List.filter_filter]
 congr 1
 refine List.filter_congr fun p hp => ?_
 have hpl := List.mem_range.1 hp
 show ((decide ((rd_T44 l (p : Int)).f0 = a1)) && _) = decide (wkOf l p = a1)
 unfold wkOf
 by_cases hw : (rd_T44 l (p : Int)).f0 = a1
 ·rw [ixHs_get l p hpl, hw]
  simp
 ·rw [decide_eq_false hw, Bool.false_and]
theorem chain_len (hs : List Nat) (m j : Nat) : (ixChain hs m j).length ≤ m := ixCnt_le hs m j
theorem find_of (l : List S44) (s b a1 : Int) (hl : l.length ≤ 1000000) : Ev (fun k => index_Index_Find.f k l s b (ixChains l) a1) (nums (fun i => decide (wkOf l i = a1)) l.length) := by
 obtain ⟨h1, h2⟩ := ixhead_of l s b a1 hl
 unfold index_Index_Find.f
 rw [h1]
 refine Ev.bind (ev_some rfl) (ev_pos (by omega) (ev_pos (by rw [chains_len]; omega) ?_))
 rw [chains_at l h2]
 have h3 := find_loop l s b a1 (ixChains l) (ixChain (ixHs l) l.length (ixHead (ixHeads l.length) a1)) (fun x hx => chain_mem hx) (by have := chain_len (ixHs l) l.length (ixHead (ixHeads l.length) a1); omega) _ 0 [] (Nat.zero_add _) (by have := chain_len (ixHs l) l.length (ixHead (ixHeads l.length) a1); simp only [List.length_nil]; omega)
 rw [List.drop_zero, List.nil_append, chain_filter] at h3
 exact h3
/-- One more than the greatest number of a list, 0 of none. -/
def mxl (L : List Nat) : Nat := L.foldl (fun a x => max a (x + 1)) 0
theorem mxl_snoc (L : List Nat) (c : Nat) : mxl (L ++ [c]) = max (mxl L) (c + 1) := by
 unfold mxl
 rw [List.foldl_append]
 rfl
theorem foldl_ge (L : List Nat) : ∀ a : Nat, a ≤ L.foldl (fun a x => max a (x + 1)) a := by
 induction L with
 | nil => intro a; exact Nat.le_refl _
 | cons x L ih => intro a; exact Nat.le_trans (Nat.le_max_left _ _) (ih (max a (x + 1)))
theorem foldl_mem (L : List Nat) : ∀ (a x : Nat), x ∈ L → x + 1 ≤ L.foldl (fun a x => max a (x + 1)) a := by
 induction L with
 | nil => intro a x h; cases h
 | cons y L ih =>
  intro a x h
  rcases List.mem_cons.1 h with h | h
  ·subst h
   exact Nat.le_trans (Nat.le_max_right _ _) (foldl_ge L (max a (x + 1)))
  ·exact ih _ x h
theorem foldl_le (L : List Nat) (v : Nat) (h : ∀ x ∈ L, x + 1 ≤ v) : ∀ a : Nat, a ≤ v → L.foldl (fun a x => max a (x + 1)) a ≤ v := by
 induction L with
 | nil => intro a ha; exact ha
 | cons y L ih =>
  intro a ha
  exact ih (fun x hx => h x (List.mem_cons_of_mem _ hx)) _ (Nat.max_le.2 ⟨ha, h y List.mem_cons_self⟩)
theorem mxl_mem {L : List Nat} {x : Nat} (h : x ∈ L) : x + 1 ≤ mxl L := foldl_mem L 0 x h
theorem mxl_eq {L : List Nat} {v : Nat} (h : ∀ x ∈ L, x ≤ v) (hv : v ∈ L) : mxl L = v + 1 :=
 Nat.le_antisymm (foldl_le L (v + 1) (fun x hx => Nat.succ_le_succ (h x hx)) 0 (Nat.zero_le _)) (mxl_mem hv)
theorem mxl_le {L : List Nat} {v : Nat} (h : ∀ x ∈ L, x ≤ v) : mxl L ≤ v + 1 := foldl_le L (v + 1) (fun x hx => Nat.succ_le_succ (h x hx)) 0 (Nat.zero_le _)
theorem count_big {L : List Nat} {v : Nat} (h : mxl L ≤ v) : L.count v = 0 := List.count_eq_zero_of_not_mem (fun hm => by have := mxl_mem hm; omega)
/-- How many heads have how many. -/
def hist (L : List Nat) (n : Nat) : List Int := (List.range n).map fun v => ((L.count v : Nat) : Int)
theorem hist_len (L : List Nat) (n : Nat) : (hist L n).length = n := by unfold hist; rw [List.length_map, List.length_range]
theorem hist_more (L : List Nat) (n : Nat) (h : mxl L ≤ n) : hist L n ++ [0] = hist L (n + 1) := by
 unfold hist
 rw [List.range_succ, List.map_append, List.map_cons, List.map_nil, count_big h]
 rfl
theorem hist_at (L : List Nat) {n v : Nat} (h : v < n) : rd (hist L n) (v : Int) = ((L.count v : Nat) : Int) := by
 rw [rd_at (by rw [hist_len]; exact h)]
 unfold hist
 rw [List.getElem_map, List.getElem_range]
theorem hist_set (L : List Nat) {n c : Nat} (h : c < n) : (hist L n).set c (((L.count c : Nat) : Int) + 1) = hist (L ++ [c]) n := by
 apply List.ext_getElem?
 intro v
 rw [List.getElem?_set, hist_len]
 by_cases hv : v < n
 ·have e1 : (hist L n)[v]? = some ((L.count v : Nat) : Int) := by unfold hist; rw [List.getElem?_map, List.getElem?_range hv]; rfl
  have e2 : (hist (L ++ [c]) n)[v]? = some (((L ++ [c]).count v : Nat) : Int) := by unfold hist; rw [List.getElem?_map, List.getElem?_range hv]; rfl
  rw [e1, e2, List.count_append]
  by_cases e : c = v
  ·subst e
   rw [if_pos rfl, if_pos h]
   simp
  ·rw [if_neg e, List.count_cons_of_ne e]
   simp
 ·have e2 : (hist (L ++ [c]) n)[v]? = none := by rw [List.getElem?_eq_none_iff, hist_len]; omega
  rw [e2, if_neg (by omega), List.getElem?_eq_none_iff, hist_len]
  omega
theorem count_le (L : List Nat) (v : Nat) : L.count v ≤ L.length := List.count_le_length
theorem loads_l1 (L : List Nat) (xs : List Int) (ch : List (List Int)) (x12 : Int) (i : Int) (hL : L.length ≤ 4000000000000) (hx : xs.length ≤ 4000000000000) (r : List Int) (d : Nat) : ∀ n : Nat, mxl L ≤ n → xs.length + 1 - n = d → n ≤ 4000000000001 →
    Ev (fun k => index_Index_Loads.l0 k (hist (L ++ [xs.length]) (max n (xs.length + 1))) ch x12 (wrap64 (i + 1))) r → Ev (fun k => index_Index_Loads.l1 k (hist L n) xs ch x12 i) r := by
 induction d with
 | zero =>
  intro n hm hd hn h
  have hlt : xs.length < n := by omega
  rw [Nat.max_eq_left (by omega)] at h
  refine Ev.step (f := fun k => index_Index_Loads.l0 k (hist (L ++ [xs.length]) n) ch x12 (wrap64 (i + 1))) (fun k => ?_) h
  simp only [index_Index_Loads.l1]
  rw [if_neg (by rw [hist_len]; omega), if_pos (by omega), if_pos (by rw [hist_len]; omega), hist_at L hlt, w64 _ (by omega) (by have := count_le L xs.length; omega), Int.toNat_natCast, hist_set L hlt]
 | succ d ih =>
  intro n hm hd hn h
  refine Ev.step (f := fun k => index_Index_Loads.l1 k (hist L (n + 1)) xs ch x12 i) (fun k => ?_) (ih (n + 1) (by omega) (by omega) (by omega) ?_)
  ·simp only [index_Index_Loads.l1]
   rw [if_pos (by rw [hist_len]; omega), if_pos (by rw [hist_len]; omega), hist_more L n hm]
  ·rw [show max (n + 1) (xs.length + 1) = max n (xs.length + 1) by omega]
   exact h
theorem rd_L6_at {ch : List (List Int)} {i : Nat} (h : i < ch.length) : rd_L6 ch (i : Int) = ch[i] := by
 unfold rd_L6
 rw [Int.toNat_natCast, List.getD_eq_getElem?_getD, List.getElem?_eq_getElem h]
 rfl
theorem loads_loop (ch : List (List Int)) (hc : ch.length ≤ 4000000000000) (hx : ∀ xs ∈ ch, xs.length ≤ 1000000) (d : Nat) : ∀ i : Nat, i + d = ch.length →
    Ev (fun k => index_Index_Loads.l0 k (hist ((ch.take i).map List.length) (mxl ((ch.take i).map List.length))) ch (ch.length : Int) (i : Int)) (hist (ch.map List.length) (mxl (ch.map List.length))) := by
 induction d with
 | zero =>
  intro i hi
  obtain rfl : i = ch.length := by omega
  rw [List.take_length]
  refine Ev.step (f := fun _ => some (hist (ch.map List.length) (mxl (ch.map List.length)))) (fun k => ?_) (Ev.now _)
  simp only [index_Index_Loads.l0]
  rw [if_neg (by omega)]
 | succ d ih =>
  intro i hi
  have hlt : i < ch.length := by omega
  have hxi := hx ch[i] (List.getElem_mem hlt)
  have hm : mxl ((ch.take i).map List.length) ≤ 1000001 := mxl_le (fun x hx2 => by
   obtain ⟨xs, hxs, rfl⟩ := List.mem_map.1 hx2
   exact hx xs (List.mem_of_mem_take hxs))
  have hL : ((ch.take i).map List.length).length ≤ 4000000000000 := by rw [List.length_map, List.length_take]; omega
  refine Ev.step (f := fun k => index_Index_Loads.l1 k (hist ((ch.take i).map List.length) (mxl ((ch.take i).map List.length))) ch[i] ch (ch.length : Int) (i : Int)) (fun k => ?_) ?_
  ·simp only [index_Index_Loads.l0]
   rw [if_pos (by omega), if_pos (by omega), if_pos (by omega), rd_L6_at hlt]
  ·refine loads_l1 _ ch[i] ch _ (i : Int) hL (by omega) _ _ _ (Nat.le_refl _) rfl (by omega) ?_
   have h2 := ih (i + 1) (by omega)
   rw [List.take_add_one, List.getElem?_eq_getElem hlt, Option.toList_some, List.map_append, List.map_cons, List.map_nil, mxl_snoc] at h2
   rw [inc6 hlt hc]
   exact h2
def lensOf (l : List S44) : List Nat := (List.range (ixHeads l.length)).map fun j => ixCnt (ixHs l) l.length j
theorem lens_of (l : List S44) : (ixChains l).map List.length = lensOf l := by
 unfold ixChains lensOf
 rw [List.map_map]
 rfl
theorem loads_of (l : List S44) (s b : Int) (hl : l.length ≤ 1000000) : Ev (fun k => index_Index_Loads.f k l s b (ixChains l)) (hist (lensOf l) (mxl (lensOf l))) := by
 have h := loads_loop (ixChains l) (by rw [chains_len]; have := ixHeads_le hl; omega) (fun xs hxs => by
  unfold ixChains at hxs
  obtain ⟨j, _, rfl⟩ := List.mem_map.1 hxs
  exact Nat.le_trans (chain_len _ _ _) hl) (ixChains l).length 0 (Nat.zero_add _)
 rw [List.take_zero, lens_of] at h
 exact h
/-- How long the block i is. -/
def lenAt (s b : Int) (i : Nat) : Int := mn s (((i : Int) + 1) * b) - (i : Int) * b
def hasV (l : List S44) (s b w : Int) (st : ByteArray) (n : Int) (i : Nat) : Bool := (decide (lenAt s b i = n) && decide (wkOf l i = w)) && ((rd_T44 l (i : Int)).f1.toList == st.toList)
theorem lenAt_in {s b : Int} {i : Nat} (h : (i : Int) < Ct s b) : wrap64 (mn s (((i : Int) + 1) * b) - (i : Int) * b) = lenAt s b i := by
 have hr := ct_right (by omega) h
 obtain ⟨h1, h2, h3, h4⟩ := rg_true hr
 have hb := (ct_bounds hr).2.2.2
 have m1 := mul_bounds (i := (i : Int)) (b := b) (by omega) (by omega) h3 h4
 have m2 := mul_bounds (i := (i : Int) + 1) (b := b) (by omega) (by omega) h3 h4
 unfold lenAt mn
 split <;> exact w64 _ (by omega) (by omega)
theorem has_of (l : List S44) (s b : Int) (ch : List (List Int)) (w : Int) (st : ByteArray) (n : Int) (hl : (l.length : Int) = Ct s b) {i : Nat} (hi : i < l.length) : index_Index_has.f l s b ch (i : Int) w st n = some (hasV l s b w st n i) := by
 unfold index_Index_has.f
 rw [range_yes (by omega) (by omega), Option.bind_some, if_pos rfl, lenAt_in (by omega)]
 unfold hasV
 by_cases h1 : lenAt s b i = n
 ·rw [if_pos h1, if_pos (by omega), if_pos (by omega), decide_eq_true h1, Bool.true_and]
  by_cases h2 : wkOf l i = w
  ·rw [if_pos (show (rd_T44 l (i : Int)).f0 = w from h2), decide_eq_true h2, Bool.true_and]
  ·rw [if_neg (show ¬ (rd_T44 l (i : Int)).f0 = w from h2), decide_eq_false h2, Bool.false_and]
 ·rw [if_neg h1, decide_eq_false h1, Bool.false_and, Bool.false_and]
/-- The first of some numbers, and whether there is one. -/
def fst0 : List Int → Int × Bool
 | [] => (0, false)
 | x :: _ => (x, true)
theorem pick_loop (l : List S44) (s b w : Int) (st : ByteArray) (n : Int) (hl : (l.length : Int) = Ct s b) (ch : List (List Int)) (xs : List Int) (hx : ∀ x ∈ xs, 0 ≤ x ∧ x < (l.length : Int)) (hn : xs.length ≤ 4000000000000) (d : Nat) : ∀ i : Nat, i + d = xs.length →
    Ev (fun k => index_Index_Pick.l0 k w st n xs (xs.length : Int) (i : Int) l s b ch) (fst0 ((xs.drop i).filter fun x => hasV l s b w st n x.toNat)) := by
 induction d with
 | zero =>
  intro i hi
  rw [List.drop_eq_nil_of_le (by omega)]
  refine Ev.step (f := fun _ => some (0, false)) (fun k => ?_) (Ev.now _)
  simp only [index_Index_Pick.l0]
  rw [if_neg (by omega)]
 | succ d ih =>
  intro i hi
  have hlt : i < xs.length := by omega
  have hb := hx xs[i] (List.getElem_mem hlt)
  obtain ⟨p, hp⟩ : ∃ p : Nat, xs[i] = (p : Int) := ⟨xs[i].toNat, by omega⟩
  have hh := has_of l s b ch w st n hl (i := p) (by omega)
  rw [List.drop_eq_getElem_cons hlt, hp]
  by_cases hv : hasV l s b w st n p = true
  ·rw [List.filter_cons_of_pos (by rw [Int.toNat_natCast]; exact hv)]
   refine Ev.step (f := fun _ => some ((p : Int), true)) (fun k => ?_) (Ev.now _)
   simp only [index_Index_Pick.l0]
   rw [rd_at hlt, hp, if_pos (by omega), if_pos (by omega), if_pos (by omega), hh, Option.bind_some, if_pos hv]
  ·rw [List.filter_cons_of_neg (by rw [Int.toNat_natCast]; exact hv)]
   refine Ev.step (f := fun k => index_Index_Pick.l0 k w st n xs (xs.length : Int) ((i + 1 : Nat) : Int) l s b ch) (fun k => ?_) (ih (i + 1) (by omega))
   simp only [index_Index_Pick.l0]
   rw [rd_at hlt, hp, if_pos (by omega), if_pos (by omega), if_pos (by omega), hh, Option.bind_some, if_neg hv, inc6 hlt hn]
theorem chain_has (l : List S44) (s b w : Int) (st : ByteArray) (n : Int) : (ixChain (ixHs l) l.length (ixHead (ixHeads l.length) w)).filter (fun x => hasV l s b w st n x.toNat) = nums (hasV l s b w st n) l.length := by
 unfold ixChain nums
 rw [List.filter_map, List.filter_filter]
 congr 1
 refine List.filter_congr fun p hp => ?_
 have hpl := List.mem_range.1 hp
 show (hasV l s b w st n (p : Int).toNat && _) = _
 rw [Int.toNat_natCast]
 by_cases hv : hasV l s b w st n p = true
 ·have hw : wkOf l p = w := by
    unfold hasV at hv
    simp only [Bool.and_eq_true, decide_eq_true_eq] at hv
    exact hv.1.2
  rw [hv, Bool.true_and, ixHs_get l p hpl, show (rd_T44 l (p : Int)).f0 = w from hw]
  simp
 ·rw [Bool.eq_false_iff.2 hv, Bool.false_and]
/-- What is picked. -/
def pkV (l : List S44) (s b w : Int) (st : ByteArray) (n want : Int) : Int × Bool :=
 if 0 ≤ want ∧ want < (l.length : Int) ∧ hasV l s b w st n want.toNat = true then (want, true) else fst0 (nums (hasV l s b w st n) l.length)
theorem pick_of (l : List S44) (s b : Int) (hl : (l.length : Int) = Ct s b) (h8 : l.length ≤ 1000000) (w : Int) (st : ByteArray) (n want : Int) : Ev (fun k => index_Index_Pick.f k l s b (ixChains l) w st n want) (pkV l s b w st n want) := by
 obtain ⟨h1, h2⟩ := ixhead_of l s b w h8
 have hj : Ev (fun k => index_Index_Pick.j0 k w st n want false l s b (ixChains l)) (fst0 (nums (hasV l s b w st n) l.length)) := by
  have h3 := pick_loop l s b w st n hl (ixChains l) (ixChain (ixHs l) l.length (ixHead (ixHeads l.length) w)) (fun x hx => chain_mem hx) (by have := chain_len (ixHs l) l.length (ixHead (ixHeads l.length) w); omega) _ 0 (Nat.zero_add _)
  rw [List.drop_zero, chain_has] at h3
  refine Ev.step (f := fun k => index_Index_Pick.l0 k w st n (ixChain (ixHs l) l.length (ixHead (ixHeads l.length) w)) ((ixChain (ixHs l) l.length (ixHead (ixHeads l.length) w)).length : Int) 0 l s b (ixChains l)) (fun k => ?_) h3
  simp only [index_Index_Pick.j0]
  rw [if_neg (by decide), h1, Option.bind_some, if_pos (by omega), if_pos (by rw [chains_len]; omega), chains_at l h2]
 unfold index_Index_Pick.f pkV
 by_cases ha : want ≥ 0
 ·refine ev_pos ha ?_
  by_cases hb : want < (l.length : Int)
  ·refine ev_pos hb ?_
   obtain ⟨p, rfl⟩ : ∃ p : Nat, want = (p : Int) := ⟨want.toNat, by omega⟩
   refine Ev.bind (ev_some (has_of l s b (ixChains l) w st n hl (i := p) (by omega))) ?_
   rw [Int.toNat_natCast]
   by_cases hv : hasV l s b w st n p = true
   ·rw [hv, if_pos ⟨ha, hb, rfl⟩]
    refine Ev.step (f := fun _ => some ((p : Int), true)) (fun k => ?_) (Ev.now _)
    simp only [index_Index_Pick.j0]
    rw [if_pos trivial]
   ·rw [if_neg (fun h => hv h.2.2), Bool.eq_false_iff.2 hv]
    exact hj
  ·rw [if_neg (fun h => hb h.2.1)]
   exact ev_neg hb hj
 ·rw [if_neg (fun h => ha h.1)]
  exact ev_neg ha hj
theorem nums_none {p : Nat → Bool} {m : Nat} (h : ∀ i, i < m → p i = false) : nums p m = [] := by
 unfold nums
 rw [List.filter_eq_nil_iff.2 (fun i hi => by rw [h i (List.mem_range.1 hi)]; decide)]
 rfl
theorem pk_none {l : List S44} {s b w : Int} {st : ByteArray} {n : Int} (want : Int) (h : ∀ i, i < l.length → hasV l s b w st n i = false) : pkV l s b w st n want = (0, false) := by
 unfold pkV
 rw [nums_none h, if_neg (fun hh => ?_)]
 ·rfl
 ·have := h want.toNat (by omega)
  rw [hh.2.2] at this
  cases this
theorem aw_marks : marksF (List.replicate 48 0) (OfB (List.replicate 48 0) 16) 4 (cutNum (List.replicate 48 0) (OfB (List.replicate 48 0) 16)) = List.replicate 3 (markF (List.replicate 16 0) 4) := by
 rw [show OfB (List.replicate 48 0) 16 = 16 from rfl, show cutNum (List.replicate 48 (0 : Int)) 16 = 3 by decide]
 show [markF (cutRow (List.replicate 48 0) 16 0) 4, markF (cutRow (List.replicate 48 0) 16 1) 4, markF (cutRow (List.replicate 48 0) 16 2) 4] = [markF (List.replicate 16 0) 4, markF (List.replicate 16 0) 4, markF (List.replicate 16 0) 4]
 rw [show cutRow (List.replicate 48 0) 16 0 = List.replicate 16 0 by unfold cutRow wrap64; decide, show cutRow (List.replicate 48 0) 16 1 = List.replicate 16 0 by unfold cutRow wrap64; decide, show cutRow (List.replicate 48 0) 16 2 = List.replicate 16 0 by unfold cutRow wrap64; decide]
theorem aw_loads : ∀ j0, j0 < 4 → hist ((List.range 4).map fun j => ixCnt (List.replicate 3 j0) 3 j) (mxl ((List.range 4).map fun j => ixCnt (List.replicate 3 j0) 3 j)) = [3, 0, 0, 1] := by decide
theorem awake7 : Ev (fun k => remoralaw07_awake.f k) true := by
 have o1 : OfOk 16 4 := by unfold OfOk; omega
 have h1 := of_ok (List.replicate 48 0) (by decide) 16 4 o1
 have hc := marks_ck (List.replicate 48 0) (by decide) 16 4 o1
 rw [aw_marks] at h1 hc
 rw [show OfB (List.replicate 48 0) 16 = 16 from rfl, show ((List.replicate 48 (0 : Int)).length : Int) = 48 from rfl] at h1 hc
 obtain ⟨mk, hmk⟩ : ∃ mk, mk = markF (List.replicate 16 0) 4 := ⟨_, rfl⟩
 rw [← hmk] at h1 hc
 clear hmk
 have hr0 : rd_T44 (List.replicate 3 mk) 0 = mk := rfl
 have hr1 : rd_T44 (List.replicate 3 mk) 1 = mk := rfl
 have hj := (ixHead_eq mk.f0 (ixHeads_pos 3) (ixHeads_le (by decide))).2
 rw [show ixHeads 3 = 4 by decide] at hj
 have hhs : ixHs (List.replicate 3 mk) = List.replicate 3 (ixHead 4 mk.f0) := rfl
 have hp : Ev (fun k => index_Index_Pick.f k (List.replicate 3 mk) 48 16 (ixChains (List.replicate 3 mk)) mk.f0 mk.f1 16 1) (1, true) := by
  refine ⟨1, fun k hk => ?_⟩
  obtain ⟨m, rfl⟩ : ∃ m, k = m + 1 := ⟨k - 1, by omega⟩
  have hh : index_Index_has.f (List.replicate 3 mk) 48 16 (ixChains (List.replicate 3 mk)) 1 mk.f0 mk.f1 16 = some true := by
   unfold index_Index_has.f
   rw [show blocks_Range.f 48 16 1 = some (16, 32, true) by rw [range_yes (by decide) (by decide)]; rfl, Option.bind_some, if_pos rfl, if_pos (by unfold wrap64; decide), if_pos (by decide), if_pos (by rw [List.length_replicate]; decide), hr1, if_pos rfl, beq_self_eq_true]
  show index_Index_Pick.f (m + 1) (List.replicate 3 mk) 48 16 (ixChains (List.replicate 3 mk)) mk.f0 mk.f1 16 1 = some (1, true)
  unfold index_Index_Pick.f
  rw [if_pos (by decide), if_pos (by rw [List.length_replicate]; decide), hh, Option.bind_some]
  simp only [index_Index_Pick.j0]
  rw [if_pos trivial]
 have hf := find_of (List.replicate 3 mk) 48 16 mk.f0 (by rw [List.length_replicate]; decide)
 have en : nums (fun i => decide (wkOf (List.replicate 3 mk) i = mk.f0)) (List.replicate 3 mk).length = [0, 1, 2] := by
  rw [List.length_replicate]
  unfold nums
  rw [List.filter_eq_self.2 (fun p hp => ?_)]
  ·rfl
  ·have hp3 := List.mem_range.1 hp
   have : wkOf (List.replicate 3 mk) p = mk.f0 := by
    unfold wkOf rd_T44
    rw [Int.toNat_natCast, List.getD_eq_getElem?_getD, List.getElem?_replicate, if_pos hp3]
    rfl
   rw [this, decide_eq_true rfl]
 rw [en] at hf
 have hl := loads_of (List.replicate 3 mk) 48 16 (by rw [List.length_replicate]; decide)
 have el : hist (lensOf (List.replicate 3 mk)) (mxl (lensOf (List.replicate 3 mk))) = [3, 0, 0, 1] := by
  have e2 : lensOf (List.replicate 3 mk) = (List.range 4).map fun j => ixCnt (List.replicate 3 (ixHead 4 mk.f0)) 3 j := by
   unfold lensOf
   rw [hhs, List.length_replicate, show ixHeads 3 = 4 by decide]
  rw [e2]
  exact aw_loads _ hj
 rw [el] at hl
 unfold remoralaw07_awake.f
 refine Ev.bind h1 (ev_pos ⟨rfl, by rw [List.length_replicate]⟩ (Ev.bind (ev_some (check_of 48 16 4 (List.replicate 3 mk))) (ev_pos hc (Ev.bind hp (ev_pos rfl (Ev.bind hf (Ev.bind (ints_of [0, 1, 2] (by decide)) (ev_pos rfl (Ev.bind hl (Ev.bind (ints_of [3, 0, 0, 1] (by decide)) (ev_pos rfl (Ev.now _))))))))))))
theorem nums_mem (p : Nat → Bool) (m : Nat) (x : Int) : x ∈ nums p m ↔ 0 ≤ x ∧ x < (m : Int) ∧ p x.toNat = true := by
 unfold nums
 rw [List.mem_map]
 constructor
 ·rintro ⟨i, hi, rfl⟩
  obtain ⟨h1, h2⟩ := List.mem_filter.1 hi
  have := List.mem_range.1 h1
  rw [Int.toNat_natCast]
  exact ⟨by omega, by omega, h2⟩
 ·rintro ⟨h0, h1, h2⟩
  exact ⟨x.toNat, List.mem_filter.2 ⟨List.mem_range.2 (by omega), h2⟩, by omega⟩
theorem nums_sorted (p : Nat → Bool) (m : Nat) : (nums p m).Pairwise (· < ·) := by
 unfold nums
 rw [List.pairwise_map]
 refine (List.Pairwise.filter _ ?_)
 exact List.pairwise_lt_range.imp (fun h => by omega)
theorem nums_next (p : Nat → Bool) (m : Nat) {j : Nat} (h0 : 0 < j) (h : j < (nums p m).length) : rd (nums p m) ((j : Int) - 1) < rd (nums p m) (j : Int) := by
 have h1 := List.pairwise_iff_getElem.1 (nums_sorted p m) (j - 1) j (by omega) h (by omega)
 rw [rd_at h, show (j : Int) - 1 = ((j - 1 : Nat) : Int) by omega, rd_at (show j - 1 < (nums p m).length by omega)]
 exact h1
theorem fst0_mem {L : List Int} {x : Int} (hs : L.Pairwise (· < ·)) (h : x ∈ L) : (fst0 L).2 = true ∧ (fst0 L).1 ∈ L ∧ (fst0 L).1 ≤ x := by
 cases L with
 | nil => cases h
 | cons y L =>
  refine ⟨rfl, List.mem_cons_self, ?_⟩
  show y ≤ x
  rcases List.mem_cons.1 h with h | h
  ·omega
  ·have := (List.pairwise_cons.1 hs).1 x h
   omega
theorem IndexOwn : remoralaw07_IndexOwn.Pure := by
 intro l0 a1 a2 hl0 _ ha1 ha2
 have h16 : ∀ {z : Int}, (Lit.int .u16 z).wf = true → 0 ≤ z ∧ z < 65536 := fun {z} h => by
  have e0 : IntKind.u16.min = 0 := by decide
  have e1 : IntKind.u16.max = 65535 := by decide
  simp [Lit.wf, e0, e1] at h
  omega
 have r1 := h16 ha1
 have r2 := h16 ha2
 refine Ev.rounds ?_
 unfold remoralaw07_IndexOwn.f
 refine ev_pos ⟨r1.1, r1.2, r2.1, r2.2⟩ ?_
 by_cases hg : l0.length > 3000
 ·exact ev_pos hg awake7
 ·refine ev_neg hg ?_
  have o1 : OfOk (16 + a1 % 100) (1 + a1 % 8) := by unfold OfOk; omega
  have h1 := of_ok l0 (by omega) (16 + a1 % 100) (1 + a1 % 8) o1
  have hc := marks_ck l0 (by omega) (16 + a1 % 100) (1 + a1 % 8) o1
  rw [show OfB l0 (16 + a1 % 100) = 16 + a1 % 100 by unfold OfB; rw [if_neg (by omega)]] at h1 hc
  obtain ⟨b, hb⟩ : ∃ b, b = 16 + a1 % 100 := ⟨_, rfl⟩
  obtain ⟨n, hn⟩ : ∃ n, n = 1 + a1 % 8 := ⟨_, rfl⟩
  rw [← hb, ← hn] at h1 hc
  rw [← hb, ← hn]
  obtain ⟨l, hl⟩ : ∃ l, l = marksF l0 b n (cutNum l0 b) := ⟨_, rfl⟩
  rw [← hl] at h1 hc
  clear hl
  have hk := ck_ok hc
  have hct := hk.2.1
  have h8 : l.length ≤ 1000000 := by have := (ct_bounds (fr_ok hk.1).2).2.2.2; omega
  refine Ev.bind h1 (ev_pos ⟨rfl, h8⟩ (Ev.bind (ev_some (check_of (l0.length : Int) b n l)) (Ev.bind (ev_some (count_of (l0.length : Int) b)) (ev_pos ⟨hc, hct.symm⟩ ?_))))
  by_cases h0 : l.length = 0
  ·have hf := find_of l (l0.length : Int) b 0 h8
   rw [h0, show nums (fun i => decide (wkOf l i = 0)) 0 = [] from rfl] at hf
   exact ev_pos h0 (Ev.bind hf (ev_pos rfl awake7))
  ·refine ev_neg h0 ?_
   show Ev (fun k => (blocks_Range.f (l0.length : Int) b ((a2.toNat % l.length : Nat) : Int)).bind _) true
   obtain ⟨K, hK⟩ : ∃ K : Nat, K = a2.toNat % l.length := ⟨_, rfl⟩
   have hKm : K < l.length := by rw [hK]; exact Nat.mod_lt _ (by omega)
   simp only [← hK]
   clear hK
   obtain ⟨s, hs⟩ : ∃ s : Int, s = (l0.length : Int) := ⟨_, rfl⟩
   rw [← hs] at hct ⊢
   have hr := range_yes (s := s) (b := b) (i := (K : Int)) (by omega) (by omega)
   have hlK := lenAt_in (s := s) (b := b) (i := K) (by omega)
   have hp1 := pick_of l s b hct h8 (rd_T44 l (K : Int)).f0 (rd_T44 l (K : Int)).f1 (wrap64 (mn s (((K : Int) + 1) * b) - (K : Int) * b)) (K : Int)
   have hp2 := pick_of l s b hct h8 (rd_T44 l (K : Int)).f0 (rd_T44 l (K : Int)).f1 (wrap64 (mn s (((K : Int) + 1) * b) - (K : Int) * b)) (-1)
   have hvK : hasV l s b (rd_T44 l (K : Int)).f0 (rd_T44 l (K : Int)).f1 (wrap64 (mn s (((K : Int) + 1) * b) - (K : Int) * b)) K = true := by
    unfold hasV
    rw [hlK, decide_eq_true rfl, decide_eq_true (show wkOf l K = (rd_T44 l (K : Int)).f0 from rfl), beq_self_eq_true]
    rfl
   have hKn := (nums_mem (hasV l s b (rd_T44 l (K : Int)).f0 (rd_T44 l (K : Int)).f1 (wrap64 (mn s (((K : Int) + 1) * b) - (K : Int) * b))) l.length (K : Int)).2 ⟨by omega, by omega, by rw [Int.toNat_natCast]; exact hvK⟩
   obtain ⟨f2, fm, fle⟩ := fst0_mem (nums_sorted _ _) hKn
   have e1 : pkV l s b (rd_T44 l (K : Int)).f0 (rd_T44 l (K : Int)).f1 (wrap64 (mn s (((K : Int) + 1) * b) - (K : Int) * b)) (K : Int) = ((K : Int), true) := by
    unfold pkV
    rw [if_pos ⟨by omega, by omega, by rw [Int.toNat_natCast]; exact hvK⟩]
   have e2 : pkV l s b (rd_T44 l (K : Int)).f0 (rd_T44 l (K : Int)).f1 (wrap64 (mn s (((K : Int) + 1) * b) - (K : Int) * b)) (-1) = fst0 (nums (hasV l s b (rd_T44 l (K : Int)).f0 (rd_T44 l (K : Int)).f1 (wrap64 (mn s (((K : Int) + 1) * b) - (K : Int) * b))) l.length) := by
    unfold pkV
    rw [if_neg (fun h => absurd h.1 (by decide))]
   rw [e1] at hp1
   rw [e2] at hp2
   obtain ⟨y, hy⟩ : ∃ y, y = fst0 (nums (hasV l s b (rd_T44 l (K : Int)).f0 (rd_T44 l (K : Int)).f1 (wrap64 (mn s (((K : Int) + 1) * b) - (K : Int) * b))) l.length) := ⟨_, rfl⟩
   rw [← hy] at hp2 f2 fm fle
   obtain ⟨g0, g1, g2⟩ := (nums_mem _ _ _).1 fm
   obtain ⟨any, hany⟩ : ∃ any : Nat, y.1 = (any : Int) := ⟨y.1.toNat, by omega⟩
   rw [hany, Int.toNat_natCast] at g2
   rw [hany] at g0 g1 fle
   unfold hasV at g2
   simp only [Bool.and_eq_true, decide_eq_true_eq, beq_iff_eq] at g2
   have hr2 := range_yes (s := s) (b := b) (i := (any : Int)) (by omega) (by omega)
   have hlA := lenAt_in (s := s) (b := b) (i := any) (by omega)
   have hfd := find_of l s b (rd_T44 l (K : Int)).f0 h8
   have hown : ownL l (nums (fun i => decide (wkOf l i = (rd_T44 l (K : Int)).f0)) l.length) K = true := by
    unfold ownL
    rw [Bool.and_eq_true]
    refine ⟨decide_eq_true (fun j hj => ?_), ?_⟩
    ·have hm := (nums_mem (fun i => decide (wkOf l i = (rd_T44 l (K : Int)).f0)) l.length _).1 (show rd (nums (fun i => decide (wkOf l i = (rd_T44 l (K : Int)).f0)) l.length) (j : Int) ∈ _ by rw [rd_at hj]; exact List.getElem_mem hj)
     refine ⟨hm.1, hm.2.1, ?_, fun hj0 => nums_next _ _ hj0 hj⟩
     have h3 : ∀ x : Int, 0 ≤ x → wkOf l x.toNat = (rd_T44 l (K : Int)).f0 → (rd_T44 l x).f0 = (rd_T44 l (K : Int)).f0 := fun x hx h => by
      unfold wkOf at h
      rwa [Int.toNat_of_nonneg hx] at h
     exact h3 _ hm.1 (of_decide_eq_true hm.2.2)
    ·rw [List.any_eq_true]
     exact ⟨(K : Int), (nums_mem _ _ _).2 ⟨by omega, by omega, by rw [Int.toNat_natCast]; exact decide_eq_true rfl⟩, by simp⟩
   refine Ev.bind (ev_some hr) (Ev.bind hfd (Ev.bind hp1 (Ev.bind hp2 (Ev.bind (a := ((any : Int) * b, mn s (((any : Int) + 1) * b), true)) (ev_some (by rw [hany]; exact hr2)) (ev_pos ⟨by have := nums_len (fun i => decide (wkOf l i = (rd_T44 l (K : Int)).f0)) l.length; omega, hown, rfl, f2, by rw [hany]; omega, by rw [hany]; omega, ?_, ?_, ?_⟩ awake7)))))
   ·rw [hany]; exact g2.1.2
   ·rw [hany]
    have h4 := g2.2
    rw [ByteArray.toList_eq, ByteArray.toList_eq] at h4
    exact ByteArray.ext (Array.ext' h4)
   ·show wrap64 (mn s (((any : Int) + 1) * b) - (any : Int) * b) = wrap64 (mn s (((K : Int) + 1) * b) - (K : Int) * b)
    rw [hlA]
    exact g2.1.1

end Go.Proofs.Ytlndkemblbbfaaa.Pure
