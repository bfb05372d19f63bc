/- What is told and what is copied is the text, together; ops that are found are put together already, and each copy begins where a block does. Conditions: none. -/
import Derived.Test.YtkihlcmjjoiccaaPMatchCostsx13
namespace Go.Proofs.Ytkihlcmjjoiccaa.Pure
open Go.RowKit Go.Proofs.Ytkihlcmjjoiccaa.PMatchCosts Go.Proofs.YtkihlcmjjoiccaaW.PrintWords Go.Proofs.YtkihlcmjjoiccaaW.PrintLast Go.Proofs.YtkihlcmjjoiccaaW.PrintMore
set_option maxRecDepth 100000
set_option linter.unusedVariables false
theorem w64 (n : Int) (h0 : -9223372036854775808 ≤ n) (h1 : n ≤ 9223372036854775807) : wrap64 n = n := by unfold wrap64; omega
def Ln (s : Int) : Int := if s ≤ 256 then 16 else if s ≤ 1024 then 32 else if s ≤ 4096 then 64 else if s ≤ 16384 then 128 else if s ≤ 65536 then 256 else if s ≤ 262144 then 512 else if s ≤ 1048576 then 1024 else if s ≤ 4194304 then 2048 else 4096
theorem length_of (s : Int) (m : Nat) : blocks_Length.f (m + 9) s = some (Ln s) := by
 have e1 : wrap64 (16 * 16) = 256 := by unfold wrap64; decide
 have e2 : wrap64 (32 * 32) = 1024 := by unfold wrap64; decide
 have e3 : wrap64 (64 * 64) = 4096 := by unfold wrap64; decide
 have e4 : wrap64 (128 * 128) = 16384 := by unfold wrap64; decide
 have e5 : wrap64 (256 * 256) = 65536 := by unfold wrap64; decide
 have e6 : wrap64 (512 * 512) = 262144 := by unfold wrap64; decide
 have e7 : wrap64 (1024 * 1024) = 1048576 := by unfold wrap64; decide
 have e8 : wrap64 (2048 * 2048) = 4194304 := by unfold wrap64; decide
 have d1 : wrap64 (16 * 2) = 32 := by unfold wrap64; decide
 have d2 : wrap64 (32 * 2) = 64 := by unfold wrap64; decide
 have d3 : wrap64 (64 * 2) = 128 := by unfold wrap64; decide
 have d4 : wrap64 (128 * 2) = 256 := by unfold wrap64; decide
 have d5 : wrap64 (256 * 2) = 512 := by unfold wrap64; decide
 have d6 : wrap64 (512 * 2) = 1024 := by unfold wrap64; decide
 have d7 : wrap64 (1024 * 2) = 2048 := by unfold wrap64; decide
 have d8 : wrap64 (2048 * 2) = 4096 := by unfold wrap64; decide
 unfold blocks_Length.f Ln
 by_cases c1 : s ≤ 256
 ·rw [if_pos c1]; simp only [blocks_Length.l0]; rw [if_pos (by decide), e1, if_neg (by omega)]
 rw [if_neg c1]
 by_cases c2 : s ≤ 1024
 ·rw [if_pos c2]; simp only [blocks_Length.l0]; rw [if_pos (by decide), e1, if_pos (by omega), d1, if_pos (by decide), e2, if_neg (by omega)]
 rw [if_neg c2]
 by_cases c3 : s ≤ 4096
 ·rw [if_pos c3]; simp only [blocks_Length.l0]; rw [if_pos (by decide), e1, if_pos (by omega), d1, if_pos (by decide), e2, if_pos (by omega), d2, if_pos (by decide), e3, if_neg (by omega)]
 rw [if_neg c3]
 by_cases c4 : s ≤ 16384
 ·rw [if_pos c4]; simp only [blocks_Length.l0]; rw [if_pos (by decide), e1, if_pos (by omega), d1, if_pos (by decide), e2, if_pos (by omega), d2, if_pos (by decide), e3, if_pos (by omega), d3, if_pos (by decide), e4, if_neg (by omega)]
 rw [if_neg c4]
 by_cases c5 : s ≤ 65536
 ·rw [if_pos c5]; simp only [blocks_Length.l0]; rw [if_pos (by decide), e1, if_pos (by omega), d1, if_pos (by decide), e2, if_pos (by omega), d2, if_pos (by decide), e3, if_pos (by omega), d3, if_pos (by decide), e4, if_pos (by omega), d4, if_pos (by decide), e5, if_neg (by omega)]
 rw [if_neg c5]
 by_cases c6 : s ≤ 262144
 ·rw [if_pos c6]; simp only [blocks_Length.l0]; rw [if_pos (by decide), e1, if_pos (by omega), d1, if_pos (by decide), e2, if_pos (by omega), d2, if_pos (by decide), e3, if_pos (by omega), d3, if_pos (by decide), e4, if_pos (by omega), d4, if_pos (by decide), e5, if_pos (by omega), d5, if_pos (by decide), e6, if_neg (by omega)]
 rw [if_neg c6]
 by_cases c7 : s ≤ 1048576
 ·rw [if_pos c7]; simp only [blocks_Length.l0]; rw [if_pos (by decide), e1, if_pos (by omega), d1, if_pos (by decide), e2, if_pos (by omega), d2, if_pos (by decide), e3, if_pos (by omega), d3, if_pos (by decide), e4, if_pos (by omega), d4, if_pos (by decide), e5, if_pos (by omega), d5, if_pos (by decide), e6, if_pos (by omega), d6, if_pos (by decide), e7, if_neg (by omega)]
 rw [if_neg c7]
 by_cases c8 : s ≤ 4194304
 ·rw [if_pos c8]; simp only [blocks_Length.l0]; rw [if_pos (by decide), e1, if_pos (by omega), d1, if_pos (by decide), e2, if_pos (by omega), d2, if_pos (by decide), e3, if_pos (by omega), d3, if_pos (by decide), e4, if_pos (by omega), d4, if_pos (by decide), e5, if_pos (by omega), d5, if_pos (by decide), e6, if_pos (by omega), d6, if_pos (by decide), e7, if_pos (by omega), d7, if_pos (by decide), e8, if_neg (by omega)]
 rw [if_neg c8]
 simp only [blocks_Length.l0]; rw [if_pos (by decide), e1, if_pos (by omega), d1, if_pos (by decide), e2, if_pos (by omega), d2, if_pos (by decide), e3, if_pos (by omega), d3, if_pos (by decide), e4, if_pos (by omega), d4, if_pos (by decide), e5, if_pos (by omega), d5, if_pos (by decide), e6, if_pos (by omega), d6, if_pos (by decide), e7, if_pos (by omega), d7, if_pos (by decide), e8, if_pos (by omega), d8, if_neg (by decide)]
def Rg (s b : Int) : Bool := decide (0 ≤ s ∧ s ≤ 131072 ∧ 16 ≤ b ∧ b ≤ 4096)
theorem right_of (s b : Int) : blocks_Right.f s b = some (Rg s b) := by
 unfold blocks_Right.f blocks_block.f Rg
 by_cases h1 : s ≥ 0
 ·rw [if_pos h1]
  by_cases h2 : s ≤ 131072
  ·rw [if_pos h2]
   by_cases h3 : b ≥ 16
   ·rw [if_pos h3]; exact congrArg some (decide_eq_decide.2 (by omega))
   ·rw [if_neg h3]; exact congrArg some (decide_eq_false (by omega)).symm
  ·rw [if_neg h2]; exact congrArg some (decide_eq_false (by omega)).symm
 ·rw [if_neg h1]; exact congrArg some (decide_eq_false (by omega)).symm
theorem rg_true {s b : Int} (h : Rg s b = true) : 0 ≤ s ∧ s ≤ 131072 ∧ 16 ≤ b ∧ b ≤ 4096 := of_decide_eq_true h
theorem rg_mk {s b : Int} (h : 0 ≤ s ∧ s ≤ 131072 ∧ 16 ≤ b ∧ b ≤ 4096) : Rg s b = true := decide_eq_true h
def Ct (s b : Int) : Int := if Rg s b = true then (s + b - 1) / b else 0
theorem ct_bounds {s b : Int} (h : Rg s b = true) : Ct s b * b ≤ s + b - 1 ∧ s ≤ Ct s b * b ∧ 0 ≤ Ct s b ∧ Ct s b ≤ 8192 := by
 obtain ⟨h1, h2, h3, h4⟩ := rg_true h
 unfold Ct; rw [if_pos h]
 have a := Int.ediv_mul_le (s + b - 1) (b := b) (by omega)
 have c := Int.lt_ediv_add_one_mul_self (s + b - 1) (b := b) (by omega)
 have d : 0 ≤ (s + b - 1) / b := Int.ediv_nonneg (by omega) (by omega)
 have e : (s + b - 1) / b < 8193 := Int.ediv_lt_of_lt_mul (by omega) (by omega)
 rw [Int.add_mul] at c
 exact ⟨a, by omega, d, by omega⟩
theorem count_of (s b : Int) : blocks_Count.f s b = some (Ct s b) := by
 unfold blocks_Count.f
 rw [right_of]; simp only [Option.bind_some]
 by_cases h : Rg s b = true
 ·obtain ⟨h1, h2, h3, h4⟩ := rg_true h
  have hb := ct_bounds h
  unfold Ct at hb ⊢
  rw [if_pos h] at hb
  rw [if_pos h, if_pos h, if_neg (by omega), w64 (s + b) (by omega) (by omega), w64 (s + b - 1) (by omega) (by omega), Int.tdiv_eq_ediv_of_nonneg (by omega), w64 _ (by omega) (by omega)]
 ·unfold Ct; rw [if_neg h, if_neg h]
theorem mul_bounds {i b : Int} (h0 : 0 ≤ i) (h1 : i ≤ 8192) (h2 : 16 ≤ b) (h3 : b ≤ 4096) : 0 ≤ i * b ∧ i * b ≤ 8192 * 4096 :=
 ⟨Int.mul_nonneg h0 (by omega), Int.mul_le_mul h1 h3 (by omega) (by omega)⟩
theorem range_no {s b i : Int} (h : i < 0 ∨ Ct s b ≤ i) : blocks_Range.f s b i = some (0, 0, false) := by
 unfold blocks_Range.f
 by_cases h0 : i < 0
 ·rw [if_pos h0]
 ·rw [if_neg h0, count_of]; simp only [Option.bind_some]; rw [if_pos (by omega)]
theorem ct_right {s b i : Int} (h0 : 0 ≤ i) (h : i < Ct s b) : Rg s b = true := by
 by_cases hr : Rg s b = true
 ·exact hr
 ·unfold Ct at h; rw [if_neg hr] at h; omega
theorem range_yes {s b i : Int} (h0 : 0 ≤ i) (h : i < Ct s b) : blocks_Range.f s b i = some (i * b, mn s ((i + 1) * b), true) := by
 have hr := ct_right h0 h
 obtain ⟨h1, h2, h3, h4⟩ := rg_true hr
 have hb := ct_bounds hr
 have m1 := mul_bounds (i := i) (b := b) h0 (by omega) h3 h4
 have m2 := mul_bounds (i := i + 1) (b := b) (by omega) (by omega) h3 h4
 unfold blocks_Range.f
 rw [if_neg (by omega), count_of]; simp only [Option.bind_some]
 rw [if_neg (by omega), w64 (i * b) (by omega) (by omega), w64 (i + 1) (by omega) (by omega), w64 ((i + 1) * b) (by omega) (by omega)]
theorem inc6 {i n : Nat} (h : i < n) (hn : n ≤ 4000000000000) : wrap64 ((i : Int) + 1) = ((i + 1 : Nat) : Int) := by unfold wrap64; omega
theorem ev_pos {α : Type} {c : Prop} [Decidable c] (h : c) {f g : Nat → Option α} {r : α} (k : Ev f r) : Ev (fun k => if c then f k else g k) r := Ev.congr (fun _ => if_pos h) k
theorem ev_neg {α : Type} {c : Prop} [Decidable c] (h : ¬ c) {f g : Nat → Option α} {r : α} (k : Ev g r) : Ev (fun k => if c then f k else g k) r := Ev.congr (fun _ => if_neg h) k
theorem ev_some {α : Type} {o : Option α} {r : α} (h : o = some r) : Ev (fun _ => o) r := by subst h; exact Ev.now _
def Fr (s b n : Int) : Int := if (1 ≤ n ∧ n ≤ 32) ∧ Rg s b = true then 0 else 2
theorem fr_ok {s b n : Int} (h : Fr s b n = 0) : (1 ≤ n ∧ n ≤ 32) ∧ Rg s b = true := by
 unfold Fr at h
 by_cases h1 : (1 ≤ n ∧ n ≤ 32) ∧ Rg s b = true
 ·exact h1
 ·rw [if_neg h1] at h; omega
theorem fr_mk {s b n : Int} (h : (1 ≤ n ∧ n ≤ 32) ∧ Rg s b = true) : Fr s b n = 0 := if_pos h
theorem fr_two {s b n : Int} (h : ¬ Fr s b n = 0) : Fr s b n = 2 := by
 unfold Fr at h ⊢
 by_cases h1 : (1 ≤ n ∧ n ≤ 32) ∧ Rg s b = true
 ·rw [if_pos h1] at h; omega
 ·rw [if_neg h1]
theorem strong_of (n : Int) : sig_strong.f n = some (decide (1 ≤ n ∧ n ≤ 32)) := by
 unfold sig_strong.f
 by_cases h : n ≥ 1
 ·rw [if_pos h]; congr 1; by_cases h2 : n ≤ 32
  ·rw [decide_eq_true h2, decide_eq_true ⟨h, h2⟩]
  ·rw [decide_eq_false h2, decide_eq_false (fun h3 => h2 h3.2)]
 ·rw [if_neg h, decide_eq_false (fun h3 => h h3.1)]
theorem front_of (s b n : Int) (l : List S55) : sig_front.f s b n l = some (Fr s b n) := by
 unfold sig_front.f Fr
 rw [strong_of, Option.bind_some]
 by_cases h : 1 ≤ n ∧ n ≤ 32
 ·rw [decide_eq_true h, if_pos rfl, right_of, Option.bind_some]
  by_cases h2 : Rg s b = true
  ·rw [if_pos h2, if_pos ⟨h, h2⟩]
  ·rw [if_neg h2, if_neg (fun h3 => h2 h3.2)]
 ·rw [decide_eq_false h, if_neg (by decide), if_neg (fun h3 => h h3.1)]
def Ck (s b n : Int) (l : List S55) : Int := if Fr s b n = 0 then (if (l.length : Int) = Ct s b then (if anyOff n l 0 = true then 5 else 0) else 5) else 2
theorem check_of (s b n : Int) (l : List S55) : sig_Check.f s b n l = some (Ck s b n l) := by
 unfold sig_Check.f Ck
 rw [front_of, Option.bind_some]
 by_cases h : Fr s b n = 0
 ·rw [if_pos h, if_pos h, count_of, Option.bind_some]
  by_cases h2 : (l.length : Int) = Ct s b
  ·rw [if_pos h2, if_pos h2, if_pos (by have := (ct_bounds (fr_ok h).2).2.2.2; omega)]
   by_cases h3 : anyOff n l 0 = true
   ·rw [if_pos h3, if_pos h3]
   ·rw [if_neg h3, if_neg h3]
  ·rw [if_neg h2, if_neg h2]
 ·rw [if_neg h, if_neg h, fr_two h]
theorem ck_ok {s b n : Int} {l : List S55} (h : Ck s b n l = 0) : Fr s b n = 0 ∧ (l.length : Int) = Ct s b ∧ anyOff n l 0 = false := by
 unfold Ck at h
 by_cases h1 : Fr s b n = 0
 ·rw [if_pos h1] at h
  by_cases h2 : (l.length : Int) = Ct s b
  ·rw [if_pos h2] at h
   by_cases h3 : anyOff n l 0 = true
   ·rw [if_pos h3] at h; omega
   ·exact ⟨h1, h2, by simpa using h3⟩
  ·rw [if_neg h2] at h; omega
 ·rw [if_neg h1] at h; omega
theorem ck_mk {s b n : Int} {l : List S55} (h1 : Fr s b n = 0) (h2 : (l.length : Int) = Ct s b) (h3 : ∀ m ∈ l, (m.f1.size : Int) = n) : Ck s b n l = 0 := by
 unfold Ck
 rw [if_pos h1, if_pos h2, if_neg]
 unfold anyOff
 rw [List.drop_zero, Bool.not_eq_true, List.any_eq_false]
 intro m hm
 have := h3 m hm
 simp [this]
def rin (x c : Int) : Int := ((roll_In.f x 0 c).getD 0)
theorem rin_of (x c : Int) : roll_In.f x 0 c = some (rin x c) := rfl
def rollF (l : List Int) : Int := l.foldl rin 0
theorem roll_loop (l : List Int) (hn : l.length ≤ 4000000000000) (d : Nat) : ∀ (i : Nat) (x : Int), i + d = l.length → Ev (fun k => roll_Of.l0 k x l (l.length : Int) (i : Int)) ((l.drop i).foldl rin x) := by
 induction d with
 | zero =>
  intro i x hi
  refine Ev.step (f := fun _ => some x) (fun k => ?_) ?_
  ·simp only [roll_Of.l0]
   rw [if_neg (by omega)]
  ·rw [List.drop_eq_nil_of_le (show l.length ≤ i by omega)]
   exact Ev.now _
 | succ d ih =>
  intro i x hi
  have hlt : i < l.length := by omega
  refine Ev.step (f := fun k => roll_Of.l0 k (rin x (rd l (i : Int))) l (l.length : Int) ((i + 1 : Nat) : Int)) (fun k => ?_) ?_
  ·simp only [roll_Of.l0]
   rw [if_pos (by omega), if_pos (by omega), if_pos (by omega), rin_of, Option.bind_some, inc6 hlt hn]
  ·rw [List.drop_eq_getElem_cons hlt, List.foldl_cons]
   have e : rd l (i : Int) = l[i] := by unfold rd; rw [Int.toNat_natCast, List.getD_eq_getElem?_getD, List.getElem?_eq_getElem hlt]; rfl
   rw [e]
   exact ih (i + 1) _ (by omega)
theorem roll_of (l : List Int) (hn : l.length ≤ 4000000000000) : Ev (fun k => roll_Of.f k l) (rollF l) := roll_loop l hn l.length 0 0 (by omega)
def markF (l : List Int) (n : Int) : S55 := ⟨rollF l, (strOfNums (shaSum l)).extract 0 n.toNat⟩
theorem sum_size (l : List Int) : (strOfNums (shaSum l)).size = 32 := by rw [strOfNums_size, shaSum_len]
theorem mark_size (l : List Int) (n : Int) (h0 : 0 ≤ n) (h1 : n ≤ 32) : ((markF l n).f1.size : Int) = n := by
 unfold markF
 rw [ByteArray.size_extract, sum_size]
 omega
theorem cut_of (l : List Int) (hn : l.length ≤ 1000000000) (n : Int) (h0 : 0 ≤ n) (h1 : n ≤ 32) : sha_Cut.f l n = some ((markF l n).f1, 0) := by
 unfold sha_Cut.f sha_Sum.f
 rw [if_neg (by omega), if_neg (by omega), if_pos (by omega), Option.bind_some, if_pos h0, if_pos (by rw [sum_size]; exact h1)]
 rfl
theorem mark_of (l : List Int) (hn : l.length ≤ 1000000000) (n : Int) (h0 : 0 ≤ n) (h1 : n ≤ 32) : Ev (fun k => sig_mark.f k l n) ((markF l n).f0, (markF l n).f1) := by
 unfold sig_mark.f
 refine Ev.bind (ev_some (cut_of l hn n h0 h1)) (Ev.bind (roll_of l (by omega)) (Ev.now _))
def marksF (l : List Int) (B n : Int) (m : Nat) : List S55 := (List.range m).map fun i => markF (cutRow l B i) n
theorem marks_len (l : List Int) (B n : Int) (m : Nat) : (marksF l B n m).length = m := by unfold marksF; rw [List.length_map, List.length_range]
theorem row_len (l : List Int) (B : Int) (i : Nat) : (cutRow l B i).length ≤ l.length := by
 unfold cutRow
 rw [List.length_drop, List.length_take]
 omega
theorem marks_of (l : List Int) (hn : l.length ≤ 1000000000) (B n : Int) (h0 : 0 ≤ n) (h1 : n ≤ 32) : ∀ m : Nat, Ev (fun k => sigMs k l B n m) (marksF l B n m)
 | 0 => Ev.now _
 | m + 1 => by
  refine Ev.bind (marks_of l hn B n h0 h1 m) (Ev.bind (mark_of _ (Nat.le_trans (row_len l B m) hn) n h0 h1) ?_)
  refine ev_some ?_
  unfold marksF
  rw [List.range_succ, List.map_append]
  rfl
def OfB (l : List Int) (b : Int) : Int := if b = 0 then Ln (l.length : Int) else b
def OfOk (b n : Int) : Prop := (1 ≤ n ∧ n ≤ 32) ∧ (b = 0 ∨ (16 ≤ b ∧ b ≤ 4096))
theorem ln_in (s : Int) : 16 ≤ Ln s ∧ Ln s ≤ 4096 := by
 unfold Ln
 repeat' split
 all_goals omega
theorem ofB_in (l : List Int) {b n : Int} (h : OfOk b n) : 16 ≤ OfB l b ∧ OfB l b ≤ 4096 := by
 unfold OfB
 split
 ·exact ln_in _
 ·next h0 => exact h.2.resolve_left h0
theorem of_ok (l : List Int) (hn : l.length ≤ 131072) (b n : Int) (h : OfOk b n) : Ev (fun k => sig_Of.f k l b n) ((l.length : Int), OfB l b, n, marksF l (OfB l b) n (cutNum l (OfB l b)), 0) := by
 unfold sig_Of.f
 refine ev_pos (show (1 ≤ n ∧ n ≤ 32) ∧ (b = 0 ∨ (16 ≤ b ∧ b ≤ 4096)) from h) (ev_pos hn ?_)
 refine Ev.bind (a := OfB l b) ?_ (ev_pos (ofB_in l h) (Ev.bind (marks_of l (by omega) _ n (by have := h.1; omega) h.1.2 _) (Ev.now _)))
 unfold OfB
 by_cases h0 : b = 0
 ·rw [if_pos h0]
  refine ev_pos h0 ⟨9, fun k hk => ?_⟩
  obtain ⟨m, rfl⟩ : ∃ m, k = m + 9 := ⟨k - 9, by omega⟩
  exact length_of _ m
 ·rw [if_neg h0]
  exact ev_neg h0 (Ev.now _)
theorem cutNum_ct {l : List Int} (hl : l.length ≤ 131072) {b : Int} (h0 : 16 ≤ b) (h1 : b ≤ 4096) : ((cutNum l b : Nat) : Int) = Ct (l.length : Int) b := by
 have := (cut_facts h0 h1 hl).1
 rw [count_of] at this
 exact (Option.some.inj this).symm
theorem marks_ck (l : List Int) (hl : l.length ≤ 131072) (b n : Int) (h : OfOk b n) : Ck (l.length : Int) (OfB l b) n (marksF l (OfB l b) n (cutNum l (OfB l b))) = 0 := by
 obtain ⟨h0, h1⟩ := ofB_in l h
 refine ck_mk (fr_mk ⟨h.1, rg_mk ⟨by omega, by omega, h0, h1⟩⟩) ?_ ?_
 ·rw [marks_len]
  exact cutNum_ct hl h0 h1
 ·intro m hm
  obtain ⟨i, _, rfl⟩ := List.mem_map.1 hm
  exact mark_size _ n (by have := h.1; omega) h.1.2
def nums (p : Nat → Bool) (m : Nat) : List Int := ((List.range m).filter p).map fun i : Nat => (i : Int)
def wkOf (l : List S55) (i : Nat) : Int := (rd_T55 l (i : Int)).f0
theorem rd_at {L : List Int} {i : Nat} (h : i < L.length) : rd L (i : Int) = L[i] := by
 unfold rd
 rw [Int.toNat_natCast, List.getD_eq_getElem?_getD, List.getElem?_eq_getElem h]
 rfl
theorem find_loop (l : List S55) (s b a1 : Int) (ch : List (List Int)) (xs : List Int) (hx : ∀ x ∈ xs, 0 ≤ x ∧ x < (l.length : Int)) (hn : xs.length ≤ 4000000000000) (d : Nat) : ∀ (i : Nat) (acc : List Int), i + d = xs.length → acc.length + d ≤ 4000000000000 →
    Ev (fun k => index_Index_Find.l0 k a1 acc xs (xs.length : Int) (i : Int) l s b ch) (acc ++ (xs.drop i).filter fun x => decide ((rd_T55 l x).f0 = a1)) := by
 induction d with
 | zero =>
  intro i acc hi ha
  rw [List.drop_eq_nil_of_le (by omega), List.filter_nil, List.append_nil]
  refine Ev.step (f := fun _ => some acc) (fun k => ?_) (Ev.now _)
  simp only [index_Index_Find.l0]
  rw [if_neg (by omega)]
 | succ d ih =>
  intro i acc hi ha
  have hlt : i < xs.length := by omega
  have hb := hx xs[i] (List.getElem_mem hlt)
  rw [List.drop_eq_getElem_cons hlt]
  by_cases hw : (rd_T55 l xs[i]).f0 = a1
  ·rw [List.filter_cons_of_pos (by simpa using hw)]
   have h2 := ih (i + 1) (acc ++ [xs[i]]) (by omega) (by rw [List.length_append]; simp only [List.length_cons, List.length_nil]; omega)
   rw [List.append_assoc] at h2
   refine Ev.step (f := fun k => index_Index_Find.l0 k a1 (acc ++ [xs[i]]) xs (xs.length : Int) ((i + 1 : Nat) : Int) l s b ch) (fun k => ?_) h2
   simp only [index_Index_Find.l0]
   rw [rd_at hlt, if_pos (by omega), if_pos (by omega), if_pos (by omega), if_pos hb.1, if_pos hb.2, if_pos hw, if_pos (by omega), inc6 hlt hn]
  ·rw [List.filter_cons_of_neg (by simpa using hw)]
   refine Ev.step (f := fun k => index_Index_Find.l0 k a1 acc xs (xs.length : Int) ((i + 1 : Nat) : Int) l s b ch) (fun k => ?_) (ih (i + 1) acc (by omega) (by omega))
   simp only [index_Index_Find.l0]
   rw [rd_at hlt, if_pos (by omega), if_pos (by omega), if_pos (by omega), if_pos hb.1, if_pos hb.2, if_neg hw, inc6 hlt hn]
theorem chain_mem {hs : List Nat} {m j : Nat} {x : Int} (h : x ∈ ixChain hs m j) : 0 ≤ x ∧ x < (m : Int) := by
 unfold ixChain at h
 obtain ⟨p, hp, rfl⟩ := List.mem_map.1 h
 have := List.mem_range.1 (List.mem_filter.1 hp).1
 omega
theorem chains_len (l : List S55) : (ixChains l).length = ixHeads l.length := by
 unfold ixChains
 rw [List.length_map, List.length_range]
theorem chains_at (l : List S55) {j : Nat} (h : j < ixHeads l.length) : rd_L6 (ixChains l) (j : Int) = ixChain (ixHs l) l.length j := by
 unfold rd_L6 ixChains
 rw [Int.toNat_natCast, List.getD_eq_getElem?_getD, List.getElem?_map, List.getElem?_range h]
 rfl
theorem ixhead_of (l : List S55) (s b a1 : Int) (hl : l.length ≤ 1000000) : index_Index_head.f l s b (ixChains l) a1 = some ((ixHead (ixHeads l.length) a1 : Nat) : Int) ∧ ixHead (ixHeads l.length) a1 < ixHeads l.length := by
 have h := ixHead_eq a1 (ixHeads_pos l.length) (ixHeads_le hl)
 refine ⟨?_, h.2⟩
 rw [← h.1]
 unfold index_Index_head.f ixHeadI
 rw [chains_len]
theorem chain_filter (l : List S55) (a1 : Int) : (ixChain (ixHs l) l.length (ixHead (ixHeads l.length) a1)).filter (fun x => decide ((rd_T55 l x).f0 = a1)) = nums (fun i => decide (wkOf l i = a1)) l.length := by
 unfold ixChain nums
 rw [List.filter_map, List.filter_filter]
 congr 1
 refine List.filter_congr fun p hp => ?_
 have hpl := List.mem_range.1 hp
 show ((decide ((rd_T55 l (p : Int)).f0 = a1)) && _) = decide (wkOf l p = a1)
 unfold wkOf
 by_cases hw : (rd_T55 l (p : Int)).f0 = a1
 ·rw [ixHs_get l p hpl, hw]
  simp
 ·rw [decide_eq_false hw, Bool.false_and]
theorem chain_len (hs : List Nat) (m j : Nat) : (ixChain hs m j).length ≤ m := ixCnt_le hs m j
theorem find_of (l : List S55) (s b a1 : Int) (hl : l.length ≤ 1000000) : Ev (fun k => index_Index_Find.f k l s b (ixChains l) a1) (nums (fun i => decide (wkOf l i = a1)) l.length) := by
 obtain ⟨h1, h2⟩ := ixhead_of l s b a1 hl
 unfold index_Index_Find.f
 rw [h1]
 refine Ev.bind (ev_some rfl) (ev_pos (by omega) (ev_pos (by rw [chains_len]; omega) ?_))
 rw [chains_at l h2]
 have h3 := find_loop l s b a1 (ixChains l) (ixChain (ixHs l) l.length (ixHead (ixHeads l.length) a1)) (fun x hx => chain_mem hx) (by have := chain_len (ixHs l) l.length (ixHead (ixHeads l.length) a1); omega) _ 0 [] (Nat.zero_add _) (by have := chain_len (ixHs l) l.length (ixHead (ixHeads l.length) a1); simp only [List.length_nil]; omega)
 rw [List.drop_zero, List.nil_append, chain_filter] at h3
 exact h3
def lenAt (s b : Int) (i : Nat) : Int := mn s (((i : Int) + 1) * b) - (i : Int) * b
def hasV (l : List S55) (s b w : Int) (st : ByteArray) (n : Int) (i : Nat) : Bool := (decide (lenAt s b i = n) && decide (wkOf l i = w)) && ((rd_T55 l (i : Int)).f1.toList == st.toList)
theorem lenAt_in {s b : Int} {i : Nat} (h : (i : Int) < Ct s b) : wrap64 (mn s (((i : Int) + 1) * b) - (i : Int) * b) = lenAt s b i := by
 have hr := ct_right (by omega) h
 obtain ⟨h1, h2, h3, h4⟩ := rg_true hr
 have hb := (ct_bounds hr).2.2.2
 have m1 := mul_bounds (i := (i : Int)) (b := b) (by omega) (by omega) h3 h4
 have m2 := mul_bounds (i := (i : Int) + 1) (b := b) (by omega) (by omega) h3 h4
 unfold lenAt mn
 split <;> exact w64 _ (by omega) (by omega)
theorem has_of (l : List S55) (s b : Int) (ch : List (List Int)) (w : Int) (st : ByteArray) (n : Int) (hl : (l.length : Int) = Ct s b) {i : Nat} (hi : i < l.length) : index_Index_has.f l s b ch (i : Int) w st n = some (hasV l s b w st n i) := by
 unfold index_Index_has.f
 rw [range_yes (by omega) (by omega), Option.bind_some, if_pos rfl, lenAt_in (by omega)]
 unfold hasV
 by_cases h1 : lenAt s b i = n
 ·rw [if_pos h1, if_pos (by omega), if_pos (by omega), decide_eq_true h1, Bool.true_and]
  by_cases h2 : wkOf l i = w
  ·rw [if_pos (show (rd_T55 l (i : Int)).f0 = w from h2), decide_eq_true h2, Bool.true_and]
  ·rw [if_neg (show ¬ (rd_T55 l (i : Int)).f0 = w from h2), decide_eq_false h2, Bool.false_and]
 ·rw [if_neg h1, decide_eq_false h1, Bool.false_and, Bool.false_and]
def fst0 : List Int → Int × Bool
 | [] => (0, false)
 | x :: _ => (x, true)
theorem pick_loop (l : List S55) (s b w : Int) (st : ByteArray) (n : Int) (hl : (l.length : Int) = Ct s b) (ch : List (List Int)) (xs : List Int) (hx : ∀ x ∈ xs, 0 ≤ x ∧ x < (l.length : Int)) (hn : xs.length ≤ 4000000000000) (d : Nat) : ∀ i : Nat, i + d = xs.length →
    Ev (fun k => index_Index_Pick.l0 k w st n xs (xs.length : Int) (i : Int) l s b ch) (fst0 ((xs.drop i).filter fun x => hasV l s b w st n x.toNat)) := by
 induction d with
 | zero =>
  intro i hi
  rw [List.drop_eq_nil_of_le (by omega)]
  refine Ev.step (f := fun _ => some (0, false)) (fun k => ?_) (Ev.now _)
  simp only [index_Index_Pick.l0]
  rw [if_neg (by omega)]
 | succ d ih =>
  intro i hi
  have hlt : i < xs.length := by omega
  have hb := hx xs[i] (List.getElem_mem hlt)
  obtain ⟨p, hp⟩ : ∃ p : Nat, xs[i] = (p : Int) := ⟨xs[i].toNat, by omega⟩
  have hh := has_of l s b ch w st n hl (i := p) (by omega)
  rw [List.drop_eq_getElem_cons hlt, hp]
  by_cases hv : hasV l s b w st n p = true
  ·rw [List.filter_cons_of_pos (by rw [Int.toNat_natCast]; exact hv)]
   refine Ev.step (f := fun _ => some ((p : Int), true)) (fun k => ?_) (Ev.now _)
   simp only [index_Index_Pick.l0]
   rw [rd_at hlt, hp, if_pos (by omega), if_pos (by omega), if_pos (by omega), hh, Option.bind_some, if_pos hv]
  ·rw [List.filter_cons_of_neg (by rw [Int.toNat_natCast]; exact hv)]
   refine Ev.step (f := fun k => index_Index_Pick.l0 k w st n xs (xs.length : Int) ((i + 1 : Nat) : Int) l s b ch) (fun k => ?_) (ih (i + 1) (by omega))
   simp only [index_Index_Pick.l0]
   rw [rd_at hlt, hp, if_pos (by omega), if_pos (by omega), if_pos (by omega), hh, Option.bind_some, if_neg hv, inc6 hlt hn]
theorem chain_has (l : List S55) (s b w : Int) (st : ByteArray) (n : Int) : (ixChain (ixHs l) l.length (ixHead (ixHeads l.length) w)).filter (fun x => hasV l s b w st n x.toNat) = nums (hasV l s b w st n) l.length := by
 unfold ixChain nums
 rw [List.filter_map, List.filter_filter]
 congr 1
 refine List.filter_congr fun p hp => ?_
 have hpl := List.mem_range.1 hp
 show (hasV l s b w st n (p : Int).toNat && _) = _
 rw [Int.toNat_natCast]
 by_cases hv : hasV l s b w st n p = true
 ·have hw : wkOf l p = w := by
    unfold hasV at hv
    simp only [Bool.and_eq_true, decide_eq_true_eq] at hv
    exact hv.1.2
  rw [hv, Bool.true_and, ixHs_get l p hpl, show (rd_T55 l (p : Int)).f0 = w from hw]
  simp
 ·rw [Bool.eq_false_iff.2 hv, Bool.false_and]
def pkV (l : List S55) (s b w : Int) (st : ByteArray) (n want : Int) : Int × Bool :=
 if 0 ≤ want ∧ want < (l.length : Int) ∧ hasV l s b w st n want.toNat = true then (want, true) else fst0 (nums (hasV l s b w st n) l.length)
theorem pick_of (l : List S55) (s b : Int) (hl : (l.length : Int) = Ct s b) (h8 : l.length ≤ 1000000) (w : Int) (st : ByteArray) (n want : Int) : Ev (fun k => index_Index_Pick.f k l s b (ixChains l) w st n want) (pkV l s b w st n want) := by
 obtain ⟨h1, h2⟩ := ixhead_of l s b w h8
 have hj : Ev (fun k => index_Index_Pick.j0 k w st n want false l s b (ixChains l)) (fst0 (nums (hasV l s b w st n) l.length)) := by
  have h3 := pick_loop l s b w st n hl (ixChains l) (ixChain (ixHs l) l.length (ixHead (ixHeads l.length) w)) (fun x hx => chain_mem hx) (by have := chain_len (ixHs l) l.length (ixHead (ixHeads l.length) w); omega) _ 0 (Nat.zero_add _)
  rw [List.drop_zero, chain_has] at h3
  refine Ev.step (f := fun k => index_Index_Pick.l0 k w st n (ixChain (ixHs l) l.length (ixHead (ixHeads l.length) w)) ((ixChain (ixHs l) l.length (ixHead (ixHeads l.length) w)).length : Int) 0 l s b (ixChains l)) (fun k => ?_) h3
  simp only [index_Index_Pick.j0]
  rw [if_neg (by decide), h1, Option.bind_some, if_pos (by omega), if_pos (by rw [chains_len]; omega), chains_at l h2]
 unfold index_Index_Pick.f pkV
 by_cases ha : want ≥ 0
 ·refine ev_pos ha ?_
  by_cases hb : want < (l.length : Int)
  ·refine ev_pos hb ?_
   obtain ⟨p, rfl⟩ : ∃ p : Nat, want = (p : Int) := ⟨want.toNat, by omega⟩
   refine Ev.bind (ev_some (has_of l s b (ixChains l) w st n hl (i := p) (by omega))) ?_
   rw [Int.toNat_natCast]
   by_cases hv : hasV l s b w st n p = true
   ·rw [hv, if_pos ⟨ha, hb, rfl⟩]
    refine Ev.step (f := fun _ => some ((p : Int), true)) (fun k => ?_) (Ev.now _)
    simp only [index_Index_Pick.j0]
    rw [if_pos trivial]
   ·rw [if_neg (fun h => hv h.2.2), Bool.eq_false_iff.2 hv]
    exact hj
  ·rw [if_neg (fun h => hb h.2.1)]
   exact ev_neg hb hj
 ·rw [if_neg (fun h => ha h.1)]
  exact ev_neg ha hj
theorem nums_none {p : Nat → Bool} {m : Nat} (h : ∀ i, i < m → p i = false) : nums p m = [] := by
 unfold nums
 rw [List.filter_eq_nil_iff.2 (fun i hi => by rw [h i (List.mem_range.1 hi)]; decide)]
 rfl
theorem pk_none {l : List S55} {s b w : Int} {st : ByteArray} {n : Int} (want : Int) (h : ∀ i, i < l.length → hasV l s b w st n i = false) : pkV l s b w st n want = (0, false) := by
 unfold pkV
 rw [nums_none h, if_neg (fun hh => ?_)]
 ·rfl
 ·have := h want.toNat (by omega)
  rw [hh.2.2] at this
  cases this
set_option maxRecDepth 10000 in
theorem or_add (i : Nat) (x y : Int) (h0 : 0 ≤ x) (h1 : 0 ≤ y) (h2 : y < 2 ^ i) (h3 : x * 2 ^ i + y < 4294967296) : Go.bits .or .u32 (x * 2 ^ i) y = x * 2 ^ i + y := by
 obtain ⟨a, rfl⟩ := Int.eq_ofNat_of_zero_le h0
 obtain ⟨b, rfl⟩ := Int.eq_ofNat_of_zero_le h1
 have e1 : ((a : Int) * 2 ^ i) = ((a * 2 ^ i : Nat) : Int) := by simp
 rw [e1] at h3 ⊢
 have hb : b < 2 ^ i := by exact_mod_cast h2
 obtain ⟨c, hc⟩ : ∃ c, c = a * 2 ^ i := ⟨_, rfl⟩
 have hor : c ||| b = c + b := by
  rw [hc, ← Nat.shiftLeft_eq, Nat.shiftLeft_add_eq_or_of_lt hb]
 rw [← hc] at h3 ⊢
 have hs : c + b < 4294967296 := by omega
 unfold Go.bits
 simp only [IntKind.wrap_u32]
 have e2 : IntKind.u32.bits = 32 := rfl
 have ht : (BitVec.ofInt 32 (c : Int) ||| BitVec.ofInt 32 (b : Int)).toNat = c + b := by
  rw [BitVec.toNat_or, BitVec.ofInt_natCast, BitVec.ofInt_natCast, BitVec.toNat_ofNat, BitVec.toNat_ofNat, Nat.mod_eq_of_lt (by omega), Nat.mod_eq_of_lt (by omega), hor]
 rw [e2, ht]
 omega
theorem zl1 {α : Type} {a : α} {l : List α} : (a :: l).length = l.length + 1 := rfl
theorem zl2 {α : Type} : ([] : List α).length = 0 := rfl
theorem nn {α : Type} {a : α} {p : Prop} (h : a ∈ ([] : List α)) : p := (List.not_mem_nil h).elim
def Bytes (l : List Int) : Prop := ∀ x ∈ l, 0 ≤ x ∧ x ≤ 255
theorem bytes_app {l m : List Int} (h : Bytes l) (k : Bytes m) : Bytes (l ++ m) := fun x hx => (List.mem_append.1 hx).elim (h x) (k x)
theorem and16 {a : Int} (h0 : 0 ≤ a) (h1 : a < 4294967296) : Go.bits .and .u32 a 65535 = a % 65536 := by
 have := bits_mask .u32 32 (by decide) (fun n h0 h1 => by rw [IntKind.wrap_u32]; omega) 16 (by decide) a (by omega) (by omega)
 rw [show (65535 : Int) = 2 ^ 16 - 1 by decide, this]
 rfl
theorem or_comm32 (x y : Int) : Go.bits .or .u32 x y = Go.bits .or .u32 y x := by
 unfold Go.bits
 simp only []
 rw [BitVec.or_comm]
def st (a b : Int) : Int := a % 65536 + 65536 * (b % 65536)
theorem st_congr {a b a' b' : Int} (h1 : a % 65536 = a' % 65536) (h2 : b % 65536 = b' % 65536) : st a b = st a' b' := by unfold st; rw [h1, h2]
theorem rin_st (a b c : Int) (h0 : 0 ≤ c) (h1 : c ≤ 255) : rin (st a b) c = st (a + (c + 31)) (b + a + (c + 31)) := by
 show Go.bits .or .u32 (Go.bits .and .u32 ((Go.bits .and .u32 (st a b) 65535 + ((c % 4294967296 + 31) % 4294967296)) % 4294967296) 65535) ((((st a b) / 65536 + ((Go.bits .and .u32 (st a b) 65535 + ((c % 4294967296 + 31) % 4294967296)) % 4294967296)) % 4294967296 * 65536) % 4294967296) = _
 rw [and16 (a := st a b) (by unfold st; omega) (by unfold st; omega)]
 have e1 : st a b % 65536 = a % 65536 := by unfold st; omega
 have e2 : st a b / 65536 = b % 65536 := by unfold st; omega
 rw [e1, e2]
 have e3 : (a % 65536 + ((c % 4294967296 + 31) % 4294967296)) % 4294967296 = a % 65536 + (c + 31) := by omega
 rw [e3, and16 (by omega) (by omega)]
 have e4 : ((b % 65536 + (a % 65536 + (c + 31))) % 4294967296 * 65536) % 4294967296 = ((b + a + (c + 31)) % 65536) * 2 ^ 16 := by
  rw [show (2 : Int) ^ 16 = 65536 by decide]; omega
 have e5 : (a % 65536 + (c + 31)) % 65536 = (a + (c + 31)) % 65536 := by omega
 rw [e4, e5, or_comm32, or_add 16 _ _ (by omega) (by omega) (by omega) (by omega)]
 unfold st
 rw [show (2 : Int) ^ 16 = 65536 by decide]
 omega
def sA : List Int → Int
 | [] => 0
 | c :: l => (c + 31) + sA l
def sB : List Int → Int
 | [] => 0
 | c :: l => ((l.length : Int) + 1) * (c + 31) + sB l
theorem fold_st : ∀ (l : List Int), Bytes l → ∀ a b : Int, l.foldl rin (st a b) = st (a + sA l) (b + (l.length : Int) * a + sB l)
 | [], _, a, b => by
  show st a b = _
  refine st_congr ?_ ?_ <;> simp [sA, sB]
 | c :: l, hb, a, b => by
  have hc := hb c List.mem_cons_self
  rw [List.foldl_cons, rin_st a b c hc.1 hc.2, fold_st l (fun x hx => hb x (List.mem_cons_of_mem _ hx))]
  simp only [sA, sB]
  rw [List.length_cons, Int.natCast_add, Int.natCast_one, Int.add_mul, Int.one_mul, Int.add_mul, Int.one_mul, Int.mul_add (l.length : Int) a (c + 31)]
  refine st_congr ?_ ?_ <;> (congr 1; omega)
theorem rollF_st (l : List Int) (hb : Bytes l) : rollF l = st (sA l) (sB l) := by
 unfold rollF
 rw [show (0 : Int) = st 0 0 from rfl, fold_st l hb]
 refine st_congr ?_ ?_ <;> simp
theorem bytes_wf {l : List Int} (h : ∀ q ∈ l, (Lit.int .u8 q).wf = true) : Bytes l := fun x hx => by
 have := h x hx
 have e0 : IntKind.u8.min = 0 := by decide
 have e1 : IntKind.u8.max = 255 := by decide
 simp [Lit.wf, e0, e1] at this
 omega
def rout (w n c : Int) : Int := (roll_Out.f w n c).getD 0
theorem rout_of (w n c : Int) : roll_Out.f w n c = some (rout w n c) := rfl
theorem and16l {n : Int} (h0 : 0 ≤ n) (h1 : n < 4611686018427387904) : Go.bits .and .i64 n 65535 = n % 65536 := by
 have := bits_mask .i64 62 (by decide) (fun n h0 h1 => by rw [IntKind.wrap_i64]; omega) 16 (by decide) n (by omega) (by omega)
 rw [show (65535 : Int) = 2 ^ 16 - 1 by decide, this]
 rfl
theorem rout_st (a b n c : Int) (h0 : 0 ≤ c) (h1 : c ≤ 255) (hn : 0 ≤ n) (hn1 : n ≤ 65535) : rout (st a b) n c = st (a - (c + 31)) (b - n * (c + 31)) := by
 show Go.bits .or .u32 (Go.bits .and .u32 ((Go.bits .and .u32 (st a b) 65535 - ((c % 4294967296 + 31) % 4294967296)) % 4294967296) 65535) (((((st a b) / 65536 - (((Go.bits .and .i64 n 65535) % 4294967296 * ((c % 4294967296 + 31) % 4294967296)) % 4294967296)) % 4294967296) * 65536) % 4294967296) = _
 rw [and16 (a := st a b) (by unfold st; omega) (by unfold st; omega), and16l hn (by omega)]
 have e1 : st a b % 65536 = a % 65536 := by unfold st; omega
 have e2 : st a b / 65536 = b % 65536 := by unfold st; omega
 have e3 : (c % 4294967296 + 31) % 4294967296 = c + 31 := by omega
 have e4 : n % 65536 % 4294967296 = n := by omega
 rw [e1, e2, e3, e4]
 obtain ⟨D, hD⟩ : ∃ D, D = c + 31 := ⟨_, rfl⟩
 rw [← hD]
 have hp0 : 0 ≤ n * D := Int.mul_nonneg hn (by omega)
 have hp1 : n * D ≤ 65535 * 286 := Int.mul_le_mul hn1 (by omega) (by omega) (by omega)
 obtain ⟨p, hp⟩ : ∃ p, p = n * D := ⟨_, rfl⟩
 rw [← hp] at hp0 hp1 ⊢
 rw [show p % 4294967296 = p by omega]
 have e5 : (a % 65536 - D) % 4294967296 % 65536 = (a - D) % 65536 := by omega
 rw [and16 (by omega) (by omega), e5]
 have e6 : ((b % 65536 - p) % 4294967296 * 65536) % 4294967296 = ((b - p) % 65536) * 2 ^ 16 := by
  rw [show (2 : Int) ^ 16 = 65536 by decide]; omega
 rw [e6, or_comm32, or_add 16 _ _ (by omega) (by omega) (by omega) (by omega)]
 unfold st
 rw [show (2 : Int) ^ 16 = 65536 by decide]
 omega
theorem rout_cons {c : Int} {l : List Int} (hb : Bytes (c :: l)) (hl : l.length ≤ 65000) : rout (rollF (c :: l)) ((c :: l).length : Int) c = rollF l := by
 have hc := hb c List.mem_cons_self
 rw [rollF_st _ hb, rollF_st l (fun x hx => hb x (List.mem_cons_of_mem _ hx)), rout_st _ _ _ _ hc.1 hc.2 (by omega) (by rw [List.length_cons]; omega)]
 simp only [sA, sB]
 rw [List.length_cons, Int.natCast_add, Int.natCast_one]
 refine st_congr ?_ ?_
 ·congr 1; omega
 ·congr 1; omega
theorem rin_any (x n c : Int) : roll_In.f x n c = some (rin x c) := rfl
theorem rollF_snoc (l : List Int) (c : Int) : rollF (l ++ [c]) = rin (rollF l) c := by unfold rollF; rw [List.foldl_append]; rfl
def pkX (l : List S55) (s b n : Int) (x : Mst) : Int × Bool := pkV l s b x.weak (markF x.left n).f1 (x.left.length : Int) x.want
def tP (l : List S55) (s b n : Int) (x : Mst) : Option Mst :=
 if (pkX l s b n x).2 = true then some ⟨0, [], (pkX l s b n x).1 + 1, [], tl x.told x.out ++ [⟨(pkX l s b n x).1 * b, lenAt s b (pkX l s b n x).1.toNat, []⟩]⟩ else none
def hP (x : Mst) : Mst :=
 match x.left with
 | [] => x
 | c :: rest => ⟨rollF rest, rest, x.want, x.told ++ [c], x.out⟩
def pushP (x : Mst) (c : Int) : Mst := ⟨rin x.weak c, x.left ++ [c], x.want, x.told, x.out⟩
def sP (l : List S55) (s b n : Int) (x : Mst) (c : Int) : Mst := if ((x.left ++ [c]).length : Int) = b then (tP l s b n (pushP x c)).getD (hP (pushP x c)) else pushP x c
def gP (l : List S55) (s b n : Int) (x : Mst) (cs : List Int) : Mst := cs.foldl (sP l s b n) x
def dP (l : List S55) (s b n q : Int) : Nat → Mst → Mst
 | 0, x => x
 | j + 1, x => if x.left.length = 0 then x else if (x.left.length : Int) = q then (tP l s b n x).getD (dP l s b n q j (hP x)) else dP l s b n q j (hP x)
structure Iv (b : Int) (m : Nat) (x : Mst) : Prop where
 w : x.weak = rollF x.left
 by_ : Bytes x.left
 le : x.left.length ≤ 4096
 td : x.told.length ≤ m
 ou : x.out.length ≤ 2 * m
theorem fst0_mem' {L : List Int} (h : (fst0 L).2 = true) : (fst0 L).1 ∈ L := by
 cases L with
 | nil => cases h
 | cons a t => exact List.mem_cons_self
theorem pk_true {l : List S55} {s b w : Int} {sg : ByteArray} {n want : Int} (h : (pkV l s b w sg n want).2 = true) : ∃ i : Nat, (pkV l s b w sg n want).1 = (i : Int) ∧ i < l.length ∧ hasV l s b w sg n i = true := by
 unfold pkV at h ⊢
 by_cases hc : 0 ≤ want ∧ want < (l.length : Int) ∧ hasV l s b w sg n want.toNat = true
 ·rw [if_pos hc]
  exact ⟨want.toNat, by show want = _; omega, by omega, hc.2.2⟩
 ·rw [if_neg hc] at h ⊢
  have hm := fst0_mem' h
  unfold nums at hm ⊢
  obtain ⟨i, hi, e⟩ := List.mem_map.1 hm
  obtain ⟨h1, h2⟩ := List.mem_filter.1 hi
  exact ⟨i, e.symm, List.mem_range.1 h1, h2⟩
theorem has_weak {l : List S55} {s b w : Int} {sg : ByteArray} {n : Int} {i : Nat} (h : hasV l s b w sg n i = true) : wkOf l i = w ∧ lenAt s b i = n := by
 unfold hasV at h
 simp only [Bool.and_eq_true, decide_eq_true_eq] at h
 exact ⟨h.1.2, h.1.1⟩
theorem mn_le (a b : Int) : mn a b ≤ a ∧ mn a b ≤ b ∧ (mn a b = a ∨ mn a b = b) := by unfold mn; split <;> omega
theorem blk_in {s b n : Int} {l : List S55} (hc : Ck s b n l = 0) {i : Nat} (hi : i < l.length) : 0 ≤ (i : Int) * b ∧ (i : Int) * b + b ≤ s + b + b ∧ (i : Int) * b < s ∧ mn s (((i : Int) + 1) * b) ≤ s ∧ (i : Int) * b ≤ mn s (((i : Int) + 1) * b) ∧ s ≤ 131072 ∧ 16 ≤ b ∧ b ≤ 4096 ∧ 1 ≤ lenAt s b i ∧ lenAt s b i ≤ b := by
 obtain ⟨hf, hl, _⟩ := ck_ok hc
 have hr := (fr_ok hf).2
 obtain ⟨h1, h2, h3, h4⟩ := rg_true hr
 have hb := ct_bounds hr
 have h5 : ((i : Int) + 1) * b ≤ Ct s b * b := Int.mul_le_mul_of_nonneg_right (by omega) (by omega)
 have h6 : 0 ≤ (i : Int) * b := Int.mul_nonneg (by omega) (by omega)
 rw [Int.add_mul, Int.one_mul] at h5
 have h7 := mn_le s (((i : Int) + 1) * b)
 unfold lenAt
 rw [Int.add_mul, Int.one_mul] at h7 ⊢
 omega
theorem take_of {s b n : Int} {l : List S55} (hc : Ck s b n l = 0) (x : Mst) (h1 : x.out.length ≤ 900000) (h2 : x.left.length ≤ 1000000) : Ev (fun k => takeF k l s b n x) (tP l s b n x) := by
 obtain ⟨hf, hl, _⟩ := ck_ok hc
 obtain ⟨hn, hr⟩ := fr_ok hf
 have h8 : l.length ≤ 1000000 := by have := (ct_bounds hr).2.2.2; omega
 have hpk := pick_of l s b hl h8 x.weak (markF x.left n).f1 (x.left.length : Int) x.want
 unfold takeF tP pkX
 refine ev_pos ⟨h1, h2⟩ (Ev.bind (find_of l s b x.weak h8) ?_)
 by_cases h0 : (nums (fun i => decide (wkOf l i = x.weak)) l.length).length = 0
 ·refine ev_pos h0 ?_
  rw [pk_none x.want (fun i hi => ?_), if_neg (by decide)]
  ·exact Ev.now _
  ·by_cases hv : hasV l s b x.weak (markF x.left n).f1 (x.left.length : Int) i = true
   ·have hw := (has_weak hv).1
    have : (i : Int) ∈ nums (fun i => decide (wkOf l i = x.weak)) l.length := List.mem_map.2 ⟨i, List.mem_filter.2 ⟨List.mem_range.2 hi, decide_eq_true hw⟩, rfl⟩
    rw [List.eq_nil_of_length_eq_zero h0] at this
    cases this
   ·exact Bool.eq_false_iff.2 hv
 ·refine ev_neg h0 (Ev.bind (ev_some (cut_of x.left (by omega) n (by omega) hn.2)) (Ev.bind hpk ?_))
  by_cases hp : (pkV l s b x.weak (markF x.left n).f1 (x.left.length : Int) x.want).2 = true
  ·obtain ⟨i, e1, hi, hv⟩ := pk_true hp
   rw [if_pos hp, e1]
   refine ev_neg (by rw [hp]; decide) ?_
   have hb := blk_in hc hi
   have hi8 : l.length ≤ 8192 := by have := (ct_bounds hr).2.2.2; omega
   refine Ev.bind (a := ((i : Int) * b, mn s (((i : Int) + 1) * b), true)) (ev_some (range_yes (by omega) (by omega))) ?_
   refine ev_pos ⟨by omega, by dsimp only; omega⟩ ?_
   rw [Int.toNat_natCast]
   exact Ev.now _
  ·rw [if_neg hp]
   exact ev_pos (Bool.eq_false_iff.2 hp) (Ev.now _)
theorem shift_of {b : Int} {m : Nat} {x : Mst} (h : Iv b m x) (hm : m ≤ 400000) (hne : x.left ≠ []) : shiftF x = some (hP x) := by
 obtain ⟨w, left, want, told, out⟩ := x
 obtain ⟨h1, h2, h3, h4, h5⟩ := h
 dsimp only at h1 h2 h3 h4 h5 hne
 cases left with
 | nil => exact absurd rfl hne
 | cons c rest =>
  subst h1
  show (if (c :: rest).length ≤ 1000000 ∧ told.length ≤ 1000000 then (roll_Out.f (rollF (c :: rest)) ((c :: rest).length : Int) c).bind fun r => some (⟨r, rest, want, told ++ [c], out⟩ : Mst) else none) = _
  rw [if_pos ⟨by omega, by omega⟩, rout_of, Option.bind_some, rout_cons h2 (by rw [List.length_cons] at h3; omega)]
  rfl
theorem tl_len2 (told : List Int) (out : List S47) : (tl told out).length ≤ out.length + 1 := by
 unfold tl
 split
 ·omega
 ·rw [List.length_append]; simp
theorem take_iv {l : List S55} {s b n : Int} {m : Nat} {x y : Mst} (h : Iv b m x) (hy : tP l s b n x = some y) : Iv b (m + 1) y ∧ y.left = [] ∧ y.told = [] := by
 unfold tP at hy
 split at hy
 ·cases hy
  refine ⟨⟨rfl, fun _ => nn, Nat.zero_le _, Nat.zero_le _, ?_⟩, rfl, rfl⟩
  have := tl_len2 x.told x.out
  have := h.ou
  rw [List.length_append]
  simp only [List.length_cons, List.length_nil]
  omega
 ·cases hy
theorem shift_iv {b : Int} {m : Nat} {x : Mst} (h : Iv b m x) : Iv b (m + 1) (hP x) ∧ (hP x).left.length = x.left.length - 1 := by
 obtain ⟨w, left, want, told, out⟩ := x
 obtain ⟨h1, h2, h3, h4, h5⟩ := h
 dsimp only at h1 h2 h3 h4 h5
 cases left with
 | nil => exact ⟨⟨h1, h2, h3, by show told.length ≤ m + 1; omega, by show out.length ≤ 2 * (m + 1); omega⟩, rfl⟩
 | cons c rest =>
  refine ⟨⟨rfl, fun x hx => h2 x (List.mem_cons_of_mem _ hx), by show rest.length ≤ 4096; rw [List.length_cons] at h3; omega, ?_, by show out.length ≤ 2 * (m + 1); omega⟩, rfl⟩
  show (told ++ [c]).length ≤ m + 1
  rw [List.length_append, zl1, zl2]
  omega
theorem push_iv {b : Int} {m : Nat} {x : Mst} {c : Int} (h : Iv b m x) (hc : 0 ≤ c ∧ c ≤ 255) (hl : x.left.length < 4096) : Iv b m (pushP x c) := by
 refine ⟨?_, bytes_app h.by_ (fun x hx => by rw [List.mem_singleton.1 hx]; exact hc), ?_, h.td, h.ou⟩
 ·show rin x.weak c = rollF (x.left ++ [c])
  rw [rollF_snoc, h.w]
 ·show (x.left ++ [c]).length ≤ 4096
  rw [List.length_append, zl1, zl2]
  omega
theorem iv_up {b : Int} {m : Nat} {x : Mst} (h : Iv b m x) : Iv b (m + 1) x := ⟨h.w, h.by_, h.le, by have := h.td; omega, by have := h.ou; omega⟩
theorem step_of {s b n : Int} {l : List S55} (hc : Ck s b n l = 0) {m : Nat} {x : Mst} {c : Int} (h : Iv b m x) (hm : m ≤ 400000) (hcb : 0 ≤ c ∧ c ≤ 255) (hl : (x.left.length : Int) < b) :
    Ev (fun k => stepF k l s b n x c) (sP l s b n x c) ∧ Iv b (m + 1) (sP l s b n x c) ∧ ((sP l s b n x c).left.length : Int) < b := by
 have hb4 : 16 ≤ b ∧ b ≤ 4096 := by have := rg_true (fr_ok (ck_ok hc).1).2; omega
 have hp := push_iv h hcb (by omega)
 have hln : ((x.left ++ [c]).length : Int) = (x.left.length : Int) + 1 := by rw [List.length_append]; simp
 unfold stepF sP
 by_cases hfull : ((x.left ++ [c]).length : Int) = b
 ·have ht := take_of hc (pushP x c) (by have := hp.ou; omega) (by have := hp.le; omega)
  have hs := shift_of hp (by omega) (by show x.left ++ [c] ≠ []; simp)
  rw [if_pos hfull]
  cases hy : tP l s b n (pushP x c) with
  | some y =>
   have hi := take_iv hp hy
   rw [hy] at ht
   refine ⟨ev_pos (by have := h.le; omega) (Ev.bind (ev_some (rin_any _ _ _)) (ev_pos hfull (Ev.bind ht (Ev.now _)))), hi.1, ?_⟩
   show (y.left.length : Int) < b
   rw [hi.2.1]
   show (0 : Int) < b
   omega
  | none =>
   have hi := shift_iv hp
   rw [hy] at ht
   refine ⟨ev_pos (by have := h.le; omega) (Ev.bind (ev_some (rin_any _ _ _)) (ev_pos hfull (Ev.bind ht (ev_some hs)))), hi.1, ?_⟩
   show ((hP (pushP x c)).left.length : Int) < b
   rw [hi.2, show (pushP x c).left = x.left ++ [c] from rfl]
   omega
 ·rw [if_neg hfull]
  refine ⟨ev_pos (by have := h.le; omega) (Ev.bind (ev_some (rin_any _ _ _)) (ev_neg hfull (Ev.now _))), iv_up hp, ?_⟩
  show ((x.left ++ [c]).length : Int) < b
  omega
theorem feed_of {s b n : Int} {l : List S55} (hc : Ck s b n l = 0) : ∀ (cs : List Int) (m : Nat) (x : Mst), Iv b m x → m + cs.length ≤ 400000 → Bytes cs → (x.left.length : Int) < b →
    Ev (fun k => feedF k l s b n x cs) (gP l s b n x cs) ∧ Iv b (m + cs.length) (gP l s b n x cs) ∧ ((gP l s b n x cs).left.length : Int) < b
 | [], m, x, h, hm, hb, hl => ⟨Ev.now _, h, hl⟩
 | c :: cs, m, x, h, hm, hb, hl => by
  rw [List.length_cons] at hm
  obtain ⟨h1, h2, h3⟩ := step_of hc h (by omega) (hb c List.mem_cons_self) hl
  obtain ⟨k1, k2, k3⟩ := feed_of hc cs (m + 1) _ h2 (by omega) (fun x hx => hb x (List.mem_cons_of_mem _ hx)) h3
  refine ⟨Ev.bind h1 k1, ?_, k3⟩
  rw [List.length_cons, show m + (cs.length + 1) = m + 1 + cs.length by omega]
  exact k2
theorem done_of {s b n q : Int} {l : List S55} (hc : Ck s b n l = 0) : ∀ (j m : Nat) (x : Mst), Iv b m x → m + j ≤ 400000 → x.left.length ≤ j → Ev (fun k => doneF k l s b n q j x) (dP l s b n q j x) ∧ Iv b (m + j) (dP l s b n q j x)
 | 0, m, x, h, hm, hj => by
  refine ⟨ev_pos (by omega) (Ev.now _), h⟩
 | j + 1, m, x, h, hm, hj => by
  have hup : ∀ {y : Mst}, Iv b m y → Iv b (m + (j + 1)) y := fun h => ⟨h.w, h.by_, h.le, by have := h.td; omega, by have := h.ou; omega⟩
  unfold doneF dP
  by_cases h0 : x.left.length = 0
  ·rw [if_pos h0]
   exact ⟨ev_pos h0 (Ev.now _), hup h⟩
  ·rw [if_neg h0]
   have hne : x.left ≠ [] := fun e => h0 (by rw [e]; rfl)
   have hs := shift_of h (by omega) hne
   have hi := shift_iv h
   obtain ⟨k1, k2⟩ := done_of hc j (m + 1) (hP x) hi.1 (by omega) (by rw [hi.2]; omega)
   rw [show m + 1 + j = m + (j + 1) by omega] at k2
   by_cases hq : (x.left.length : Int) = q
   ·rw [if_pos hq]
    have ht := take_of hc x (by have := h.ou; omega) (by have := h.le; omega)
    cases hy : tP l s b n x with
    | some y =>
     rw [hy] at ht
     have hv := (take_iv h hy).1
     exact ⟨ev_neg h0 (ev_pos hq (Ev.bind ht (Ev.now _))), ⟨hv.w, hv.by_, hv.le, by have := hv.td; show y.told.length ≤ _; omega, by have := hv.ou; show y.out.length ≤ _; omega⟩⟩
    | none =>
     rw [hy] at ht
     exact ⟨ev_neg h0 (ev_pos hq (Ev.bind ht (Ev.bind (ev_some hs) k1))), k2⟩
   ·rw [if_neg hq]
    exact ⟨ev_neg h0 (ev_neg hq (Ev.bind (ev_some hs) k1)), k2⟩
def lastP (s b : Int) (l : List S55) : Int := if l.length = 0 then 0 else lenAt s b (l.length - 1)
theorem last_of {s b n : Int} {l : List S55} (hc : Ck s b n l = 0) : ∃ q, blocks_Range.f s b ((l.length : Int) - 1) = some q ∧ wrap64 (q.2.1 - q.1) = lastP s b l := by
 obtain ⟨hf, hl, _⟩ := ck_ok hc
 unfold lastP
 by_cases h0 : l.length = 0
 ·rw [if_pos h0]
  exact ⟨_, range_no (Or.inl (by omega)), by unfold wrap64; decide⟩
 ·rw [if_neg h0]
  have e : ((l.length : Int) - 1) = ((l.length - 1 : Nat) : Int) := by omega
  rw [e]
  exact ⟨_, range_yes (by omega) (by omega), lenAt_in (by omega)⟩
def x0P : Mst := ⟨0, [], 0, [], []⟩
def fP (l : List S55) (s b n : Int) (cs : List Int) : Mst := gP l s b n x0P cs
def eP (l : List S55) (s b n : Int) (x : Mst) : Mst := dP l s b n (lastP s b l) 70000 ⟨x.weak, x.left, x.want, [], []⟩
def opsP (l : List S55) (s b n : Int) (cs : List Int) : List S47 := tl (fP l s b n cs).told (fP l s b n cs).out ++ tl (eP l s b n (fP l s b n cs)).told (eP l s b n (fP l s b n cs)).out
theorem of_of {s b n : Int} {l : List S55} (hc : Ck s b n l = 0) (cs : List Int) (hb : Bytes cs) (hl : cs.length ≤ 65536) {r : List S47} (hn : delta_Norm.f (opsP l s b n cs) = some r) : Ev (fun k => match_Of.f k s b n l cs) (r, 0) := by
 have h8 : l.length ≤ 1000000 := by have := (ct_bounds (fr_ok (ck_ok hc).1).2).2.2.2; have := (ck_ok hc).2.1; omega
 have hb4 : 16 ≤ b := by have := rg_true (fr_ok (ck_ok hc).1).2; omega
 have hx0 : Iv b 0 x0P := ⟨rfl, fun _ => nn, Nat.zero_le _, Nat.le_refl _, Nat.le_refl _⟩
 obtain ⟨f1, f2, f3⟩ := feed_of hc cs 0 x0P hx0 (by omega) hb (show ((0 : Nat) : Int) < b by omega)
 obtain ⟨q, q1, q2⟩ := last_of hc
 have hy : Iv b 0 ⟨(fP l s b n cs).weak, (fP l s b n cs).left, (fP l s b n cs).want, [], []⟩ := ⟨f2.w, f2.by_, f2.le, Nat.le_refl _, Nat.le_refl _⟩
 obtain ⟨d1, d2⟩ := done_of (q := lastP s b l) hc 70000 0 _ hy (by omega) (by have := f2.le; show (fP l s b n cs).left.length ≤ 70000; unfold fP; omega)
 unfold match_Of.f
 refine Ev.bind (ev_some (check_of s b n l)) (ev_neg (by rw [hc]; decide) (ev_pos h8 (ev_neg (by omega) (Ev.bind f1 (Ev.bind (ev_some q1) (ev_pos (by have := f2.ou; omega) ?_))))))
 rw [q2]
 exact Ev.bind d1 (ev_pos (by have := d2.ou; show (dP _ _ _ _ _ _ _).out.length ≤ _; omega) (Ev.bind (ev_some hn) (Ev.now _)))
theorem rd40 {l : List S47} {i : Nat} (h : i < l.length) : rd_T47 l (i : Int) = l[i] := by
 unfold rd_T47
 rw [Int.toNat_natCast, List.getD_eq_getElem?_getD, List.getElem?_eq_getElem h, Option.getD_some]
theorem step40 {l : List S47} {i : Nat} (h : i < l.length) : l.drop i = rd_T47 l (i : Int) :: l.drop (i + 1) := by
 rw [rd40 h]
 exact List.drop_eq_getElem_cons h
theorem end40 {l : List S47} {i : Nat} (h : i + 0 = l.length) : l.drop i = [] := List.drop_eq_nil_of_le (by omega)
theorem inc {i n : Nat} (h : i < n) (hn : n ≤ 4000000000000) : wrap64 ((i : Int) + 1) = ((i + 1 : Nat) : Int) := by unfold wrap64; omega
def ln (o : S47) : Int := if (o.f2.length : Int) > 0 then (o.f2.length : Int) else mx o.f1 0
theorem mx0 (x : Int) : 0 ≤ mx x 0 ∧ x ≤ mx x 0 ∧ (mx x 0 = x ∨ mx x 0 = 0) := by unfold mx; split <;> omega
theorem told_d (o : S47) : delta_told.f o.f0 o.f1 o.f2 = some (decide ((o.f2.length : Int) > 0)) := rfl
theorem len_d (o : S47) : delta_length.f o.f0 o.f1 o.f2 = some (ln o) := by
 unfold delta_length.f delta_told.f ln
 by_cases h : (o.f2.length : Int) > 0
 ·rw [Option.bind_some, decide_eq_true h, if_pos rfl, if_pos h]
 ·rw [Option.bind_some, decide_eq_false h, if_neg (by decide), if_neg h]
def costL : Int → Int → List S47 → Int × Int
 | a, b, [] => (a, b)
 | a, b, o :: l => if (o.f2.length : Int) > 0 then costL (wrap64 (a + ln o)) b l else costL a (wrap64 (b + ln o)) l
theorem cost_loop (l : List S47) (hn : l.length ≤ 4000000000000) : ∀ (d k i : Nat) (a b : Int), i + d = l.length → d < k → delta_Cost.l0 k a b l (l.length : Int) (i : Int) = some (costL a b (l.drop i)) := by
 intro d
 induction d with
 | zero =>
  intro k i a b hi hk
  obtain ⟨k, rfl⟩ : ∃ m, k = m + 1 := ⟨k - 1, by omega⟩
  simp only [delta_Cost.l0]
  rw [if_neg (by omega), end40 hi]
  rfl
 | succ d ih =>
  intro k i a b hi hk
  obtain ⟨k, rfl⟩ : ∃ m, k = m + 1 := ⟨k - 1, by omega⟩
  have hlt : i < l.length := by omega
  simp only [delta_Cost.l0]
  rw [if_pos (by omega), if_pos (by omega), if_pos (by omega), told_d, Option.bind_some, step40 hlt, inc hlt hn, len_d]
  simp only [costL]
  by_cases h : ((rd_T47 l (i : Int)).f2.length : Int) > 0
  ·rw [decide_eq_true h, if_pos rfl, if_pos h, Option.bind_some]
   exact ih k (i + 1) _ _ (by omega) (by omega)
  ·rw [decide_eq_false h, if_neg (by decide), if_neg h, Option.bind_some]
   exact ih k (i + 1) _ _ (by omega) (by omega)
theorem cost_d (l : List S47) (hn : l.length ≤ 4000000000000) {k : Nat} (hk : l.length < k) : delta_Cost.f k l = some (costL 0 0 l) := by
 have := cost_loop l hn l.length k 0 0 0 (by omega) (by omega)
 rw [List.drop_zero] at this
 exact this
theorem map_of_to (l : List S47) : (l.map toT).map ofT = l := by
 rw [List.map_map]
 exact List.map_id l
def told (o : S47) : Prop := o.f2 ≠ []
def skp (o : S47) : Prop := o.f2 = [] ∧ o.f1 ≤ 0
def nrmS (o : S47) : S47 := if o.f2 = [] then o else ⟨0, 0, o.f2⟩
def goS (p o : S47) : Prop := o.f1 ≤ 131072 ∧ 0 ≤ p.f0 ∧ p.f0 ≤ 131072 ∧ p.f1 ≤ wrap64 (131072 - p.f0) ∧ wrap64 (p.f0 + p.f1) = o.f0
instance (p o : S47) : Decidable (goS p o) := by unfold goS; infer_instance
def joinS (p o : S47) : List S47 :=
 if p.f2 = [] then (if o.f2 = [] then (if goS p o then [⟨p.f0, wrap64 (p.f1 + o.f1), p.f2⟩] else [p, nrmS o]) else [p, nrmS o])
 else if o.f2 = [] then [p, nrmS o] else [⟨p.f0, p.f1, p.f2 ++ o.f2⟩]
def addS (xs : List S47) (o : S47) : List S47 := (Jn.addL (xs.map toT) (toT o)).map ofT
theorem nrm_of (o : S47) : ofT (Jn.nrm (toT o)) = nrmS o := by
 unfold Jn.nrm nrmS
 show ofT (if o.f2 = [] then toT o else (0, 0, o.f2)) = _
 split <;> rfl
theorem join_of (p o : S47) : (Jn.join2 (toT p) (toT o)).map ofT = joinS p o := by
 unfold Jn.join2 joinS
 show (if p.f2 = [] then (if o.f2 = [] then (if goS p o then [((toT p).1, wrap64 ((toT p).2.1 + (toT o).2.1), (toT p).2.2)] else [toT p, Jn.nrm (toT o)]) else [toT p, Jn.nrm (toT o)]) else if o.f2 = [] then [toT p, Jn.nrm (toT o)] else [((toT p).1, (toT p).2.1, (toT p).2.2 ++ (toT o).2.2)]).map ofT = _
 have hn : [toT p, Jn.nrm (toT o)].map ofT = [p, nrmS o] := by rw [List.map_cons, List.map_cons, nrm_of]; rfl
 by_cases h1 : p.f2 = []
 ·rw [if_pos h1, if_pos h1]
  by_cases h2 : o.f2 = []
  ·rw [if_pos h2, if_pos h2]
   by_cases h3 : goS p o
   ·rw [if_pos h3, if_pos h3]; rfl
   ·rw [if_neg h3, if_neg h3]; exact hn
  ·rw [if_neg h2, if_neg h2]; exact hn
 ·rw [if_neg h1, if_neg h1]
  by_cases h2 : o.f2 = []
  ·rw [if_pos h2, if_pos h2]; exact hn
  ·rw [if_neg h2, if_neg h2]; rfl
theorem add_skip {xs : List S47} {o : S47} (h : skp o) : addS xs o = xs := by
 have e : Jn.addL (xs.map toT) (toT o) = xs.map toT := by unfold Jn.addL; rw [if_pos (show (toT o).2.2 = [] ∧ (toT o).2.1 ≤ 0 from h)]
 unfold addS
 rw [e, map_of_to]
theorem add_nil {o : S47} (h : ¬ skp o) : addS [] o = [nrmS o] := by
 unfold addS
 rw [List.map_nil, Jn.addL_nil (toT o) h, List.map_cons, nrm_of]
 rfl
theorem add_snoc {ys : List S47} {p o : S47} (h : ¬ skp o) : addS (ys ++ [p]) o = ys ++ joinS p o := by
 unfold addS
 rw [List.map_append, show [p].map toT = [toT p] from rfl, Jn.addL_snoc (ys.map toT) (toT p) (toT o) h, List.map_append, map_of_to, join_of]
def normS (l : List S47) : List S47 := l.foldl addS []
theorem fold_of : ∀ (l xs : List S47), ((l.map toT).foldl Jn.addL (xs.map toT)).map ofT = l.foldl addS xs
 | [], xs => map_of_to xs
 | o :: l, xs => by
  rw [List.map_cons, List.foldl_cons, List.foldl_cons, ← fold_of l (addS xs o)]
  unfold addS
  rw [map_to_of]
theorem wt_le (l : List S47) (h : ∀ o ∈ l, o.f2.length ≤ 65536) : Jn.wt (l.map toT) ≤ l.length * 65536 := by
 induction l with
 | nil => simp [Jn.wt_nil]
 | cons o l ih =>
  rw [List.map_cons, Jn.wt_cons, List.length_cons]
  have h1 := ih (fun x hx => h x (List.mem_cons_of_mem _ hx))
  have h2 : (toT o).2.2.length ≤ 65536 := h o List.mem_cons_self
  omega
def NJ (x y : S47) : Prop := ¬ (x.f2 ≠ [] ∧ y.f2 ≠ []) ∧ ¬ (x.f2 = [] ∧ y.f2 = [] ∧ goS x y)
def CH (xs : List S47) : Prop := ∀ (i : Nat) (x y : S47), xs[i]? = some x → xs[i + 1]? = some y → NJ x y
def GD (o : S47) : Prop := (o.f2 ≠ [] → o.f0 = 0 ∧ o.f1 = 0) ∧ (o.f2 = [] → 1 ≤ o.f1)
theorem ch_nil : CH [] := fun i x y h => by simp at h
theorem ch_one (p : S47) : CH [p] := fun i x y _ h => by simp at h
theorem ch_two {A : List S47} {p q : S47} (h : CH (A ++ [p])) (hn : NJ p q) : CH (A ++ [p, q]) := by
 intro i x y hx hy
 have e : A ++ [p, q] = (A ++ [p]) ++ [q] := by simp
 rw [e] at hx hy
 have hlen : (A ++ [p]).length = A.length + 1 := by simp
 by_cases hi : i + 1 < A.length + 1
 ·rw [List.getElem?_append_left (by omega)] at hx hy
  exact h i x y hx hy
 ·have hlt := (List.getElem?_eq_some_iff.1 hy).1
  rw [List.length_append, hlen, List.length_singleton] at hlt
  have hi2 : i = A.length := by omega
  subst hi2
  rw [List.getElem?_append_left (by omega), List.getElem?_append_right (Nat.le_refl _), Nat.sub_self] at hx
  rw [List.getElem?_append_right (by omega), hlen, Nat.sub_self] at hy
  obtain rfl := Option.some.inj hx
  obtain rfl := Option.some.inj hy
  exact hn
theorem ch_last {A : List S47} {p p' : S47} (h : CH (A ++ [p])) (hn : ∀ x, NJ x p → NJ x p') : CH (A ++ [p']) := by
 intro i x y hx hy
 have hlt := (List.getElem?_eq_some_iff.1 hy).1
 rw [List.length_append, List.length_singleton] at hlt
 rw [List.getElem?_append_left (by omega)] at hx
 by_cases hi : i + 1 < A.length
 ·rw [List.getElem?_append_left hi] at hy
  exact h i x y (by rw [List.getElem?_append_left (by omega)]; exact hx) (by rw [List.getElem?_append_left hi]; exact hy)
 ·have hi2 : i + 1 = A.length := by omega
  rw [List.getElem?_append_right (by omega), hi2, Nat.sub_self] at hy
  obtain rfl := Option.some.inj hy
  exact hn x (h i x p (by rw [List.getElem?_append_left (by omega)]; exact hx) (by rw [List.getElem?_append_right (by omega), hi2, Nat.sub_self]; rfl))
theorem go_sum {p o : S47} (h : goS p o) (hp : 1 ≤ p.f1) (ho : 1 ≤ o.f1) : wrap64 (p.f1 + o.f1) = p.f1 + o.f1 ∧ p.f0 + p.f1 = o.f0 ∧ p.f1 ≤ 131072 - p.f0 := by
 obtain ⟨h1, h2, h3, h4, h5⟩ := h
 rw [w64 (131072 - p.f0) (by omega) (by omega)] at h4
 rw [w64 (p.f0 + p.f1) (by omega) (by omega)] at h5
 exact ⟨w64 _ (by omega) (by omega), h5, h4⟩
theorem gd_nrm {o : S47} (h : ¬ skp o) : GD (nrmS o) := by
 unfold nrmS
 by_cases h2 : o.f2 = []
 ·rw [if_pos h2]
  exact ⟨fun h3 => absurd h2 h3, fun _ => by
   rcases Int.lt_or_le o.f1 1 with h4 | h4
   ·exact absurd ⟨h2, by omega⟩ h
   ·exact h4⟩
 ·rw [if_neg h2]
  exact ⟨fun _ => ⟨rfl, rfl⟩, fun h3 => absurd h3 h2⟩
theorem nrm_two {o : S47} : (nrmS o).f2 = o.f2 := by
 unfold nrmS
 split <;> rfl
theorem inv_add {xs : List S47} {o : S47} (hc : CH xs) (hg : ∀ x ∈ xs, GD x) : CH (addS xs o) ∧ ∀ x ∈ addS xs o, GD x := by
 by_cases hk : skp o
 ·rw [add_skip hk]
  exact ⟨hc, hg⟩
 rcases Jn.snoc_cases xs with rfl | ⟨ys, p, rfl⟩
 ·rw [add_nil hk]
  exact ⟨ch_one _, fun x hx => by rw [List.mem_singleton.1 hx]; exact gd_nrm hk⟩
 rw [add_snoc hk]
 have hp := hg p (by simp)
 have hg' : ∀ x ∈ ys, GD x := fun x hx => hg x (by simp [hx])
 have two : NJ p (nrmS o) → CH (ys ++ [p, nrmS o]) ∧ ∀ x ∈ ys ++ [p, nrmS o], GD x := fun hn => ⟨ch_two hc hn, fun x hx => by
  rcases List.mem_append.1 hx with hx | hx
  ·exact hg' x hx
  ·simp only [List.mem_cons, List.not_mem_nil, or_false] at hx
   rcases hx with rfl | rfl
   ·exact hp
   ·exact gd_nrm hk⟩
 have one : ∀ p' : S47, (∀ x, NJ x p → NJ x p') → GD p' → CH (ys ++ [p']) ∧ ∀ x ∈ ys ++ [p'], GD x := fun p' hn hd => ⟨ch_last hc hn, fun x hx => by
  rcases List.mem_append.1 hx with hx | hx
  ·exact hg' x hx
  ·rw [List.mem_singleton.1 hx]
   exact hd⟩
 unfold joinS
 by_cases h1 : p.f2 = []
 ·rw [if_pos h1]
  by_cases h2 : o.f2 = []
  ·rw [if_pos h2]
   have ho : 1 ≤ o.f1 := by
    rcases Int.lt_or_le o.f1 1 with h4 | h4
    ·exact absurd ⟨h2, by omega⟩ hk
    ·exact h4
   by_cases h3 : goS p o
   ·rw [if_pos h3]
    obtain ⟨e1, e2, e3⟩ := go_sum h3 (hp.2 h1) ho
    refine one _ (fun x hx => ⟨fun h => h.2 h1, fun h => hx.2 ⟨h.1, h1, ?_⟩⟩) ⟨fun h => absurd h1 h, fun _ => ?_⟩
    ·obtain ⟨_, _, q1, q2, q3, q4, q5⟩ := h
     have q1' : wrap64 (p.f1 + o.f1) ≤ 131072 := q1
     exact ⟨by rw [e1] at q1'; omega, q2, q3, q4, q5⟩
    ·show 1 ≤ wrap64 (p.f1 + o.f1)
     have := hp.2 h1
     rw [e1]
     omega
   ·rw [if_neg h3]
    have e : nrmS o = o := by unfold nrmS; rw [if_pos h2]
    refine two ⟨fun h => h.1 h1, fun h => h3 ?_⟩
    rw [← e]
    exact h.2.2
  ·rw [if_neg h2]
   exact two ⟨fun h => h.1 h1, fun h => h2 (by rw [← nrm_two (o := o)]; exact h.2.1)⟩
 ·rw [if_neg h1]
  by_cases h2 : o.f2 = []
  ·rw [if_pos h2]
   exact two ⟨fun h => h.2 (by rw [nrm_two]; exact h2), fun h => h1 h.1⟩
  ·rw [if_neg h2]
   exact one _ (fun x hx => ⟨fun h => hx.1 ⟨h.1, h1⟩, fun h => by
    have h3 : p.f2 ++ o.f2 = [] := h.2.1
    exact h1 (List.append_eq_nil_iff.1 h3).1⟩) ⟨fun _ => hp.1 h1, fun h => by
    have h3 : p.f2 ++ o.f2 = [] := h
    exact absurd (List.append_eq_nil_iff.1 h3).1 h1⟩
theorem inv_fold : ∀ (l xs : List S47), CH xs → (∀ x ∈ xs, GD x) → CH (l.foldl addS xs) ∧ ∀ x ∈ l.foldl addS xs, GD x
 | [], _, hc, hg => ⟨hc, hg⟩
 | o :: l, xs, hc, hg => by
  rw [List.foldl_cons]
  obtain ⟨h1, h2⟩ := inv_add (o := o) hc hg
  exact inv_fold l _ h1 h2
theorem inv_norm (l : List S47) : CH (normS l) ∧ ∀ x ∈ normS l, GD x := inv_fold l [] ch_nil (fun _ h => by cases h)
theorem wq (n : Int) : ∃ q : Int, wrap64 n = n + q * 18446744073709551616 ∧ -9223372036854775808 ≤ wrap64 n ∧ wrap64 n ≤ 9223372036854775807 := by
 refine ⟨-((n + 9223372036854775808) / 18446744073709551616), ?_, ?_, ?_⟩ <;> unfold wrap64 <;> omega
theorem gd_fix {o : S47} (h : GD o) : nrmS o = o ∧ ¬ skp o := by
 refine ⟨?_, fun h2 => ?_⟩
 ·unfold nrmS
  by_cases h2 : o.f2 = []
  ·rw [if_pos h2]
  ·rw [if_neg h2]
   obtain ⟨e0, e1⟩ := h.1 h2
   cases o
   simp only at e0 e1
   rw [e0, e1]
 ·have := h.2 h2.1
  have := h2.2
  omega
theorem fix_fold : ∀ (l xs : List S47), CH (xs ++ l) → (∀ x ∈ l, GD x) → l.foldl addS xs = xs ++ l
 | [], xs, _, _ => by simp
 | o :: l, xs, hc, hg => by
  obtain ⟨e, hk⟩ := gd_fix (hg o List.mem_cons_self)
  have h1 : addS xs o = xs ++ [o] := by
   rcases Jn.snoc_cases xs with rfl | ⟨ys, p, rfl⟩
   ·rw [add_nil hk, e]; rfl
   ·rw [add_snoc hk]
    have hn : NJ p o := hc ys.length p o (by rw [List.append_assoc, List.getElem?_append_right (Nat.le_refl _), Nat.sub_self]; rfl) (by rw [List.append_assoc, List.getElem?_append_right (by omega)]; simp)
    have h2 : joinS p o = [p, o] := by
     unfold joinS
     by_cases h1 : p.f2 = []
     ·rw [if_pos h1]
      by_cases h2 : o.f2 = []
      ·rw [if_pos h2, if_neg (fun h => hn.2 ⟨h1, h2, h⟩), e]
      ·rw [if_neg h2, e]
     ·rw [if_neg h1]
      by_cases h2 : o.f2 = []
      ·rw [if_pos h2, e]
      ·exact absurd ⟨h1, h2⟩ hn.1
    rw [h2]
    simp
  rw [List.foldl_cons, h1, fix_fold l (xs ++ [o]) (by rw [List.append_assoc]; exact hc) (fun x hx => hg x (List.mem_cons_of_mem _ hx)), List.append_assoc]
  rfl
theorem norm_norm (l : List S47) : normS (normS l) = normS l := by
 obtain ⟨h1, h2⟩ := inv_norm l
 exact fix_fold (normS l) [] h1 h2
theorem ln_nonneg (o : S47) : 0 ≤ ln o := by
 unfold ln
 split
 ·omega
 ·exact (mx0 _).1
theorem wrap_l (a x : Int) : wrap64 (wrap64 a + x) = wrap64 (a + x) := by
 obtain ⟨q1, e1, _, _⟩ := wq a
 obtain ⟨q2, e2, l2, u2⟩ := wq (wrap64 a + x)
 obtain ⟨q3, e3, l3, u3⟩ := wq (a + x)
 generalize wrap64 (wrap64 a + x) = y2 at *
 generalize wrap64 (a + x) = y3 at *
 generalize wrap64 a = y1 at *
 omega
def a1 (o : S47) : Int := if (o.f2.length : Int) > 0 then ln o else 0
def b1 (o : S47) : Int := if (o.f2.length : Int) > 0 then 0 else ln o
def cA : List S47 → Int
 | [] => 0
 | o :: l => a1 o + cA l
def cB : List S47 → Int
 | [] => 0
 | o :: l => b1 o + cB l
theorem cA_append : ∀ (l m : List S47), cA (l ++ m) = cA l + cA m
 | [], m => by simp [cA]
 | o :: l, m => by
  show a1 o + cA (l ++ m) = a1 o + cA l + cA m
  rw [cA_append]
  omega
theorem cB_append : ∀ (l m : List S47), cB (l ++ m) = cB l + cB m
 | [], m => by simp [cB]
 | o :: l, m => by
  show b1 o + cB (l ++ m) = b1 o + cB l + cB m
  rw [cB_append]
  omega
theorem cost_sum : ∀ (l : List S47) (a b : Int), costL (wrap64 a) (wrap64 b) l = (wrap64 (a + cA l), wrap64 (b + cB l))
 | [], a, b => by simp [costL, cA, cB]
 | o :: l, a, b => by
  by_cases h : (o.f2.length : Int) > 0
  ·rw [costL, if_pos h, wrap_l, cost_sum l]
   simp only [cA, cB, a1, b1, if_pos h]
   rw [show a + ln o + cA l = a + (ln o + cA l) by omega, show b + (0 + cB l) = b + cB l by omega]
  ·rw [costL, if_neg h, wrap_l, cost_sum l]
   simp only [cA, cB, a1, b1, if_neg h]
   rw [show b + ln o + cB l = b + (ln o + cB l) by omega, show a + (0 + cA l) = a + cA l by omega]
theorem w00 : wrap64 0 = 0 := by unfold wrap64; decide
theorem cost_zero (l : List S47) : costL 0 0 l = (wrap64 (cA l), wrap64 (cB l)) := by
 have := cost_sum l 0 0
 rw [w00, Int.zero_add, Int.zero_add] at this
 exact this
theorem told_pos {o : S47} (h : o.f2 ≠ []) : (o.f2.length : Int) > 0 := by
 have := List.length_pos_iff.2 h
 omega
theorem nil_pos {o : S47} (h : o.f2 = []) : ¬ (o.f2.length : Int) > 0 := by rw [h]; decide
theorem ln_copy {o : S47} (h : o.f2 = []) (h1 : 0 ≤ o.f1) : ln o = o.f1 := by
 unfold ln
 rw [if_neg (nil_pos h)]
 unfold mx
 split <;> omega
theorem ab_nrm (o : S47) : a1 (nrmS o) = a1 o ∧ b1 (nrmS o) = b1 o := by
 by_cases h : o.f2 = []
 ·have e : nrmS o = o := by unfold nrmS; rw [if_pos h]
  rw [e]
  exact ⟨rfl, rfl⟩
 ·have e : nrmS o = ⟨0, 0, o.f2⟩ := by unfold nrmS; rw [if_neg h]
  rw [e]
  unfold a1 b1 ln
  have := told_pos h
  simp only [if_pos this]
  exact ⟨trivial, trivial⟩
theorem ab_join {p o : S47} (hp : GD p) (ho : ¬ skp o) : cA (joinS p o) = a1 p + a1 o ∧ cB (joinS p o) = b1 p + b1 o := by
 have two : cA [p, nrmS o] = a1 p + a1 o ∧ cB [p, nrmS o] = b1 p + b1 o := by
  simp only [cA, cB, (ab_nrm o).1, (ab_nrm o).2]
  omega
 unfold joinS
 by_cases h1 : p.f2 = []
 ·rw [if_pos h1]
  by_cases h2 : o.f2 = []
  ·rw [if_pos h2]
   by_cases h3 : goS p o
   ·rw [if_pos h3]
    have ho1 : 1 ≤ o.f1 := by
     rcases Int.lt_or_le o.f1 1 with h4 | h4
     ·exact absurd ⟨h2, by omega⟩ ho
     ·exact h4
    have hp1 := hp.2 h1
    obtain ⟨e1, _, _⟩ := go_sum h3 hp1 ho1
    have l1 := ln_copy h1 (by omega)
    have l2 := ln_copy h2 (by omega)
    have l3 : ln (⟨p.f0, wrap64 (p.f1 + o.f1), p.f2⟩ : S47) = p.f1 + o.f1 := by
     rw [ln_copy (o := ⟨p.f0, wrap64 (p.f1 + o.f1), p.f2⟩) h1 (by show 0 ≤ wrap64 (p.f1 + o.f1); rw [e1]; omega)]
     exact e1
    simp only [cA, cB, a1, b1]
    rw [if_neg (nil_pos h1), if_neg (nil_pos h2), if_neg (nil_pos h1), if_neg (nil_pos h2), l1, l2]
    rw [if_neg (show ¬ ((⟨p.f0, wrap64 (p.f1 + o.f1), p.f2⟩ : S47).f2.length : Int) > 0 from nil_pos h1), if_neg (show ¬ ((⟨p.f0, wrap64 (p.f1 + o.f1), p.f2⟩ : S47).f2.length : Int) > 0 from nil_pos h1), l3]
    omega
   ·rw [if_neg h3]; exact two
  ·rw [if_neg h2]; exact two
 ·rw [if_neg h1]
  by_cases h2 : o.f2 = []
  ·rw [if_pos h2]; exact two
  ·rw [if_neg h2]
   have t1 := told_pos h1
   have t2 := told_pos h2
   have t3 : ((⟨p.f0, p.f1, p.f2 ++ o.f2⟩ : S47).f2.length : Int) > 0 := by
    show (((p.f2 ++ o.f2).length : Nat) : Int) > 0
    rw [List.length_append]
    omega
   simp only [cA, cB, a1, b1]
   rw [if_pos t1, if_pos t2, if_pos t1, if_pos t2]
   rw [if_pos t3, if_pos t3]
   unfold ln
   rw [if_pos t1, if_pos t2, if_pos t3]
   show (((p.f2 ++ o.f2).length : Nat) : Int) + 0 = _ ∧ _
   rw [List.length_append]
   omega
theorem ab_skip {o : S47} (h : skp o) : a1 o = 0 ∧ b1 o = 0 := by
 unfold a1 b1
 rw [if_neg (nil_pos h.1), if_neg (nil_pos h.1)]
 refine ⟨rfl, ?_⟩
 unfold ln
 rw [if_neg (nil_pos h.1)]
 have := h.2
 unfold mx
 split <;> omega
theorem ab_add {xs : List S47} {o : S47} (hg : ∀ x ∈ xs, GD x) : cA (addS xs o) = cA xs + a1 o ∧ cB (addS xs o) = cB xs + b1 o := by
 by_cases hk : skp o
 ·rw [add_skip hk, (ab_skip hk).1, (ab_skip hk).2]
  omega
 rcases Jn.snoc_cases xs with rfl | ⟨ys, p, rfl⟩
 ·rw [add_nil hk]
  simp only [cA, cB, (ab_nrm o).1, (ab_nrm o).2]
  omega
 ·rw [add_snoc hk, cA_append, cB_append, cA_append, cB_append, (ab_join (hg p (by simp)) hk).1, (ab_join (hg p (by simp)) hk).2]
  simp only [cA, cB]
  omega
theorem ab_fold : ∀ (l xs : List S47), CH xs → (∀ x ∈ xs, GD x) → cA (l.foldl addS xs) = cA xs + cA l ∧ cB (l.foldl addS xs) = cB xs + cB l
 | [], xs, _, _ => by simp [cA, cB]
 | o :: l, xs, hc, hg => by
  obtain ⟨h1, h2⟩ := inv_add (o := o) hc hg
  obtain ⟨h3, h4⟩ := ab_fold l _ h1 h2
  obtain ⟨h5, h6⟩ := ab_add (o := o) hg
  rw [List.foldl_cons, h3, h4, h5, h6]
  simp only [cA, cB]
  omega
theorem ab_norm (l : List S47) : cA (normS l) = cA l ∧ cB (normS l) = cB l := by
 obtain ⟨h1, h2⟩ := ab_fold l [] ch_nil (fun _ h => by cases h)
 simp only [cA, cB, Int.zero_add] at h1 h2
 exact ⟨h1, h2⟩
theorem light_loop (l : List S55) (hn : l.length ≤ 4000000000000) (d : Nat) : ∀ i : Nat, i + d = l.length → ∃ t, Ev (fun k => remoralaw09_light.l0 k l (l.length : Int) (i : Int)) t := by
 induction d with
 | zero =>
  intro i hi
  refine ⟨true, Ev.step (f := fun _ => some true) (fun k => ?_) (Ev.now _)⟩
  simp only [remoralaw09_light.l0]
  rw [if_neg (by omega)]
 | succ d ih =>
  intro i hi
  have hlt : i < l.length := by omega
  by_cases h : (((rd_T55 l (i : Int)).f1).size : Int) > 100
  ·refine ⟨false, Ev.step (f := fun _ => some false) (fun k => ?_) (Ev.now _)⟩
   simp only [remoralaw09_light.l0]
   rw [if_pos (by omega), if_pos (by omega), if_pos (by omega), if_pos h]
  ·obtain ⟨t, ht⟩ := ih (i + 1) (by omega)
   refine ⟨t, Ev.step (f := fun k => remoralaw09_light.l0 k l (l.length : Int) ((i + 1 : Nat) : Int)) (fun k => ?_) ht⟩
   simp only [remoralaw09_light.l0]
   rw [if_pos (by omega), if_pos (by omega), if_pos (by omega), if_neg h, inc6 hlt hn]
theorem light_of (s b n : Int) (l : List S55) : ∃ t, Ev (fun k => remoralaw09_light.f k s b n l) t ∧ (t = true → l.length ≤ 60) := by
 unfold remoralaw09_light.f
 by_cases h : (l.length : Int) > 60
 ·exact ⟨false, ev_pos h (Ev.now _), fun h => nomatch h⟩
 ·obtain ⟨t, ht⟩ := light_loop l (by omega) l.length 0 (by omega)
  exact ⟨t, ev_neg h ht, fun _ => by omega⟩
theorem refright_of (s b : Int) : remoraref05_Right.f s b = some (Rg s b) := by
 rw [← right_of]; rfl
theorem refcount_loop (s b : Int) (hr : Rg s b = true) (d : Nat) : ∀ (k : Nat) (c : Int), 0 ≤ c → Ct s b - c = d → d < k → remoraref05_Count.l0 k s b c (c * b) = some (Ct s b) := by
 obtain ⟨h1, h2, h3, h4⟩ := rg_true hr
 obtain ⟨b1, b2, b3, b4⟩ := ct_bounds hr
 induction d with
 | zero =>
  intro k c h0 hd hk
  obtain ⟨k, rfl⟩ : ∃ m, k = m + 1 := ⟨k - 1, by omega⟩
  obtain rfl : c = Ct s b := by omega
  simp only [remoraref05_Count.l0]; rw [if_neg (by omega)]
 | succ d ih =>
  intro k c h0 hd hk
  obtain ⟨k, rfl⟩ : ∃ m, k = m + 1 := ⟨k - 1, by omega⟩
  have hm : (c + 1) * b ≤ Ct s b * b := Int.mul_le_mul_of_nonneg_right (by omega) (by omega)
  have e : c * b + b = (c + 1) * b := by rw [Int.add_mul, Int.one_mul]
  have hp : 0 ≤ c * b := Int.mul_nonneg h0 (by omega)
  simp only [remoraref05_Count.l0]
  rw [if_pos (by omega), w64 (c + 1) (by omega) (by omega), e, w64 ((c + 1) * b) (by omega) (by omega)]
  exact ih k (c + 1) (by omega) (by omega) (by omega)
theorem refcount_of (s b : Int) (m : Nat) : remoraref05_Count.f (m + 8193) s b = some (Ct s b) := by
 unfold remoraref05_Count.f
 rw [refright_of]; simp only [Option.bind_some]
 by_cases hr : Rg s b = true
 ·rw [if_pos hr]
  obtain ⟨b1, b2, b3, b4⟩ := ct_bounds hr
  have h := refcount_loop s b hr (Ct s b).toNat (m + 8193) 0 (by omega) (by omega) (by omega)
  rw [Int.zero_mul] at h
  exact h
 ·rw [if_neg hr]; unfold Ct; rw [if_neg hr]
theorem refcount_ev (s b : Int) : Ev (fun k => remoraref05_Count.f k s b) (Ct s b) := ⟨8193, fun k hk => by
 obtain ⟨m, rfl⟩ : ∃ m, k = m + 8193 := ⟨k - 8193, by omega⟩
 exact refcount_of s b m⟩
theorem head_of (s b n : Int) (l : List S55) : remoraref06_head.f s b n l = some (Fr s b n) := by
 unfold remoraref06_head.f Fr
 by_cases h : n < 1
 ·rw [if_pos h, if_neg (by omega)]
 ·rw [if_neg h]
  by_cases h1 : n > 32
  ·rw [if_pos h1, if_neg (by omega)]
  ·rw [if_neg h1, refright_of, Option.bind_some]
   by_cases h2 : Rg s b = true
   ·rw [if_pos h2, if_pos ⟨by omega, h2⟩]
   ·rw [if_neg h2, if_neg (fun h3 => h2 h3.2)]
theorem rcheck_loop (s b n : Int) (l : List S55) (hn : l.length ≤ 4000000000000) (d : Nat) : ∀ i : Nat, i + d = l.length → Ev (fun k => remoraref06_Check.l0 k l (l.length : Int) (i : Int) s b n l) (if anyOff n l i = true then 5 else 0) := by
 induction d with
 | zero =>
  intro i hi
  have e : anyOff n l i = false := by unfold anyOff; rw [List.drop_eq_nil_of_le (by omega)]; rfl
  rw [e, if_neg (by decide)]
  refine Ev.step (f := fun _ => some 0) (fun k => ?_) (Ev.now _)
  simp only [remoraref06_Check.l0]
  rw [if_neg (by omega)]
 | succ d ih =>
  intro i hi
  have hlt : i < l.length := by omega
  rw [anyOff_step n l i hlt]
  by_cases h : ((rd_T55 l (i : Int)).f1.size : Int) = n
  ·have e : (((rd_T55 l (i : Int)).f1.size : Int) != n) = false := by simp [h]
   rw [e, Bool.false_or]
   refine Ev.step (f := fun k => remoraref06_Check.l0 k l (l.length : Int) ((i + 1 : Nat) : Int) s b n l) (fun k => ?_) (ih (i + 1) (by omega))
   simp only [remoraref06_Check.l0]
   rw [if_pos (by omega), if_pos (by omega), if_pos (by omega), if_pos h, inc6 hlt hn]
  ·have e : (((rd_T55 l (i : Int)).f1.size : Int) != n) = true := by simp [h]
   rw [e, Bool.true_or, if_pos rfl]
   refine Ev.step (f := fun _ => some 5) (fun k => ?_) (Ev.now _)
   simp only [remoraref06_Check.l0]
   rw [if_pos (by omega), if_pos (by omega), if_pos (by omega), if_neg h]
theorem rcheck_of (s b n : Int) (l : List S55) : Ev (fun k => remoraref06_Check.f k s b n l) (Ck s b n l) := by
 unfold remoraref06_Check.f Ck
 refine Ev.bind (ev_some (head_of s b n l)) ?_
 by_cases h : Fr s b n = 0
 ·rw [if_pos h]
  refine ev_pos h (Ev.bind (refcount_ev s b) ?_)
  by_cases h2 : (l.length : Int) = Ct s b
  ·rw [if_pos h2]
   have := (ct_bounds (fr_ok h).2).2.2.2
   exact ev_pos h2 (rcheck_loop s b n l (by omega) l.length 0 (by omega))
  ·rw [if_neg h2]
   exact ev_neg h2 (Ev.now _)
 ·rw [if_neg h, fr_two h]
  exact ev_neg (by omega) (Ev.now _)
theorem len_r (o : S47) : remoraref08_Length.f o.f0 o.f1 o.f2 = some (ln o) := by
 unfold remoraref08_Length.f ln
 split <;> rfl
theorem to_of (t : Jn.T3) : toT (ofT t) = t := rfl
theorem nrm_to (o : S47) : Jn.nrm (toT o) = toT (nrmS o) := by rw [← nrm_of, to_of]
theorem ln_zero (o : S47) : ln o = 0 ↔ skp o := by
 unfold ln skp
 by_cases h : o.f2 = []
 ·rw [if_neg (by rw [h]; decide)]
  unfold mx
  constructor
  ·intro h1
   refine ⟨h, ?_⟩
   split at h1 <;> omega
  ·intro h1
   have := h1.2
   split <;> omega
 ·have := List.length_pos_iff.2 h
  rw [if_pos (by omega)]
  constructor
  ·intro h1; omega
  ·intro h1; exact absurd h1.1 h
theorem goes_copy {x y : S47} (h1 : x.f2 = []) (h2 : y.f2 = []) (h3 : 1 ≤ x.f1) (h4 : 1 ≤ y.f1) : remoraref08_Goes.f x.f0 x.f1 x.f2 y.f0 y.f1 y.f2 = some (decide (goS x y)) := by
 unfold remoraref08_Goes.f
 rw [if_neg (by rw [h1]; decide), if_neg (by rw [h2]; decide), if_pos (show x.f1 ≥ 1 from h3), if_pos (show y.f1 ≥ 1 from h4)]
 by_cases c3 : y.f1 ≤ 131072
 ·rw [if_pos c3]
  by_cases c4 : x.f0 ≥ 0
  ·rw [if_pos c4]
   by_cases c5 : x.f0 ≤ 131072
   ·rw [if_pos c5]
    by_cases c6 : x.f1 ≤ wrap64 (131072 - x.f0)
    ·rw [if_pos c6]
     by_cases c7 : wrap64 (x.f0 + x.f1) = y.f0
     ·rw [decide_eq_true (show goS x y from ⟨c3, c4, c5, c6, c7⟩), c7, beq_self_eq_true]
     ·rw [decide_eq_false (show ¬ goS x y from fun h => c7 h.2.2.2.2), beq_eq_false_iff_ne.mpr (fun e => c7 e.symm)]
    ·rw [if_neg c6, decide_eq_false (show ¬ goS x y from fun h => c6 h.2.2.2.1)]
   ·rw [if_neg c5, decide_eq_false (show ¬ goS x y from fun h => c5 h.2.2.1)]
  ·rw [if_neg c4, decide_eq_false (show ¬ goS x y from fun h => c4 h.2.1)]
 ·rw [if_neg c3, decide_eq_false (show ¬ goS x y from fun h => c3 h.1)]
theorem addR_of {xs : List S47} {o : S47} (hg : ∀ x ∈ xs, GD x) : addR (xs.map toT) o = some ((addS xs o).map toT) := by
 unfold addR
 rw [len_r, Option.bind_some]
 by_cases hk : skp o
 ·rw [if_pos ((ln_zero o).2 hk), add_skip hk]
 rw [if_neg (fun h => hk ((ln_zero o).1 h))]
 rcases Jn.snoc_cases xs with rfl | ⟨ys, p, rfl⟩
 ·rw [add_nil hk, nrm_to]
  rfl
 rw [List.map_append, show [p].map toT = [toT p] from rfl, List.getLast?_concat]
 simp only []
 rw [add_snoc hk, List.map_append, nrm_to]
 have hp := hg p (by simp)
 have two : some (ys.map toT ++ [toT p] ++ [toT (nrmS o)]) = some (ys.map toT ++ [p, nrmS o].map toT) := by simp
 unfold joinS
 show ((remoraref08_Goes.f p.f0 p.f1 p.f2 (nrmS o).f0 (nrmS o).f1 (nrmS o).f2).bind _) = _
 by_cases h1 : p.f2 = []
 ·rw [if_pos h1]
  by_cases h2 : o.f2 = []
  ·have e : nrmS o = o := by unfold nrmS; rw [if_pos h2]
   have ho : 1 ≤ o.f1 := by
    rcases Int.lt_or_le o.f1 1 with h4 | h4
    ·exact absurd ⟨h2, by omega⟩ hk
    ·exact h4
   rw [if_pos h2, e, goes_copy h1 h2 (hp.2 h1) ho, Option.bind_some]
   by_cases h3 : goS p o
   ·rw [decide_eq_true h3, if_pos rfl, if_pos h2, if_pos h3, List.dropLast_concat]
    rfl
   ·rw [decide_eq_false h3, if_neg (by decide), if_neg h3]
    rw [e] at two
    rw [two]
    (repeat' split) <;> rfl
  ·have hpos := List.length_pos_iff.2 h2
   have e : remoraref08_Goes.f p.f0 p.f1 p.f2 (nrmS o).f0 (nrmS o).f1 (nrmS o).f2 = some false := by
    unfold remoraref08_Goes.f
    rw [if_neg (by rw [h1]; decide), if_pos (by rw [nrm_two]; omega)]
   rw [e, Option.bind_some, if_neg (by decide), two, if_neg h2]
 ·have hpp := List.length_pos_iff.2 h1
  rw [if_neg h1]
  by_cases h2 : o.f2 = []
  ·have e : remoraref08_Goes.f p.f0 p.f1 p.f2 (nrmS o).f0 (nrmS o).f1 (nrmS o).f2 = some false := by
     unfold remoraref08_Goes.f
     rw [if_pos (by omega), decide_eq_false (by rw [nrm_two, h2]; decide)]
   rw [e, Option.bind_some, if_neg (by decide), two, if_pos h2]
  ·have hpos := List.length_pos_iff.2 h2
   have e : remoraref08_Goes.f p.f0 p.f1 p.f2 (nrmS o).f0 (nrmS o).f1 (nrmS o).f2 = some true := by
    unfold remoraref08_Goes.f
    rw [if_pos (by omega), decide_eq_true (by rw [nrm_two]; omega)]
   rw [if_neg h2, e, Option.bind_some, if_pos rfl, if_neg h2, List.dropLast_concat]
   rfl
theorem rnorm_loop : ∀ (l xs : List S47), CH xs → (∀ x ∈ xs, GD x) → xs.length + l.length ≤ 10000 → Jn.wt (xs.map toT) + l.length * 65536 ≤ 900000000 → (∀ o ∈ l, o.f2.length ≤ 65536) → rnormL l (xs.map toT) = some ((l.foldl addS xs).map toT)
 | [], _, _, _, _, _, _ => rfl
 | o :: l, xs, hc, hg, h1, h2, hd => by
  rw [List.length_cons] at h1 h2
  have h3 := hd o List.mem_cons_self
  obtain ⟨h4, h5⟩ := inv_add (o := o) hc hg
  have h6 := Jn.addL_len (xs.map toT) (toT o)
  have h7 : (addS xs o).map toT = Jn.addL (xs.map toT) (toT o) := map_to_of _
  rw [← h7, List.length_map, List.length_map] at h6
  have h8 : (toT o).2.2.length = o.f2.length := rfl
  rw [rnormL, if_neg (by
   intro h
   rcases h with h | h
   ·exact h ⟨by rw [List.length_map]; omega, by omega⟩
   ·omega), addR_of hg, Option.bind_some, List.foldl_cons]
  exact rnorm_loop l (addS xs o) h4 h5 (by omega) (by omega) (fun x hx => hd x (List.mem_cons_of_mem _ hx))
theorem norm_r {l : List S47} (h1 : l.length ≤ 10000) (hd : ∀ o ∈ l, o.f2.length ≤ 65536) : remoraref08_Norm.f l = some (normS l) := by
 unfold remoraref08_Norm.f
 have := rnorm_loop l [] ch_nil (fun _ h => by cases h) (by rw [List.length_nil]; omega) (by rw [List.map_nil, Jn.wt_nil]; omega) hd
 rw [List.map_nil] at this
 rw [if_neg (by omega), this, Option.bind_some, map_of_to]
 rfl
theorem same_loop (l : List S47) (hn : l.length ≤ 4000000000000) : ∀ (d k i : Nat), i + d = l.length → d < k → remoraref08_Same.l0 k l l (i : Int) = some true := by
 intro d
 induction d with
 | zero =>
  intro k i hi hk
  obtain ⟨k, rfl⟩ : ∃ m, k = m + 1 := ⟨k - 1, by omega⟩
  simp only [remoraref08_Same.l0]
  rw [if_neg (by omega)]
 | succ d ih =>
  intro k i hi hk
  obtain ⟨k, rfl⟩ : ∃ m, k = m + 1 := ⟨k - 1, by omega⟩
  have hlt : i < l.length := by omega
  simp only [remoraref08_Same.l0]
  rw [if_pos (by omega), if_pos (by omega), if_pos (by omega), if_pos trivial, if_pos trivial, if_pos trivial, inc hlt hn]
  exact ih k (i + 1) (by omega) (by omega)
theorem same_of (l : List S47) (hn : l.length ≤ 4000000000000) {k : Nat} (hk : l.length < k) : remoraref08_Same.f k l l = some true := by
 unfold remoraref08_Same.f
 rw [if_pos rfl]
 exact same_loop l hn l.length k 0 (by omega) (by omega)
theorem aw_marks : marksF ([] ++ awA ++ awB) (OfB ([] ++ awA ++ awB) 16) 8 (cutNum ([] ++ awA ++ awB) (OfB ([] ++ awA ++ awB) 16)) = [markF awA 8, markF awB 8] := by
 rw [show OfB ([] ++ awA ++ awB) 16 = 16 from rfl, show cutNum ([] ++ awA ++ awB) 16 = 2 by decide]
 show [markF (cutRow ([] ++ awA ++ awB) 16 0) 8, markF (cutRow ([] ++ awA ++ awB) 16 1) 8] = _
 rw [show cutRow ([] ++ awA ++ awB) 16 0 = awA by unfold cutRow wrap64; decide, show cutRow ([] ++ awA ++ awB) 16 1 = awB by unfold cutRow wrap64; decide]
theorem aw_ops : (opsP [markF awA 8, markF awB 8] 32 16 8 ([] ++ awB ++ [120] ++ awA)).map toT = awO.map toT := by decide +kernel
theorem awake9 : Ev (fun k => remoralaw09_awake.f k) true := by
 have o1 : OfOk 16 8 := by unfold OfOk; omega
 have h1 := of_ok ([] ++ awA ++ awB) (by decide) 16 8 o1
 have hc := marks_ck ([] ++ awA ++ awB) (by decide) 16 8 o1
 rw [aw_marks] at h1 hc
 have e1 : ((([] ++ awA ++ awB : List Int).length : Nat) : Int) = 32 := rfl
 have e2 : OfB ([] ++ awA ++ awB) 16 = 16 := rfl
 rw [e1, e2] at h1 hc
 obtain ⟨ms, hms⟩ : ∃ ms, ms = [markF awA 8, markF awB 8] := ⟨_, rfl⟩
 have ho : opsP ms 32 16 8 ([] ++ awB ++ [120] ++ awA) = awO := by
  rw [hms]
  exact toT_inj aw_ops
 rw [← hms] at h1 hc
 clear hms
 have hm := of_of hc ([] ++ awB ++ [120] ++ awA) (by unfold Bytes; decide) (by decide) (r := awO) (by rw [ho]; kernel_rfl)
 clear ho
 unfold remoralaw09_awake.f
 exact Ev.bind h1 (ev_pos rfl (Ev.bind hm (ev_pos ⟨rfl, rfl⟩ (Ev.bind (Ev.of (delta_Same.mono awO awO) (k := 20) (by decide +kernel)) (ev_pos rfl (Ev.now _))))))
def PO (s b : Int) (o : S47) : Prop := o.f2 = [] → 0 ≤ o.f0 ∧ o.f0 % b = 0 ∧ 1 ≤ o.f1 ∧ o.f0 + o.f1 ≤ s
structure Sz (s b : Int) (m : Nat) (x : Mst) : Prop where
 sz : ((x.left.length : Int) + (x.told.length : Int)) + (cA x.out + cB x.out) = (m : Int)
 po : ∀ o ∈ x.out, PO s b o
theorem tl_sum (told : List Int) (out : List S47) : cA (tl told out) + cB (tl told out) = (told.length : Int) + (cA out + cB out) := by
 unfold tl
 by_cases h0 : told = []
 ·rw [if_pos h0, h0]; simp
 ·have h : ¬ told.length = 0 := fun e => h0 (List.eq_nil_of_length_eq_zero e)
  rw [if_neg h0, cA_append, cB_append]
  simp only [cA, cB, a1, b1]
  have h1 : ((⟨0, 0, told⟩ : S47).f2.length : Int) > 0 := by show (told.length : Int) > 0; omega
  rw [if_pos h1, if_pos h1]
  unfold ln
  rw [if_pos h1]
  show cA out + ((told.length : Int) + 0) + (cB out + (0 + 0)) = _
  omega
theorem tl_po {s b : Int} {told : List Int} {out : List S47} (h : ∀ o ∈ out, PO s b o) : ∀ o ∈ tl told out, PO s b o := by
 intro o ho
 unfold tl at ho
 split at ho
 ·exact h o ho
 ·next h0 =>
  rcases List.mem_append.1 ho with h1 | h1
  ·exact h o h1
  ·rw [List.mem_singleton.1 h1]
   intro h2
   exact absurd (show told = [] from h2) h0
theorem take_sz {l : List S55} {s b n : Int} (hc : Ck s b n l = 0) {m : Nat} {x y : Mst} (h : Sz s b m x) (hy : tP l s b n x = some y) : Sz s b m y ∧ y.left = [] ∧ y.told = [] := by
 unfold tP at hy
 split at hy
 ·next hp =>
  cases hy
  unfold pkX at hp
  obtain ⟨i, e1, hi, hv⟩ := pk_true hp
  have hw := (has_weak hv).2
  have hb := blk_in hc hi
  refine ⟨⟨?_, ?_⟩, rfl, rfl⟩
  ·show (((0 : Nat) : Int) + ((0 : Nat) : Int)) + (cA (tl x.told x.out ++ [⟨(pkX l s b n x).1 * b, lenAt s b (pkX l s b n x).1.toNat, []⟩]) + cB (tl x.told x.out ++ [⟨(pkX l s b n x).1 * b, lenAt s b (pkX l s b n x).1.toNat, []⟩])) = (m : Int)
   have ht := tl_sum x.told x.out
   have hs := h.sz
   rw [show (pkX l s b n x).1 = (i : Int) from e1, Int.toNat_natCast, hw, cA_append, cB_append]
   simp only [cA, cB, a1, b1]
   rw [if_neg (show ¬ ((⟨(i : Int) * b, (x.left.length : Int), []⟩ : S47).f2.length : Int) > 0 from nil_pos rfl), if_neg (show ¬ ((⟨(i : Int) * b, (x.left.length : Int), []⟩ : S47).f2.length : Int) > 0 from nil_pos rfl), ln_copy (o := ⟨(i : Int) * b, (x.left.length : Int), []⟩) rfl (by show 0 ≤ (x.left.length : Int); omega)]
   show _ + (_ + _ + (_ + ((x.left.length : Int) + 0))) = _
   omega
  ·intro o ho
   rcases List.mem_append.1 ho with h1 | h1
   ·exact tl_po h.po o h1
   ·rw [List.mem_singleton.1 h1]
    intro _
    rw [show (pkX l s b n x).1 = (i : Int) from e1, Int.toNat_natCast]
    refine ⟨hb.1, Int.mul_emod_left _ _, by show 1 ≤ lenAt s b i; omega, ?_⟩
    show (i : Int) * b + lenAt s b i ≤ s
    unfold lenAt
    omega
 ·cases hy
theorem shift_sz {s b : Int} {m : Nat} {x : Mst} (h : Sz s b m x) : Sz s b m (hP x) := by
 obtain ⟨w, left, want, told, out⟩ := x
 obtain ⟨h1, h2⟩ := h
 dsimp only at h1 h2
 cases left with
 | nil => exact ⟨h1, h2⟩
 | cons c rest =>
  refine ⟨?_, h2⟩
  show ((rest.length : Int) + ((told ++ [c]).length : Int)) + (cA out + cB out) = (m : Int)
  rw [List.length_append, zl1, zl2]
  rw [List.length_cons] at h1
  omega
theorem step_sz {l : List S55} {s b n : Int} (hc : Ck s b n l = 0) {m : Nat} {x : Mst} (c : Int) (h : Sz s b m x) : Sz s b (m + 1) (sP l s b n x c) := by
 have hp : Sz s b (m + 1) (pushP x c) := ⟨by
  show (((x.left ++ [c]).length : Int) + (x.told.length : Int)) + (cA x.out + cB x.out) = _
  have := h.sz
  rw [List.length_append, zl1, zl2]
  omega, h.po⟩
 unfold sP
 split
 ·cases hy : tP l s b n (pushP x c) with
  | some y => exact (take_sz hc hp hy).1
  | none => exact shift_sz hp
 ·exact hp
theorem feed_sz {l : List S55} {s b n : Int} (hc : Ck s b n l = 0) : ∀ (cs : List Int) (m : Nat) (x : Mst), Sz s b m x → Sz s b (m + cs.length) (gP l s b n x cs)
 | [], m, x, h => h
 | c :: cs, m, x, h => by
  rw [List.length_cons, show m + (cs.length + 1) = m + 1 + cs.length by omega]
  exact feed_sz hc cs (m + 1) _ (step_sz hc c h)
theorem done_sz {l : List S55} {s b n q : Int} (hc : Ck s b n l = 0) : ∀ (j m : Nat) (x : Mst), Sz s b m x → x.left.length ≤ j → Sz s b m (dP l s b n q j x) ∧ (dP l s b n q j x).left = []
 | 0, m, x, h, hj => ⟨h, List.eq_nil_of_length_eq_zero (by show x.left.length = 0; omega)⟩
 | j + 1, m, x, h, hj => by
  unfold dP
  by_cases h0 : x.left.length = 0
  ·rw [if_pos h0]
   exact ⟨h, List.eq_nil_of_length_eq_zero h0⟩
  ·rw [if_neg h0]
   have hl : (hP x).left.length = x.left.length - 1 := by
    unfold hP
    cases hx : x.left with
    | nil => rw [hx] at h0; exact absurd rfl h0
    | cons c r => rfl
   have ih := done_sz (q := q) hc j m (hP x) (shift_sz h) (by omega)
   split
   ·cases hy : tP l s b n x with
    | some y =>
     have := take_sz hc h hy
     exact ⟨this.1, this.2.1⟩
    | none => exact ih
   ·exact ih
theorem ops_sz {l : List S55} {s b n : Int} (hc : Ck s b n l = 0) (cs : List Int) (hb : Bytes cs) (hl : cs.length ≤ 65536) : cA (opsP l s b n cs) + cB (opsP l s b n cs) = (cs.length : Int) ∧ (∀ o ∈ opsP l s b n cs, PO s b o) := by
 have hb4 : 16 ≤ b := by have := rg_true (fr_ok (ck_ok hc).1).2; omega
 have hx0 : Iv b 0 x0P := ⟨rfl, fun _ => nn, Nat.zero_le _, Nat.le_refl _, Nat.le_refl _⟩
 have f2 := (feed_of hc cs 0 x0P hx0 (by omega) hb (show ((0 : Nat) : Int) < b by omega)).2.1
 have z0 : Sz s b 0 x0P := ⟨rfl, fun _ => nn⟩
 have z1 := feed_sz hc cs 0 x0P z0
 have zs : Sz s b (fP l s b n cs).left.length ⟨(fP l s b n cs).weak, (fP l s b n cs).left, (fP l s b n cs).want, [], []⟩ := ⟨by
  show (((fP l s b n cs).left.length : Int) + ((0 : Nat) : Int)) + (0 + 0) = _
  omega, fun _ => nn⟩
 have hle : (fP l s b n cs).left.length ≤ 70000 := by have := f2.le; unfold fP; omega
 obtain ⟨z2, e2⟩ := done_sz (q := lastP s b l) hc 70000 _ _ zs hle
 have a1_ := tl_sum (fP l s b n cs).told (fP l s b n cs).out
 have a2_ := tl_sum (eP l s b n (fP l s b n cs)).told (eP l s b n (fP l s b n cs)).out
 have s1 : (((fP l s b n cs).left.length : Int) + ((fP l s b n cs).told.length : Int)) + (cA (fP l s b n cs).out + cB (fP l s b n cs).out) = ((0 + cs.length : Nat) : Int) := z1.sz
 have s2 : (((eP l s b n (fP l s b n cs)).left.length : Int) + ((eP l s b n (fP l s b n cs)).told.length : Int)) + (cA (eP l s b n (fP l s b n cs)).out + cB (eP l s b n (fP l s b n cs)).out) = ((fP l s b n cs).left.length : Int) := z2.sz
 have e3 : (eP l s b n (fP l s b n cs)).left.length = 0 := by show (dP _ _ _ _ _ _ _).left.length = 0; rw [e2]; rfl
 refine ⟨?_, fun o ho => ?_⟩
 ·unfold opsP
  rw [cA_append, cB_append]
  omega
 ·unfold opsP at ho
  rcases List.mem_append.1 ho with h | h
  ·exact tl_po z1.po o h
  ·exact tl_po z2.po o h
theorem po_nrm {s b : Int} {o : S47} (h : PO s b o) : PO s b (nrmS o) := by
 intro h2
 rw [nrm_two] at h2
 have e : nrmS o = o := by unfold nrmS; rw [if_pos h2]
 rw [e]
 exact h h2
theorem po_add {s b : Int} {xs : List S47} {o : S47} (hx : ∀ x ∈ xs, PO s b x) (ho : PO s b o) : ∀ x ∈ addS xs o, PO s b x := by
 by_cases hk : skp o
 ·rw [add_skip hk]; exact hx
 rcases Jn.snoc_cases xs with rfl | ⟨ys, p, rfl⟩
 ·rw [add_nil hk]
  intro x h
  rw [List.mem_singleton.1 h]
  exact po_nrm ho
 rw [add_snoc hk]
 have hp := hx p (by simp)
 have hy : ∀ x ∈ ys, PO s b x := fun x h => hx x (by simp [h])
 have two : ∀ x ∈ ys ++ [p, nrmS o], PO s b x := by
  intro x h
  rcases List.mem_append.1 h with h | h
  ·exact hy x h
  ·simp only [List.mem_cons, List.not_mem_nil, or_false] at h
   rcases h with rfl | rfl
   ·exact hp
   ·exact po_nrm ho
 unfold joinS
 by_cases h1 : p.f2 = []
 ·rw [if_pos h1]
  by_cases h2 : o.f2 = []
  ·rw [if_pos h2]
   by_cases h3 : goS p o
   ·rw [if_pos h3]
    obtain ⟨p1, p2, p3, p4⟩ := hp h1
    obtain ⟨o1, o2, o3, o4⟩ := ho h2
    obtain ⟨e1, e2, e3⟩ := go_sum h3 p3 o3
    intro x h
    rcases List.mem_append.1 h with h | h
    ·exact hy x h
    ·rw [List.mem_singleton.1 h]
     intro _
     exact ⟨p1, p2, by show 1 ≤ wrap64 (p.f1 + o.f1); omega, by show p.f0 + wrap64 (p.f1 + o.f1) ≤ s; omega⟩
   ·rw [if_neg h3]; exact two
  ·rw [if_neg h2]; exact two
 ·rw [if_neg h1]
  by_cases h2 : o.f2 = []
  ·rw [if_pos h2]; exact two
  ·rw [if_neg h2]
   intro x h
   rcases List.mem_append.1 h with h | h
   ·exact hy x h
   ·rw [List.mem_singleton.1 h]
    intro h4
    exact absurd (List.append_eq_nil_iff.1 (show p.f2 ++ o.f2 = [] from h4)).1 h1
theorem po_fold {s b : Int} : ∀ (l xs : List S47), (∀ x ∈ xs, PO s b x) → (∀ o ∈ l, PO s b o) → ∀ x ∈ l.foldl addS xs, PO s b x
 | [], xs, h, _ => h
 | o :: l, xs, h, k => po_fold l (addS xs o) (po_add h (k o List.mem_cons_self)) (fun x hx => k x (List.mem_cons_of_mem _ hx))
theorem po_norm {s b : Int} {l : List S47} (h : ∀ o ∈ l, PO s b o) : ∀ x ∈ normS l, PO s b x := po_fold l [] (fun _ => nn) h
theorem ab_nonneg : ∀ l : List S47, 0 ≤ cA l ∧ 0 ≤ cB l
 | [] => ⟨Int.le_refl 0, Int.le_refl 0⟩
 | o :: l => by
  have h := ab_nonneg l
  have h2 := ln_nonneg o
  simp only [cA, cB, a1, b1]
  split <;> omega
theorem okO_po {s b : Int} {o : S47} (h : PO s b o) (hs : s ≤ 131072) : Jn.okO (toT o) := by
 by_cases h2 : o.f2 = []
 ·obtain ⟨h3, _, h4, h5⟩ := h h2
  exact Or.inr ⟨h3, h4, by show o.f0 + o.f1 ≤ 131072; omega⟩
 ·exact Or.inl h2
theorem norm_d9 {l : List S47} (hs : l.length ≤ 10000) (hd : ∀ o ∈ l, o.f2.length ≤ 65536) (hp : ∀ o ∈ l, Jn.okO (toT o)) : delta_Norm.f l = some (normS l) := by
 unfold delta_Norm.f
 have := wt_le l hd
 rw [if_pos ⟨by omega, by omega, fun o ho => by obtain ⟨x, hx, rfl⟩ := List.mem_map.1 ho; exact hp x hx⟩]
 exact congrArg some (fold_of l [])
theorem po_ln {s b : Int} {o : S47} (h : PO s b o) : 1 ≤ ln o ∧ (o.f2.length : Int) ≤ ln o := by
 by_cases h2 : o.f2 = []
 ·have h3 := (h h2).2.2.1
  rw [ln_copy h2 (by omega), h2]
  exact ⟨h3, by show ((0 : Nat) : Int) ≤ _; omega⟩
 ·have h3 := told_pos h2
  unfold ln
  rw [if_pos h3]
  exact ⟨by omega, Int.le_refl _⟩
theorem po_sum {s b : Int} : ∀ (l : List S47), (∀ o ∈ l, PO s b o) → (l.length : Int) ≤ cA l + cB l ∧ ∀ o ∈ l, (o.f2.length : Int) ≤ cA l + cB l
 | [], _ => ⟨by decide, fun _ => nn⟩
 | p :: l, h => by
  have ih := po_sum l (fun o ho => h o (List.mem_cons_of_mem _ ho))
  have h1 := ab_nonneg l
  have h2 := po_ln (h p List.mem_cons_self)
  have e : cA (p :: l) + cB (p :: l) = ln p + (cA l + cB l) := by
   simp only [cA, cB, a1, b1]
   split <;> omega
  rw [e, List.length_cons]
  refine ⟨by omega, fun o ho => ?_⟩
  rcases List.mem_cons.1 ho with rfl | ho
  ·omega
  ·have := ih.2 o ho
   omega
theorem of_small {s b n : Int} {l : List S55} (hc : Ck s b n l = 0) (cs : List Int) (hb : Bytes cs) (hl : cs.length ≤ 9000) : Ev (fun k => match_Of.f k s b n l cs) (normS (opsP l s b n cs), 0) := by
 have hz := ops_sz hc cs hb (by omega)
 have hs := (rg_true (fr_ok (ck_ok hc).1).2).2.1
 have hp := po_sum _ hz.2
 exact of_of hc cs hb (by omega) (norm_d9 (by omega) (fun o ho => by have := hp.2 o ho; omega) (fun o ho => okO_po (hz.2 o ho) hs))
theorem costs_loop {s b n : Int} {l : List S55} {cs : List Int} {x7 x8 : Int} (hs : 0 ≤ s ∧ s ≤ 131072 ∧ 16 ≤ b ∧ b ≤ 4096) (L : List S47) (hp : ∀ x ∈ L, PO s b x) (hn : L.length ≤ 100000)
    (hend : Ev (fun k => if (wrap64 (x7 + x8)) = (cs.length : Int) then ((remoraref08_Norm.f L).bind fun t197 => ((remoraref08_Same.f k t197 L).bind fun t200 => (if t200 = true then ((remoralaw09_awake.f k).bind fun t201 => (some t201)) else (none)))) else (none)) true) :
    ∀ (d i : Nat), i + d = L.length → Ev (fun k => remoralaw09_MatchCosts.l0 k cs L x7 x8 L (L.length : Int) (i : Int) s b n l) true := by
 intro d
 induction d with
 | zero =>
  intro i hi
  refine Ev.step (f := fun k => if (wrap64 (x7 + x8)) = (cs.length : Int) then ((remoraref08_Norm.f L).bind fun t197 => ((remoraref08_Same.f k t197 L).bind fun t200 => (if t200 = true then ((remoralaw09_awake.f k).bind fun t201 => (some t201)) else (none)))) else (none)) (fun k => ?_) hend
  simp only [remoralaw09_MatchCosts.l0]
  rw [if_neg (by omega)]
 | succ d ih =>
  intro i hi
  have hlt : i < L.length := by omega
  refine Ev.step (f := fun k => remoralaw09_MatchCosts.l0 k cs L x7 x8 L (L.length : Int) ((i + 1 : Nat) : Int) s b n l) (fun k => ?_) (ih (i + 1) (by omega))
  simp only [remoralaw09_MatchCosts.l0]
  rw [if_pos (by omega), if_pos (by omega), if_pos (by omega), inc hlt (by omega)]
  have hpo := hp _ (List.getElem_mem hlt)
  rw [rd40 hlt]
  by_cases h2 : L[i].f2 = []
  ·obtain ⟨h3, h4, h5, h6⟩ := hpo h2
   rw [if_pos (by rw [h2]; rfl), if_neg (by omega), if_neg (by omega), if_neg (by omega), if_pos (by rw [Int.tmod_eq_emod_of_nonneg h3]; exact h4), if_neg (by rw [w64 _ (by omega) (by omega)]; omega)]
  ·rw [if_neg (fun h => h2 (List.eq_nil_of_length_eq_zero (by omega)))]
theorem MatchCosts : remoralaw09_MatchCosts.Pure := by
 intro s b n l cs hs hb hn hl hcs _
 refine Ev.rounds ?_
 unfold remoralaw09_MatchCosts.f
 obtain ⟨t, ht, h60⟩ := light_of s b n l
 have hj : Ev (fun k => remoralaw09_MatchCosts.j0 k cs true s b n l) true := by
  refine Ev.step (f := fun k => (remoralaw09_awake.f k).bind fun t => some t) (fun k => ?_) (Ev.bind awake9 (Ev.now _))
  simp only [remoralaw09_MatchCosts.j0]
  rw [if_pos trivial]
 refine Ev.bind ht ?_
 cases t with
 | false => exact ev_neg (by decide) hj
 | true =>
  refine ev_pos rfl ?_
  by_cases hg : (cs.length : Int) > 1500
  ·rw [decide_eq_true hg]
   exact hj
  ·rw [decide_eq_false hg]
   have hby : Bytes cs := bytes_wf hcs.2
   refine Ev.step (f := fun k => (match_Of.f k s b n l cs).bind fun bt186 => (if bt186.2 = 0 then ((remoraref06_Check.f k s b n l).bind fun t192 => (if t192 = 0 then ((delta_Cost.f k bt186.1).bind fun bt193 => (remoralaw09_MatchCosts.l0 k cs bt186.1 bt193.1 bt193.2 bt186.1 (bt186.1.length : Int) 0 s b n l)) else (none))) else (if (bt186.1.length : Int) = 0 then ((remoraref06_Check.f k s b n l).bind fun t190 => (if bt186.2 = t190 then ((remoralaw09_awake.f k).bind fun t191 => (some t191)) else (none))) else (none)))) (fun k => ?_) ?_
   ·simp only [remoralaw09_MatchCosts.j0]
    rw [if_neg (by decide)]
   ·by_cases h0 : Ck s b n l = 0
    ·have hr := rcheck_of s b n l
     rw [h0] at hr
     have hz := ops_sz h0 cs hby (by omega)
     have hp := po_sum _ hz.2
     have hs1 := (rg_true (fr_ok (ck_ok h0).1).2)
     obtain ⟨L, hL⟩ : ∃ L, L = normS (opsP l s b n cs) := ⟨_, rfl⟩
     have hpo : ∀ x ∈ L, PO s b x := by rw [hL]; exact po_norm hz.2
     have hab : cA L + cB L = (cs.length : Int) := by rw [hL, (ab_norm _).1, (ab_norm _).2]; exact hz.1
     have hnn : normS L = L := by rw [hL]; exact norm_norm _
     have hlen := po_sum L hpo
     have hof := of_small h0 cs hby (by omega)
     rw [← hL] at hof
     clear hL
     refine Ev.bind hof (ev_pos rfl (Ev.bind hr (ev_pos rfl (Ev.bind (Ev.of (delta_Cost.mono _) (k := 9001) (cost_d L (by omega) (by omega))) ?_))))
     rw [cost_zero]
     have hn0 := ab_nonneg L
     show Ev (fun k => remoralaw09_MatchCosts.l0 k cs L (wrap64 (cA L)) (wrap64 (cB L)) L (L.length : Int) 0 s b n l) true
     rw [w64 (cA L) (by omega) (by omega), w64 (cB L) (by omega) (by omega)]
     have hend : Ev (fun k => if (wrap64 (cA L + cB L)) = (cs.length : Int) then ((remoraref08_Norm.f L).bind fun t197 => ((remoraref08_Same.f k t197 L).bind fun t200 => (if t200 = true then ((remoralaw09_awake.f k).bind fun t201 => (some t201)) else (none)))) else (none)) true := by
      refine ev_pos (by rw [w64 _ (by omega) (by omega)]; exact hab) (Ev.bind (ev_some (norm_r (l := L) (by omega) (fun o ho => by have := hlen.2 o ho; omega))) ?_)
      rw [hnn]
      exact Ev.bind (Ev.of (remoraref08_Same.mono L L) (k := 9001) (same_of L (by omega) (by omega))) (ev_pos rfl (Ev.bind awake9 (Ev.now _)))
     exact costs_loop hs1 L hpo (by omega) hend L.length 0 (by omega)
    ·have hr := rcheck_of s b n l
     have hof : Ev (fun k => match_Of.f k s b n l cs) ([], Ck s b n l) := by
      unfold match_Of.f
      exact Ev.bind (ev_some (check_of s b n l)) (ev_pos h0 (Ev.now _))
     exact Ev.bind hof (ev_neg h0 (ev_pos rfl (Ev.bind hr (ev_pos rfl (Ev.bind awake9 (Ev.now _))))))

end Go.Proofs.Ytkihlcmjjoiccaa.Pure
