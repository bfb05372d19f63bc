/- The program and the reference agree on the signature that bytes hold, sealed or not, for at most 3,000 bytes. Conditions: none. -/
import Derived.Test.YtjhgeppjpofjpaaDoorPSigReadsx14
namespace Go.Proofs.YtjhgeppjpofjpaaDoor.Pure
open Go.RowKit Go.Proofs.YtjhgeppjpofjpaaDoor.PSigReads Go.Proofs.YtjhgeppjpofjpaaDoorW.PrintWords Go.Proofs.YtjhgeppjpofjpaaDoorW.PrintLast Go.Proofs.YtjhgeppjpofjpaaDoorW.PrintMore
set_option maxRecDepth 100000
set_option linter.unusedVariables false
theorem w64 (n : Int) (h0 : -9223372036854775808 ≤ n) (h1 : n ≤ 9223372036854775807) : wrap64 n = n := by unfold wrap64; omega
def Ln (s : Int) : Int := if s ≤ 256 then 16 else if s ≤ 1024 then 32 else if s ≤ 4096 then 64 else if s ≤ 16384 then 128 else if s ≤ 65536 then 256 else if s ≤ 262144 then 512 else if s ≤ 1048576 then 1024 else if s ≤ 4194304 then 2048 else 4096
theorem length_of (s : Int) (m : Nat) : blocks_Length.f (m + 9) s = some (Ln s) := by
 have e1 : wrap64 (16 * 16) = 256 := by unfold wrap64; decide
 have e2 : wrap64 (32 * 32) = 1024 := by unfold wrap64; decide
 have e3 : wrap64 (64 * 64) = 4096 := by unfold wrap64; decide
 have e4 : wrap64 (128 * 128) = 16384 := by unfold wrap64; decide
 have e5 : wrap64 (256 * 256) = 65536 := by unfold wrap64; decide
 have e6 : wrap64 (512 * 512) = 262144 := by unfold wrap64; decide
 have e7 : wrap64 (1024 * 1024) = 1048576 := by unfold wrap64; decide
 have e8 : wrap64 (2048 * 2048) = 4194304 := by unfold wrap64; decide
 have d1 : wrap64 (16 * 2) = 32 := by unfold wrap64; decide
 have d2 : wrap64 (32 * 2) = 64 := by unfold wrap64; decide
 have d3 : wrap64 (64 * 2) = 128 := by unfold wrap64; decide
 have d4 : wrap64 (128 * 2) = 256 := by unfold wrap64; decide
 have d5 : wrap64 (256 * 2) = 512 := by unfold wrap64; decide
 have d6 : wrap64 (512 * 2) = 1024 := by unfold wrap64; decide
 have d7 : wrap64 (1024 * 2) = 2048 := by unfold wrap64; decide
 have d8 : wrap64 (2048 * 2) = 4096 := by unfold wrap64; decide
 unfold blocks_Length.f Ln
 by_cases c1 : s ≤ 256
 ·rw [if_pos c1]; simp only [blocks_Length.l0]; rw [if_pos (by decide), e1, if_neg (by omega)]
 rw [if_neg c1]
 by_cases c2 : s ≤ 1024
 ·rw [if_pos c2]; simp only [blocks_Length.l0]; rw [if_pos (by decide), e1, if_pos (by omega), d1, if_pos (by decide), e2, if_neg (by omega)]
 rw [if_neg c2]
 by_cases c3 : s ≤ 4096
 ·rw [if_pos c3]; simp only [blocks_Length.l0]; rw [if_pos (by decide), e1, if_pos (by omega), d1, if_pos (by decide), e2, if_pos (by omega), d2, if_pos (by decide), e3, if_neg (by omega)]
 rw [if_neg c3]
 by_cases c4 : s ≤ 16384
 ·rw [if_pos c4]; simp only [blocks_Length.l0]; rw [if_pos (by decide), e1, if_pos (by omega), d1, if_pos (by decide), e2, if_pos (by omega), d2, if_pos (by decide), e3, if_pos (by omega), d3, if_pos (by decide), e4, if_neg (by omega)]
 rw [if_neg c4]
 by_cases c5 : s ≤ 65536
 ·rw [if_pos c5]; simp only [blocks_Length.l0]; rw [if_pos (by decide), e1, if_pos (by omega), d1, if_pos (by decide), e2, if_pos (by omega), d2, if_pos (by decide), e3, if_pos (by omega), d3, if_pos (by decide), e4, if_pos (by omega), d4, if_pos (by decide), e5, if_neg (by omega)]
 rw [if_neg c5]
 by_cases c6 : s ≤ 262144
 ·rw [if_pos c6]; simp only [blocks_Length.l0]; rw [if_pos (by decide), e1, if_pos (by omega), d1, if_pos (by decide), e2, if_pos (by omega), d2, if_pos (by decide), e3, if_pos (by omega), d3, if_pos (by decide), e4, if_pos (by omega), d4, if_pos (by decide), e5, if_pos (by omega), d5, if_pos (by decide), e6, if_neg (by omega)]
 rw [if_neg c6]
 by_cases c7 : s ≤ 1048576
 ·rw [if_pos c7]; simp only [blocks_Length.l0]; rw [if_pos (by decide), e1, if_pos (by omega), d1, if_pos (by decide), e2, if_pos (by omega), d2, if_pos (by decide), e3, if_pos (by omega), d3, if_pos (by decide), e4, if_pos (by omega), d4, if_pos (by decide), e5, if_pos (by omega), d5, if_pos (by decide), e6, if_pos (by omega), d6, if_pos (by decide), e7, if_neg (by omega)]
 rw [if_neg c7]
 by_cases c8 : s ≤ 4194304
 ·rw [if_pos c8]; simp only [blocks_Length.l0]; rw [if_pos (by decide), e1, if_pos (by omega), d1, if_pos (by decide), e2, if_pos (by omega), d2, if_pos (by decide), e3, if_pos (by omega), d3, if_pos (by decide), e4, if_pos (by omega), d4, if_pos (by decide), e5, if_pos (by omega), d5, if_pos (by decide), e6, if_pos (by omega), d6, if_pos (by decide), e7, if_pos (by omega), d7, if_pos (by decide), e8, if_neg (by omega)]
 rw [if_neg c8]
 simp only [blocks_Length.l0]; rw [if_pos (by decide), e1, if_pos (by omega), d1, if_pos (by decide), e2, if_pos (by omega), d2, if_pos (by decide), e3, if_pos (by omega), d3, if_pos (by decide), e4, if_pos (by omega), d4, if_pos (by decide), e5, if_pos (by omega), d5, if_pos (by decide), e6, if_pos (by omega), d6, if_pos (by decide), e7, if_pos (by omega), d7, if_pos (by decide), e8, if_pos (by omega), d8, if_neg (by decide)]
def Rg (s b : Int) : Bool := decide (0 ≤ s ∧ s ≤ 131072 ∧ 16 ≤ b ∧ b ≤ 4096)
theorem right_of (s b : Int) : blocks_Right.f s b = some (Rg s b) := by
 unfold blocks_Right.f blocks_block.f Rg
 by_cases h1 : s ≥ 0
 ·rw [if_pos h1]
  by_cases h2 : s ≤ 131072
  ·rw [if_pos h2]
   by_cases h3 : b ≥ 16
   ·rw [if_pos h3]; exact congrArg some (decide_eq_decide.2 (by omega))
   ·rw [if_neg h3]; exact congrArg some (decide_eq_false (by omega)).symm
  ·rw [if_neg h2]; exact congrArg some (decide_eq_false (by omega)).symm
 ·rw [if_neg h1]; exact congrArg some (decide_eq_false (by omega)).symm
theorem rg_true {s b : Int} (h : Rg s b = true) : 0 ≤ s ∧ s ≤ 131072 ∧ 16 ≤ b ∧ b ≤ 4096 := of_decide_eq_true h
theorem rg_mk {s b : Int} (h : 0 ≤ s ∧ s ≤ 131072 ∧ 16 ≤ b ∧ b ≤ 4096) : Rg s b = true := decide_eq_true h
def Ct (s b : Int) : Int := if Rg s b = true then (s + b - 1) / b else 0
theorem ct_bounds {s b : Int} (h : Rg s b = true) : Ct s b * b ≤ s + b - 1 ∧ s ≤ Ct s b * b ∧ 0 ≤ Ct s b ∧ Ct s b ≤ 8192 := by
 obtain ⟨h1, h2, h3, h4⟩ := rg_true h
 unfold Ct; rw [if_pos h]
 have a := Int.ediv_mul_le (s + b - 1) (b := b) (by omega)
 have c := Int.lt_ediv_add_one_mul_self (s + b - 1) (b := b) (by omega)
 have d : 0 ≤ (s + b - 1) / b := Int.ediv_nonneg (by omega) (by omega)
 have e : (s + b - 1) / b < 8193 := Int.ediv_lt_of_lt_mul (by omega) (by omega)
 rw [Int.add_mul] at c
 exact ⟨a, by omega, d, by omega⟩
theorem count_of (s b : Int) : blocks_Count.f s b = some (Ct s b) := by
 unfold blocks_Count.f
 rw [right_of]; simp only [Option.bind_some]
 by_cases h : Rg s b = true
 ·obtain ⟨h1, h2, h3, h4⟩ := rg_true h
  have hb := ct_bounds h
  unfold Ct at hb ⊢
  rw [if_pos h] at hb
  rw [if_pos h, if_pos h, if_neg (by omega), w64 (s + b) (by omega) (by omega), w64 (s + b - 1) (by omega) (by omega), Int.tdiv_eq_ediv_of_nonneg (by omega), w64 _ (by omega) (by omega)]
 ·unfold Ct; rw [if_neg h, if_neg h]
def nb (n : Nat) : List Int := if n < 128 then [(n : Int)] else ((128 + n % 128 : Nat) : Int) :: nb (n / 128)
termination_by n
decreasing_by omega
theorem nb_small {n : Nat} (h : n < 128) : nb n = [(n : Int)] := by rw [nb, if_pos h]
theorem nb_more {n : Nat} (h : ¬ n < 128) : nb n = ((128 + n % 128 : Nat) : Int) :: nb (n / 128) := by rw [nb, if_neg h]
theorem nb_pos (n : Nat) : 1 ≤ (nb n).length := by
 by_cases h : n < 128
 ·rw [nb_small h]; exact Nat.le_refl _
 ·rw [nb_more h]; simp
theorem nb_len (m : Nat) : ∀ n : Nat, n < 128 ^ m → 0 < m → (nb n).length ≤ m := by
 induction m with
 | zero => intro n h h0; omega
 | succ m ih =>
  intro n h _
  by_cases hs : n < 128
  ·rw [nb_small hs]; simp
  ·rw [nb_more hs, List.length_cons]
   have hm : 0 < m := by
    rcases Nat.eq_zero_or_pos m with rfl | hm
    ·simp at h; omega
    ·exact hm
   have := ih (n / 128) (by rw [Nat.div_lt_iff_lt_mul (by decide), ← Nat.pow_succ]; exact h) hm
   omega
theorem nb_nine {n : Nat} (h : n ≤ 4611686018427387903) : (nb n).length ≤ 9 := nb_len 9 n (by omega) (by decide)
theorem nb_bytes (n : Nat) : ∀ x ∈ nb n, 0 ≤ x ∧ x ≤ 255 := by
 induction n using Nat.strongRecOn with
 | _ n ih =>
  by_cases h : n < 128
  ·rw [nb_small h]; intro x hx; obtain rfl := List.mem_singleton.1 hx; omega
  ·rw [nb_more h]
   intro x hx
   rcases List.mem_cons.1 hx with rfl | hx
   ·omega
   ·exact ih (n / 128) (by omega) x hx
def cl (a : Int) : Nat := (mn (mx a 0) 4611686018427387903).toNat
theorem cl_le (a : Int) : cl a ≤ 4611686018427387903 := by unfold cl mn mx; split <;> split <;> omega
theorem cl_eq (a : Int) : mn (mx a 0) 4611686018427387903 = (cl a : Int) := by unfold cl mn mx; split <;> split <;> omega
theorem ev_pos {α : Type} {c : Prop} [Decidable c] (h : c) {f g : Nat → Option α} {r : α} (k : Ev f r) : Ev (fun k => if c then f k else g k) r := Ev.congr (fun _ => if_pos h) k
theorem ev_neg {α : Type} {c : Prop} [Decidable c] (h : ¬ c) {f g : Nat → Option α} {r : α} (k : Ev g r) : Ev (fun k => if c then f k else g k) r := Ev.congr (fun _ => if_neg h) k
theorem ev_some {α : Type} {o : Option α} {r : α} (h : o = some r) : Ev (fun _ => o) r := by subst h; exact Ev.now _
theorem size_loop (d : Nat) : ∀ (n : Nat) (s : Int), (nb n).length ≤ d → n ≤ 4611686018427387903 → 0 ≤ s → s + (d : Int) ≤ 1000 → Ev (fun k => num_Size.l0 k n s) (s + ((nb n).length : Int) - 1) := by
 induction d with
 | zero => intro n s h; have := nb_pos n; omega
 | succ d ih =>
  intro n s h hn h0 h1
  by_cases hs : n < 128
  ·refine Ev.step (f := fun _ => some s) (fun k => ?_) ?_
   ·simp only [num_Size.l0]; rw [if_neg (by omega)]
   ·rw [nb_small hs]
    have e : s + (([(n : Int)] : List Int).length : Int) - 1 = s := by simp
    rw [e]; exact Ev.now _
  ·have e1 : wrap64 (s + 1) = s + 1 := by unfold wrap64; omega
   have hl : (nb n).length = (nb (n / 128)).length + 1 := by rw [nb_more hs, List.length_cons]
   refine Ev.step (f := fun k => num_Size.l0 k ((n / 128 : Nat) : Int) (s + 1)) (fun k => ?_) ?_
   ·simp only [num_Size.l0]; rw [if_pos (by omega), e1]; rfl
   ·have := ih (n / 128) (s + 1) (by omega) (by omega) (by omega) (by omega)
    rw [hl]
    rw [show s + (((nb (n / 128)).length + 1 : Nat) : Int) - 1 = s + 1 + ((nb (n / 128)).length : Int) - 1 by omega]
    exact this
theorem size_of (a : Int) : Ev (fun k => num_Size.f k (mn (mx a 0) 4611686018427387903)) ((nb (cl a)).length : Int) := by
 unfold num_Size.f
 have e : mn (mx (cl a : Int) 0) 4611686018427387903 = (cl a : Int) := by have := cl_le a; unfold mn mx; split <;> split <;> omega
 rw [cl_eq a, e]
 have := size_loop (nb (cl a)).length (cl a) 1 (Nat.le_refl _) (cl_le a) (by decide) (by have := nb_nine (cl_le a); omega)
 rwa [show (1 : Int) + ((nb (cl a)).length : Int) - 1 = ((nb (cl a)).length : Int) by omega] at this
theorem wrap62 (n : Int) (h0 : 0 ≤ n) (h1 : n < 2 ^ 62) : IntKind.i64.wrap n = n := by rw [IntKind.wrap_i64]; omega
theorem low7 {n : Nat} (h : n ≤ 4611686018427387903) : (Go.bits .or .i64 (Go.bits .and .i64 (n : Int) 127) 128) % 256 = ((128 + n % 128 : Nat) : Int) := by
 have h1 : Go.bits .and .i64 (n : Int) 127 = (n : Int) % 128 := bits_mask .i64 62 (by decide) wrap62 7 (by decide) n (by omega) (by omega)
 have e : (n : Int) % 128 = ((n % 128 : Nat) : Int) := by omega
 have h2 := (bits_nat .i64 62 (by decide) wrap62 (n % 128) 128 (by omega) (by decide)).2
 have h3 : n % 128 ||| 128 = 128 + n % 128 := by
  rw [Nat.or_comm]
  have := Nat.two_pow_add_eq_or_of_lt (i := 7) (b := n % 128) (by omega) 1
  rw [Nat.mul_one] at this
  exact this.symm
 rw [h1, e, show (128 : Int) = ((128 : Nat) : Int) from rfl, h2, h3]
 omega
theorem putN_loop (m : Nat) (hm : m ≤ 9) (d : Nat) : ∀ (i n : Nat) (l : List Int), (nb n).length = d + 1 → i + d = m → n ≤ 4611686018427387903 → l.length ≤ 2000000000 + i → Ev (fun k => num_Put.l0 k n l (m : Int) (i : Int)) (l ++ nb n) := by
 induction d with
 | zero =>
  intro i n l hd hi hn hl
  have hs : n < 128 := by
   by_cases hs : n < 128
   ·exact hs
   ·rw [nb_more hs, List.length_cons] at hd
    have := nb_pos (n / 128)
    omega
  rw [nb_small hs]
  refine Ev.step (f := fun _ => some (l ++ [(n : Int)])) (fun k => ?_) (Ev.now _)
  simp only [num_Put.l0]
  rw [if_neg (by omega), if_pos (by omega), show (n : Int) % 256 = (n : Int) by omega]
 | succ d ih =>
  intro i n l hd hi hn hl
  have hs : ¬ n < 128 := by
   intro hs
   rw [nb_small hs] at hd
   simp at hd
  rw [nb_more hs] at hd ⊢
  have hd' : (nb (n / 128)).length = d + 1 := by rw [List.length_cons] at hd; omega
  have e1 : wrap64 ((i : Int) + 1) = ((i + 1 : Nat) : Int) := by unfold wrap64; omega
  refine Ev.step (f := fun k => num_Put.l0 k ((n / 128 : Nat) : Int) (l ++ [((128 + n % 128 : Nat) : Int)]) (m : Int) ((i + 1 : Nat) : Int)) (fun k => ?_) ?_
  ·simp only [num_Put.l0]
   rw [if_pos (by omega), if_pos (by omega), low7 hn, e1]
   rfl
  ·have := ih (i + 1) (n / 128) (l ++ [((128 + n % 128 : Nat) : Int)]) hd' (by omega) (by omega) (by rw [List.length_append]; simp; omega)
   rwa [List.append_assoc, List.singleton_append] at this
theorem put_of (l : List Int) (a : Int) (hl : l.length ≤ 2000000000) : Ev (fun k => num_Put.f k l a) (l ++ nb (cl a)) := by
 unfold num_Put.f
 refine Ev.bind (size_of a) ?_
 have h9 := nb_nine (cl_le a)
 have h1 := nb_pos (cl a)
 have e1 : wrap64 ((l.length : Int) + ((nb (cl a)).length : Int)) = (l.length : Int) + ((nb (cl a)).length : Int) := by unfold wrap64; omega
 have e2 : wrap64 (((nb (cl a)).length : Int) - 1) = (((nb (cl a)).length - 1 : Nat) : Int) := by unfold wrap64; omega
 rw [e1]
 refine ev_pos (by omega) (ev_pos (by omega) ?_)
 simp only [Option.bind_some, List.replicate_zero, List.nil_append, List.length_nil, Nat.zero_add]
 refine ev_pos (by omega) (Ev.bind (size_of a) ?_)
 rw [e2, cl_eq]
 exact putN_loop ((nb (cl a)).length - 1) (by omega) ((nb (cl a)).length - 1) 0 (cl a) l (by omega) (by omega) (cl_le a) (by omega)
def Bytes (l : List Int) : Prop := ∀ x ∈ l, 0 ≤ x ∧ x ≤ 255
def st1 (x : Nat) : Nat := (x >>> 1) ^^^ (if x % 2 = 1 then 3988292384 else 0)
def stN : Nat → Nat → Nat
 | 0, x => x
 | d + 1, x => stN d (st1 x)
theorem st1_lt {x : Nat} (h : x < 4294967296) : st1 x < 4294967296 := by
 unfold st1
 have h1 : x >>> 1 < 2 ^ 32 := by rw [Nat.shiftRight_eq_div_pow]; omega
 refine Nat.xor_lt_two_pow h1 ?_
 split <;> decide
theorem stN_lt (d : Nat) : ∀ {x : Nat}, x < 4294967296 → stN d x < 4294967296 := by
 induction d with
 | zero => intro x h; exact h
 | succ d ih => intro x h; exact ih (st1_lt h)
theorem xor_lc (a b c : Nat) : a ^^^ (b ^^^ c) = b ^^^ (a ^^^ c) := by rw [← Nat.xor_assoc, Nat.xor_comm a b, Nat.xor_assoc]
theorem st1_xor (a b : Nat) : st1 (a ^^^ b) = st1 a ^^^ st1 b := by
 unfold st1
 rw [Nat.shiftRight_xor_distrib]
 have hm : (a ^^^ b) % 2 = (a % 2) ^^^ (b % 2) := by have := Nat.xor_mod_two_pow (a := a) (b := b) (n := 1); simpa using this
 rw [hm]
 rcases Nat.mod_two_eq_zero_or_one a with ha | ha <;> rcases Nat.mod_two_eq_zero_or_one b with hb | hb
 ·rw [ha, hb]; simp
 ·rw [ha, hb]; simp [Nat.xor_assoc]
 ·rw [ha, hb]
  rw [if_pos (by decide), if_pos rfl, if_neg (by decide), Nat.xor_zero, Nat.xor_assoc, Nat.xor_assoc, Nat.xor_comm (b >>> 1)]
 ·rw [ha, hb]
  rw [if_neg (by decide), if_pos rfl, Nat.xor_zero, Nat.xor_assoc, xor_lc 3988292384 (b >>> 1), Nat.xor_self, Nat.xor_zero]
theorem stN_xor (d : Nat) : ∀ a b : Nat, stN d (a ^^^ b) = stN d a ^^^ stN d b := by
 induction d with
 | zero => intro a b; rfl
 | succ d ih => intro a b; show stN d (st1 (a ^^^ b)) = _; rw [st1_xor, ih]; rfl
theorem st1_even (q : Nat) : st1 (2 * q) = q := by
 unfold st1
 rw [Nat.shiftRight_eq_div_pow, if_neg (by omega)]
 simp
theorem st4_high (q : Nat) : stN 4 (16 * q) = q := by
 show st1 (st1 (st1 (st1 (16 * q)))) = q
 rw [show 16 * q = 2 * (8 * q) by omega, st1_even, show 8 * q = 2 * (4 * q) by omega, st1_even, show 4 * q = 2 * (2 * q) by omega, st1_even, st1_even]
theorem st4_parts (x : Nat) : stN 4 x = (x / 16) ^^^ stN 4 (x % 16) := by
 have e : x = (16 * (x / 16)) ^^^ (x % 16) := by
  have h := Nat.two_pow_add_eq_or_of_lt (i := 4) (b := x % 16) (by omega) (x / 16)
  have hx : (16 * (x / 16)) ^^^ (x % 16) = 16 * (x / 16) ||| x % 16 := by
   apply Nat.eq_of_testBit_eq
   intro i
   rw [Nat.testBit_xor, Nat.testBit_or]
   by_cases hi : i < 4
   ·have : (16 * (x / 16)).testBit i = false := by
      rw [show 16 * (x / 16) = 2 ^ 4 * (x / 16) by omega, Nat.testBit_two_pow_mul]
      simp; omega
    rw [this]; simp
   ·have : (x % 16).testBit i = false := Nat.testBit_lt_two_pow (Nat.lt_of_lt_of_le (show x % 16 < 2 ^ 4 by omega) (Nat.pow_le_pow_right (by decide) (by omega)))
    rw [this]; simp
  rw [hx]
  have : (2 ^ 4 : Nat) * (x / 16) = 16 * (x / 16) := by omega
  rw [← this, ← h]
  omega
 conv => lhs; rw [e]
 rw [stN_xor, st4_high]
theorem tab_of : ∀ r : Nat, r < 16 → tab_table[r]? = some ((stN 4 r : Nat) : Int) := by decide
theorem xor_nat {a b : Nat} (ha : a < 4294967296) (hb : b < 4294967296) : Go.bits .xor .u32 (a : Int) (b : Int) = ((a ^^^ b : Nat) : Int) := by
 have h := Nat.xor_lt_two_pow (n := 32) ha hb
 unfold Go.bits
 simp only [BitVec.ofInt_natCast, BitVec.toNat_xor, BitVec.toNat_ofNat]
 rw [IntKind.wrap_u32, show IntKind.u32.bits = 32 from rfl, Nat.mod_eq_of_lt ha, Nat.mod_eq_of_lt hb]
 omega
theorem and15 {a : Nat} (ha : a < 4294967296) : Go.bits .and .u32 (a : Int) 15 = ((a % 16 : Nat) : Int) := by
 have := bits_mask .u32 32 (by decide) (fun n h0 h1 => by rw [IntKind.wrap_u32]; omega) 4 (by decide) (a : Int) (by omega) (by omega)
 rw [show (15 : Int) = 2 ^ 4 - 1 by decide, this]
 omega
theorem half_of {a : Nat} (ha : a < 4294967296) : crcHalf (a : Int) = ((stN 4 a : Nat) : Int) := by
 unfold crcHalf
 rw [and15 ha, Int.toNat_natCast, tab_of _ (Nat.mod_lt _ (by decide)), Option.getD_some, st4_parts a]
 rw [show (a : Int) / 16 = ((a / 16 : Nat) : Int) from rfl]
 exact xor_nat (by omega) (stN_lt 4 (by omega))
def cb (x c : Nat) : Nat := stN 8 (x ^^^ c)
theorem cb_lt {x c : Nat} (hx : x < 4294967296) (hc : c < 4294967296) : cb x c < 4294967296 := stN_lt 8 (Nat.xor_lt_two_pow (n := 32) hx hc)
theorem byte_of {x c : Nat} (hx : x < 4294967296) (hc : c < 4294967296) : crcByte (x : Int) (c : Int) = ((cb x c : Nat) : Int) := by
 unfold crcByte
 rw [show (c : Int) % 4294967296 = (c : Int) by omega, xor_nat hx hc]
 have h := Nat.xor_lt_two_pow (n := 32) hx hc
 rw [half_of h, half_of (stN_lt 4 h)]
 rfl
def cr (x : Nat) (l : List Int) : Nat := l.foldl (fun x c => cb x c.toNat) x
theorem cr_lt (l : List Int) (hl : Bytes l) : ∀ {x : Nat}, x < 4294967296 → cr x l < 4294967296 := by
 induction l with
 | nil => intro x hx; exact hx
 | cons c l ih =>
  intro x hx
  have := hl c List.mem_cons_self
  exact ih (fun y hy => hl y (List.mem_cons_of_mem _ hy)) (cb_lt hx (by omega))
theorem row_of (l : List Int) (hl : Bytes l) : ∀ {x : Nat}, x < 4294967296 → crcRow (x : Int) l = ((cr x l : Nat) : Int) := by
 induction l with
 | nil => intro x hx; rfl
 | cons c l ih =>
  intro x hx
  have hc := hl c List.mem_cons_self
  have e : c = ((c.toNat : Nat) : Int) := by omega
  show crcRow (crcByte (x : Int) c) l = _
  rw [e, byte_of hx (by omega)]
  exact ih (fun y hy => hl y (List.mem_cons_of_mem _ hy)) (cb_lt hx (by omega))
def cs (l : List Int) : Nat := 4294967295 - cr 4294967295 l
theorem cs_lt (l : List Int) : cs l < 4294967296 := by unfold cs; omega
theorem not_xor {a : Nat} (ha : a < 4294967296) : 4294967295 ^^^ a = 4294967295 - a := by
 have h1 : (BitVec.ofNat 32 a ^^^ BitVec.allOnes 32).toNat = (~~~ BitVec.ofNat 32 a).toNat := by rw [BitVec.xor_allOnes]
 rw [BitVec.toNat_xor, BitVec.toNat_not, BitVec.toNat_ofNat, BitVec.toNat_allOnes, Nat.mod_eq_of_lt ha] at h1
 rw [Nat.xor_comm]
 omega
theorem of_one (l : List Int) (hl : Bytes l) : crc_Of.f [l] = some ((cs l : Nat) : Int) := by
 unfold crc_Of.f cs
 show some (Go.bits .xor .u32 4294967295 (crcRow ((4294967295 : Nat) : Int) l)) = _
 have h := cr_lt l hl (x := 4294967295) (by decide)
 rw [row_of l hl (by decide), show (4294967295 : Int) = ((4294967295 : Nat) : Int) from rfl, xor_nat (by decide) h, not_xor h]
def sb (n : Nat) : List Int := [((n % 256 : Nat) : Int), ((n / 256 % 256 : Nat) : Int), ((n / 65536 % 256 : Nat) : Int), ((n / 16777216 : Nat) : Int)]
theorem seal4_of (l : List Int) (hl : Bytes l) : crc_seal.f l = some (((cs l % 256 : Nat) : Int), ((cs l / 256 % 256 : Nat) : Int), ((cs l / 65536 % 256 : Nat) : Int), ((cs l / 16777216 : Nat) : Int)) := by
 unfold crc_seal.f
 rw [of_one l hl]
 rfl
theorem seal_of (l : List Int) (hl : Bytes l) (hn : l.length ≤ 1000000000) : crc_Seal.f l = some (l ++ sb (cs l)) := by
 unfold crc_Seal.f
 rw [seal4_of l hl, Option.bind_some, if_pos hn]
 rfl
theorem inc6 {i n : Nat} (h : i < n) (hn : n ≤ 4000000000000) : wrap64 ((i : Int) + 1) = ((i + 1 : Nat) : Int) := by unfold wrap64; omega
theorem rd44 {l : List S44} {i : Nat} (h : i < l.length) : rd_T44 l (i : Int) = l[i] := by
 unfold rd_T44
 rw [Int.toNat_natCast, List.getD_eq_getElem?_getD, List.getElem?_eq_getElem h, Option.getD_some]
theorem step44 {l : List S44} {i : Nat} (h : i < l.length) : l.drop i = rd_T44 l (i : Int) :: l.drop (i + 1) := by
 rw [rd44 h]
 exact List.drop_eq_getElem_cons h
theorem str_all (s : ByteArray) : Bytes (bytesOf s) := by
 intro x hx
 unfold bytesOf at hx
 obtain ⟨b, _, rfl⟩ := List.mem_map.1 hx
 have := b.toNat_lt
 omega
theorem nb_b (n : Nat) : Bytes (nb n) := nb_bytes n
theorem bytes_app {a b : List Int} (ha : Bytes a) (hb : Bytes b) : Bytes (a ++ b) := fun x hx => by
 rcases List.mem_append.1 hx with h | h
 ·exact ha x h
 ·exact hb x h
def Fr (s b n : Int) : Int := if (1 ≤ n ∧ n ≤ 32) ∧ Rg s b = true then 0 else 2
theorem fr_ok {s b n : Int} (h : Fr s b n = 0) : (1 ≤ n ∧ n ≤ 32) ∧ Rg s b = true := by
 unfold Fr at h
 by_cases h1 : (1 ≤ n ∧ n ≤ 32) ∧ Rg s b = true
 ·exact h1
 ·rw [if_neg h1] at h; omega
theorem fr_mk {s b n : Int} (h : (1 ≤ n ∧ n ≤ 32) ∧ Rg s b = true) : Fr s b n = 0 := if_pos h
theorem fr_two {s b n : Int} (h : ¬ Fr s b n = 0) : Fr s b n = 2 := by
 unfold Fr at h ⊢
 by_cases h1 : (1 ≤ n ∧ n ≤ 32) ∧ Rg s b = true
 ·rw [if_pos h1] at h; omega
 ·rw [if_neg h1]
theorem strong_of (n : Int) : sig_strong.f n = some (decide (1 ≤ n ∧ n ≤ 32)) := by
 unfold sig_strong.f
 by_cases h : n ≥ 1
 ·rw [if_pos h]; congr 1; by_cases h2 : n ≤ 32
  ·rw [decide_eq_true h2, decide_eq_true ⟨h, h2⟩]
  ·rw [decide_eq_false h2, decide_eq_false (fun h3 => h2 h3.2)]
 ·rw [if_neg h, decide_eq_false (fun h3 => h h3.1)]
theorem front_of (s b n : Int) (l : List S44) : sig_front.f s b n l = some (Fr s b n) := by
 unfold sig_front.f Fr
 rw [strong_of, Option.bind_some]
 by_cases h : 1 ≤ n ∧ n ≤ 32
 ·rw [decide_eq_true h, if_pos rfl, right_of, Option.bind_some]
  by_cases h2 : Rg s b = true
  ·rw [if_pos h2, if_pos ⟨h, h2⟩]
  ·rw [if_neg h2, if_neg (fun h3 => h2 h3.2)]
 ·rw [decide_eq_false h, if_neg (by decide), if_neg (fun h3 => h h3.1)]
def Ck (s b n : Int) (l : List S44) : Int := if Fr s b n = 0 then (if (l.length : Int) = Ct s b then (if anyOff n l 0 = true then 5 else 0) else 5) else 2
theorem check_of (s b n : Int) (l : List S44) : sig_Check.f s b n l = some (Ck s b n l) := by
 unfold sig_Check.f Ck
 rw [front_of, Option.bind_some]
 by_cases h : Fr s b n = 0
 ·rw [if_pos h, if_pos h, count_of, Option.bind_some]
  by_cases h2 : (l.length : Int) = Ct s b
  ·rw [if_pos h2, if_pos h2, if_pos (by have := (ct_bounds (fr_ok h).2).2.2.2; omega)]
   by_cases h3 : anyOff n l 0 = true
   ·rw [if_pos h3, if_pos h3]
   ·rw [if_neg h3, if_neg h3]
  ·rw [if_neg h2, if_neg h2]
 ·rw [if_neg h, if_neg h, fr_two h]
theorem ck_ok {s b n : Int} {l : List S44} (h : Ck s b n l = 0) : Fr s b n = 0 ∧ (l.length : Int) = Ct s b ∧ anyOff n l 0 = false := by
 unfold Ck at h
 by_cases h1 : Fr s b n = 0
 ·rw [if_pos h1] at h
  by_cases h2 : (l.length : Int) = Ct s b
  ·rw [if_pos h2] at h
   by_cases h3 : anyOff n l 0 = true
   ·rw [if_pos h3] at h; omega
   ·exact ⟨h1, h2, by simpa using h3⟩
  ·rw [if_neg h2] at h; omega
 ·rw [if_neg h1] at h; omega
theorem ck_mk {s b n : Int} {l : List S44} (h1 : Fr s b n = 0) (h2 : (l.length : Int) = Ct s b) (h3 : ∀ m ∈ l, (m.f1.size : Int) = n) : Ck s b n l = 0 := by
 unfold Ck
 rw [if_pos h1, if_pos h2, if_neg]
 unfold anyOff
 rw [List.drop_zero, Bool.not_eq_true, List.any_eq_false]
 intro m hm
 have := h3 m hm
 simp [this]
theorem any_not {n : Int} {l : List S44} (h : anyOff n l 0 = false) : ∀ m ∈ l, (m.f1.size : Int) = n := by
 intro m hm
 unfold anyOff at h
 rw [List.drop_zero, List.any_eq_false] at h
 have := h m hm
 simpa using this
def hd3 (s b n : Int) : List Int := nb (cl s) ++ nb (cl b) ++ nb (cl n)
theorem hd3_b (s b n : Int) : Bytes (hd3 s b n) := bytes_app (bytes_app (nb_b _) (nb_b _)) (nb_b _)
theorem hd3_len (s b n : Int) : (hd3 s b n).length ≤ 27 := by
 unfold hd3
 rw [List.length_append, List.length_append]
 have h1 := nb_nine (cl_le s)
 have h2 := nb_nine (cl_le b)
 have h3 := nb_nine (cl_le n)
 omega
theorem numbers_of (s b n : Int) : Ev (fun k => sig_numbers.f k [s, b, n]) (hd3 s b n) := by
 have h1 := nb_nine (cl_le s)
 have h2 := nb_nine (cl_le b)
 have h3 := nb_nine (cl_le n)
 unfold sig_numbers.f hd3
 show Ev (fun k => sig_numbers.l0 k [] [s, b, n] 3 0) _
 have r0 : rd [s, b, n] 0 = s := rfl
 have r1 : rd [s, b, n] 1 = b := rfl
 have r2 : rd [s, b, n] 2 = n := rfl
 have e1 : wrap64 (0 + 1) = 1 := w64 _ (by decide) (by decide)
 have e2 : wrap64 (1 + 1) = 2 := w64 _ (by decide) (by decide)
 have e3 : wrap64 (2 + 1) = 3 := w64 _ (by decide) (by decide)
 refine Ev.step (f := fun k => (num_Put.f k [] s).bind fun t => sig_numbers.l0 k t [s, b, n] 3 1) (fun k => ?_) ?_
 ·simp only [sig_numbers.l0]
  rw [if_pos (show (0 : Int) < 3 by decide), if_pos (show (0 : Int) ≤ 0 by decide), if_pos (show (0 : Int) < (([s, b, n] : List Int).length : Int) by simp), r0, e1]
 refine Ev.bind (put_of [] s (by simp)) ?_
 rw [List.nil_append]
 refine Ev.step (f := fun k => (num_Put.f k (nb (cl s)) b).bind fun t => sig_numbers.l0 k t [s, b, n] 3 2) (fun k => ?_) ?_
 ·simp only [sig_numbers.l0]
  rw [if_pos (show (1 : Int) < 3 by decide), if_pos (show (0 : Int) ≤ 1 by decide), if_pos (show (1 : Int) < (([s, b, n] : List Int).length : Int) by simp), r1, e2]
 refine Ev.bind (put_of _ b (by omega)) ?_
 refine Ev.step (f := fun k => (num_Put.f k (nb (cl s) ++ nb (cl b)) n).bind fun t => sig_numbers.l0 k t [s, b, n] 3 3) (fun k => ?_) ?_
 ·simp only [sig_numbers.l0]
  rw [if_pos (show (2 : Int) < 3 by decide), if_pos (show (0 : Int) ≤ 2 by decide), if_pos (show (2 : Int) < (([s, b, n] : List Int).length : Int) by simp), r2, e3]
 refine Ev.bind (put_of _ n (by rw [List.length_append]; omega)) ?_
 refine Ev.step (f := fun _ => some (nb (cl s) ++ nb (cl b) ++ nb (cl n))) (fun k => ?_) (Ev.now _)
 simp only [sig_numbers.l0]
 rw [if_neg (by decide)]
def w4 (x : Int) : List Int := [x % 256, (x / 256) % 256, (x / 65536) % 256, (x / 16777216) % 256]
theorem w4_b (x : Int) : Bytes (w4 x) := by
 intro y hy
 simp only [w4, List.mem_cons, List.not_mem_nil, or_false] at hy
 omega
def mB (m : S44) : List Int := w4 m.f0 ++ bytesOf m.f1
def mBs : List S44 → List Int
 | [] => []
 | m :: l => mB m ++ mBs l
theorem mB_b (m : S44) : Bytes (mB m) := bytes_app (w4_b _) (str_all _)
theorem mB_len (m : S44) : (mB m).length = 4 + m.f1.size := by
 unfold mB
 rw [List.length_append, bytesOf_length]
 rfl
theorem k8 : wrap64 (8 * 0) = 0 ∧ wrap64 (8 * 1) = 8 ∧ wrap64 (8 * 2) = 16 ∧ wrap64 (8 * 3) = 24 ∧ wrap64 (0 + 1) = 1 ∧ wrap64 (1 + 1) = 2 ∧ wrap64 (2 + 1) = 3 ∧ wrap64 (3 + 1) = 4 := ⟨w64 _ (by decide) (by decide), w64 _ (by decide) (by decide), w64 _ (by decide) (by decide), w64 _ (by decide) (by decide), w64 _ (by decide) (by decide), w64 _ (by decide) (by decide), w64 _ (by decide) (by decide), w64 _ (by decide) (by decide)⟩
theorem shr_at (x : Int) : (shr .u32 x 0) % 256 = x % 256 ∧ (shr .u32 x 8) % 256 = (x / 256) % 256 ∧ (shr .u32 x 16) % 256 = (x / 65536) % 256 ∧ (shr .u32 x 24) % 256 = (x / 16777216) % 256 := by
 refine ⟨?_, rfl, rfl, rfl⟩
 show (x / 2 ^ 0) % 256 = _
 rw [show (2 : Int) ^ 0 = 1 from rfl, Int.ediv_one]
theorem weak_bytes (x : List Int) (l : List S44) (c i w : Int) (st : ByteArray) (r : List Int × Int) (hx : x.length ≤ 1000000000) (hs : st.size ≤ 1000000000) (h : Ev (fun k => sig_Bytes.l0 k (x ++ (w4 w ++ bytesOf st)) l c (wrap64 (i + 1))) r) :
    Ev (fun k => sig_Bytes.l1 k x l c i 0 w st) r := by
 obtain ⟨e0, e1, e2, e3⟩ := shr_at w
 obtain ⟨q0, q1, q2, q3, p1, p2, p3, p4⟩ := k8
 refine Ev.step (f := fun k => sig_Bytes.l1 k (x ++ [w % 256]) l c i 1 w st) (fun k => ?_) ?_
 ·simp only [sig_Bytes.l1]
  rw [if_pos (show (0 : Int) < 4 by decide), q0, if_pos (show (0 : Int) ≤ 0 by decide), if_pos (by omega), e0, p1]
 refine Ev.step (f := fun k => sig_Bytes.l1 k (x ++ [w % 256] ++ [(w / 256) % 256]) l c i 2 w st) (fun k => ?_) ?_
 ·simp only [sig_Bytes.l1]
  rw [if_pos (show (1 : Int) < 4 by decide), q1, if_pos (show (0 : Int) ≤ 8 by decide), if_pos (by rw [List.length_append]; simp only [List.length_cons, List.length_nil]; omega), e1, p2]
 refine Ev.step (f := fun k => sig_Bytes.l1 k (x ++ [w % 256] ++ [(w / 256) % 256] ++ [(w / 65536) % 256]) l c i 3 w st) (fun k => ?_) ?_
 ·simp only [sig_Bytes.l1]
  rw [if_pos (show (2 : Int) < 4 by decide), q2, if_pos (show (0 : Int) ≤ 16 by decide), if_pos (by simp only [List.length_append, List.length_cons, List.length_nil]; omega), e2, p3]
 refine Ev.step (f := fun k => sig_Bytes.l1 k (x ++ [w % 256] ++ [(w / 256) % 256] ++ [(w / 65536) % 256] ++ [(w / 16777216) % 256]) l c i 4 w st) (fun k => ?_) ?_
 ·simp only [sig_Bytes.l1]
  rw [if_pos (show (3 : Int) < 4 by decide), q3, if_pos (show (0 : Int) ≤ 24 by decide), if_pos (by simp only [List.length_append, List.length_cons, List.length_nil]; omega), e3, p4]
 refine Ev.step (f := fun k => sig_Bytes.l0 k (x ++ (w4 w ++ bytesOf st)) l c (wrap64 (i + 1))) (fun k => ?_) h
 simp only [sig_Bytes.l1]
 rw [if_neg (by decide), if_pos (by simp only [List.length_append, List.length_cons, List.length_nil]; omega)]
 simp only [w4, List.append_assoc, List.cons_append, List.nil_append]
theorem bytes_loop (l : List S44) (hn : l.length ≤ 10000) (hs : ∀ m ∈ l, m.f1.size ≤ 1000) (d : Nat) : ∀ (i : Nat) (x : List Int), i + d = l.length → Bytes x → x.length ≤ 100 + 1004 * i →
    Ev (fun k => sig_Bytes.l0 k x l (l.length : Int) (i : Int)) (x ++ mBs (l.drop i) ++ sb (cs (x ++ mBs (l.drop i))), 0) := by
 induction d with
 | zero =>
  intro i x hi hx hl
  refine Ev.step (f := fun _ => (crc_Seal.f x).bind fun t => some (t, 0)) (fun k => ?_) ?_
  ·simp only [sig_Bytes.l0]
   rw [if_neg (by omega)]
  ·rw [List.drop_eq_nil_of_le (show l.length ≤ i by omega)]
   unfold mBs
   rw [List.append_nil, seal_of x hx (by omega)]
   exact ev_some rfl
 | succ d ih =>
  intro i x hi hx hl
  have hlt : i < l.length := by omega
  have hm : rd_T44 l (i : Int) ∈ l := by rw [rd44 hlt]; exact List.getElem_mem hlt
  have h4 := hs _ hm
  rw [step44 hlt]
  generalize ho : rd_T44 l (i : Int) = o at h4 hm ⊢
  have hnext := ih (i + 1) (x ++ mB o) (by omega) (bytes_app hx (mB_b o)) (by rw [List.length_append, mB_len]; omega)
  rw [show x ++ mB o ++ mBs (l.drop (i + 1)) = x ++ mBs (o :: l.drop (i + 1)) by rw [List.append_assoc]; rfl] at hnext
  refine Ev.step (f := fun k => sig_Bytes.l1 k x l (l.length : Int) (i : Int) 0 o.f0 o.f1) (fun k => ?_) ?_
  ·simp only [sig_Bytes.l0]
   rw [ho, if_pos (by omega), if_pos (by omega), if_pos (by omega)]
  ·refine weak_bytes x l _ _ _ _ _ (by omega) (by omega) ?_
   rw [inc6 hlt (by omega)]
   exact hnext
def bytesF (s b n : Int) (l : List S44) : List Int × Int := if Ck s b n l = 0 then (hd3 s b n ++ mBs l ++ sb (cs (hd3 s b n ++ mBs l)), 0) else ([], Ck s b n l)
theorem ck_small {s b n : Int} {l : List S44} (h : Ck s b n l = 0) : l.length ≤ 10000 ∧ ∀ m ∈ l, m.f1.size ≤ 1000 := by
 obtain ⟨h1, h2, h3⟩ := ck_ok h
 have := (ct_bounds (fr_ok h1).2).2.2.2
 refine ⟨by omega, fun m hm => ?_⟩
 have h4 := any_not h3 m hm
 have h5 := (fr_ok h1).1
 omega
theorem bytes_of (s b n : Int) (l : List S44) : Ev (fun k => sig_Bytes.f k s b n l) (bytesF s b n l) := by
 unfold sig_Bytes.f bytesF
 refine Ev.bind (ev_some (check_of s b n l)) ?_
 by_cases h : Ck s b n l = 0
 ·rw [if_pos h]
  refine ev_pos h (Ev.bind (numbers_of s b n) ?_)
  obtain ⟨h1, h2⟩ := ck_small h
  have := bytes_loop l h1 h2 l.length 0 (hd3 s b n) (by omega) (hd3_b _ _ _) (by have := hd3_len s b n; omega)
  rwa [List.drop_zero] at this
 ·rw [if_neg h]
  exact ev_neg h (Ev.now _)
def rin (x c : Int) : Int := ((roll_In.f x 0 c).getD 0)
theorem rin_of (x c : Int) : roll_In.f x 0 c = some (rin x c) := rfl
def rollF (l : List Int) : Int := l.foldl rin 0
theorem roll_loop (l : List Int) (hn : l.length ≤ 4000000000000) (d : Nat) : ∀ (i : Nat) (x : Int), i + d = l.length → Ev (fun k => roll_Of.l0 k x l (l.length : Int) (i : Int)) ((l.drop i).foldl rin x) := by
 induction d with
 | zero =>
  intro i x hi
  refine Ev.step (f := fun _ => some x) (fun k => ?_) ?_
  ·simp only [roll_Of.l0]
   rw [if_neg (by omega)]
  ·rw [List.drop_eq_nil_of_le (show l.length ≤ i by omega)]
   exact Ev.now _
 | succ d ih =>
  intro i x hi
  have hlt : i < l.length := by omega
  refine Ev.step (f := fun k => roll_Of.l0 k (rin x (rd l (i : Int))) l (l.length : Int) ((i + 1 : Nat) : Int)) (fun k => ?_) ?_
  ·simp only [roll_Of.l0]
   rw [if_pos (by omega), if_pos (by omega), if_pos (by omega), rin_of, Option.bind_some, inc6 hlt hn]
  ·rw [List.drop_eq_getElem_cons hlt, List.foldl_cons]
   have e : rd l (i : Int) = l[i] := by unfold rd; rw [Int.toNat_natCast, List.getD_eq_getElem?_getD, List.getElem?_eq_getElem hlt]; rfl
   rw [e]
   exact ih (i + 1) _ (by omega)
theorem roll_of (l : List Int) (hn : l.length ≤ 4000000000000) : Ev (fun k => roll_Of.f k l) (rollF l) := roll_loop l hn l.length 0 0 (by omega)
def markF (l : List Int) (n : Int) : S44 := ⟨rollF l, (strOfNums (shaSum l)).extract 0 n.toNat⟩
theorem sum_size (l : List Int) : (strOfNums (shaSum l)).size = 32 := by rw [strOfNums_size, shaSum_len]
theorem mark_size (l : List Int) (n : Int) (h0 : 0 ≤ n) (h1 : n ≤ 32) : ((markF l n).f1.size : Int) = n := by
 unfold markF
 rw [ByteArray.size_extract, sum_size]
 omega
theorem cut_of (l : List Int) (hn : l.length ≤ 1000000000) (n : Int) (h0 : 0 ≤ n) (h1 : n ≤ 32) : sha_Cut.f l n = some ((markF l n).f1, 0) := by
 unfold sha_Cut.f sha_Sum.f
 rw [if_neg (by omega), if_neg (by omega), if_pos (by omega), Option.bind_some, if_pos h0, if_pos (by rw [sum_size]; exact h1)]
 rfl
theorem mark_of (l : List Int) (hn : l.length ≤ 1000000000) (n : Int) (h0 : 0 ≤ n) (h1 : n ≤ 32) : Ev (fun k => sig_mark.f k l n) ((markF l n).f0, (markF l n).f1) := by
 unfold sig_mark.f
 refine Ev.bind (ev_some (cut_of l hn n h0 h1)) (Ev.bind (roll_of l (by omega)) (Ev.now _))
def marksF (l : List Int) (B n : Int) (m : Nat) : List S44 := (List.range m).map fun i => markF (cutRow l B i) n
theorem marks_len (l : List Int) (B n : Int) (m : Nat) : (marksF l B n m).length = m := by unfold marksF; rw [List.length_map, List.length_range]
theorem row_len (l : List Int) (B : Int) (i : Nat) : (cutRow l B i).length ≤ l.length := by
 unfold cutRow
 rw [List.length_drop, List.length_take]
 omega
theorem marks_of (l : List Int) (hn : l.length ≤ 1000000000) (B n : Int) (h0 : 0 ≤ n) (h1 : n ≤ 32) : ∀ m : Nat, Ev (fun k => sigMs k l B n m) (marksF l B n m)
 | 0 => Ev.now _
 | m + 1 => by
  refine Ev.bind (marks_of l hn B n h0 h1 m) (Ev.bind (mark_of _ (Nat.le_trans (row_len l B m) hn) n h0 h1) ?_)
  refine ev_some ?_
  unfold marksF
  rw [List.range_succ, List.map_append]
  rfl
def OfB (l : List Int) (b : Int) : Int := if b = 0 then Ln (l.length : Int) else b
def OfOk (b n : Int) : Prop := (1 ≤ n ∧ n ≤ 32) ∧ (b = 0 ∨ (16 ≤ b ∧ b ≤ 4096))
theorem ln_in (s : Int) : 16 ≤ Ln s ∧ Ln s ≤ 4096 := by
 unfold Ln
 repeat' split
 all_goals omega
theorem ofB_in (l : List Int) {b n : Int} (h : OfOk b n) : 16 ≤ OfB l b ∧ OfB l b ≤ 4096 := by
 unfold OfB
 split
 ·exact ln_in _
 ·next h0 => exact h.2.resolve_left h0
theorem of_ok (l : List Int) (hn : l.length ≤ 131072) (b n : Int) (h : OfOk b n) : Ev (fun k => sig_Of.f k l b n) ((l.length : Int), OfB l b, n, marksF l (OfB l b) n (cutNum l (OfB l b)), 0) := by
 unfold sig_Of.f
 refine ev_pos (show (1 ≤ n ∧ n ≤ 32) ∧ (b = 0 ∨ (16 ≤ b ∧ b ≤ 4096)) from h) (ev_pos hn ?_)
 refine Ev.bind (a := OfB l b) ?_ (ev_pos (ofB_in l h) (Ev.bind (marks_of l (by omega) _ n (by have := h.1; omega) h.1.2 _) (Ev.now _)))
 unfold OfB
 by_cases h0 : b = 0
 ·rw [if_pos h0]
  refine ev_pos h0 ⟨9, fun k hk => ?_⟩
  obtain ⟨m, rfl⟩ : ∃ m, k = m + 9 := ⟨k - 9, by omega⟩
  exact length_of _ m
 ·rw [if_neg h0]
  exact ev_neg h0 (Ev.now _)
theorem cutNum_ct {l : List Int} (hl : l.length ≤ 131072) {b : Int} (h0 : 16 ≤ b) (h1 : b ≤ 4096) : ((cutNum l b : Nat) : Int) = Ct (l.length : Int) b := by
 have := (cut_facts h0 h1 hl).1
 rw [count_of] at this
 exact (Option.some.inj this).symm
theorem marks_ck (l : List Int) (hl : l.length ≤ 131072) (b n : Int) (h : OfOk b n) : Ck (l.length : Int) (OfB l b) n (marksF l (OfB l b) n (cutNum l (OfB l b))) = 0 := by
 obtain ⟨h0, h1⟩ := ofB_in l h
 refine ck_mk (fr_mk ⟨h.1, rg_mk ⟨by omega, by omega, h0, h1⟩⟩) ?_ ?_
 ·rw [marks_len]
  exact cutNum_ct hl h0 h1
 ·intro m hm
  obtain ⟨i, _, rfl⟩ := List.mem_map.1 hm
  exact mark_size _ n (by have := h.1; omega) h.1.2
theorem mBs_len (n : Nat) : ∀ l : List S44, (∀ m ∈ l, (m.f1.size : Int) = n) → (mBs l).length = l.length * (4 + n)
 | [], _ => by simp [mBs]
 | m :: l, h => by
  have h1 := h m List.mem_cons_self
  have h2 := mBs_len n l (fun m' hm => h m' (List.mem_cons_of_mem _ hm))
  unfold mBs
  rw [List.length_append, mB_len, h2, List.length_cons, Nat.add_mul, Nat.one_mul]
  omega
theorem awake6 : Ev (fun k => remoralaw06_awake.f k) true := by
 have o1 : OfOk 16 2 := by unfold OfOk; omega
 have o2 : OfOk 0 1 := by unfold OfOk; omega
 have h1 := of_ok (List.replicate 40 0) (by decide) 16 2 o1
 have h2 := of_ok [] (by decide) 0 1 o2
 have hc := marks_ck (List.replicate 40 0) (by decide) 16 2 o1
 have hl := marks_len (List.replicate 40 0) (OfB (List.replicate 40 0) 16) 2 (cutNum (List.replicate 40 0) (OfB (List.replicate 40 0) 16))
 have hb := bytes_of ((List.replicate 40 (0 : Int)).length : Int) (OfB (List.replicate 40 0) 16) 2 (marksF (List.replicate 40 0) (OfB (List.replicate 40 0) 16) 2 (cutNum (List.replicate 40 0) (OfB (List.replicate 40 0) 16)))
 have hz := mBs_len 2 (marksF (List.replicate 40 0) (OfB (List.replicate 40 0) 16) 2 (cutNum (List.replicate 40 0) (OfB (List.replicate 40 0) 16))) (any_not (ck_ok hc).2.2)
 have n1 : cutNum (List.replicate 40 0) (OfB (List.replicate 40 0) 16) = 3 := by decide
 have hm0 := marks_len [] (OfB [] 0) 1 (cutNum [] (OfB [] 0))
 have n2 : cutNum [] (OfB [] 0) = 0 := by decide
 unfold remoralaw06_awake.f
 refine ev_pos (by decide) (Ev.bind h1 ?_)
 refine Ev.bind hb (Ev.bind h2 ?_)
 unfold bytesF
 rw [if_pos hc]
 refine ev_pos rfl (ev_pos rfl (ev_pos rfl (ev_pos ?_ (ev_pos ?_ (ev_pos ?_ ?_)))))
 ·show ((marksF _ _ _ _).length : Int) = 3
  rw [hl, n1]
  rfl
 ·show ((hd3 _ _ _ ++ _ ++ sb _).length : Int) = 25
  have e3 : (hd3 ((List.replicate 40 (0 : Int)).length : Int) (OfB (List.replicate 40 0) 16) 2).length = 3 := by
   rw [show ((List.replicate 40 (0 : Int)).length : Int) = 40 from rfl, show OfB (List.replicate 40 0) 16 = 16 from rfl]
   unfold hd3
   rw [nb_small (show cl 40 < 128 by decide), nb_small (show cl 16 < 128 by decide), nb_small (show cl 2 < 128 by decide)]
   rfl
  rw [List.length_append, List.length_append, e3, hz, hl, n1]
  rfl
 ·show ((marksF _ _ _ _).length : Int) = 0
  rw [hm0, n2]
  rfl
 ·exact ev_some rfl
theorem refright_of (s b : Int) : remoraref05_Right.f s b = some (Rg s b) := by
 rw [← right_of]; rfl
theorem refcount_loop (s b : Int) (hr : Rg s b = true) (d : Nat) : ∀ (k : Nat) (c : Int), 0 ≤ c → Ct s b - c = d → d < k → remoraref05_Count.l0 k s b c (c * b) = some (Ct s b) := by
 obtain ⟨h1, h2, h3, h4⟩ := rg_true hr
 obtain ⟨b1, b2, b3, b4⟩ := ct_bounds hr
 induction d with
 | zero =>
  intro k c h0 hd hk
  obtain ⟨k, rfl⟩ : ∃ m, k = m + 1 := ⟨k - 1, by omega⟩
  obtain rfl : c = Ct s b := by omega
  simp only [remoraref05_Count.l0]; rw [if_neg (by omega)]
 | succ d ih =>
  intro k c h0 hd hk
  obtain ⟨k, rfl⟩ : ∃ m, k = m + 1 := ⟨k - 1, by omega⟩
  have hm : (c + 1) * b ≤ Ct s b * b := Int.mul_le_mul_of_nonneg_right (by omega) (by omega)
  have e : c * b + b = (c + 1) * b := by rw [Int.add_mul, Int.one_mul]
  have hp : 0 ≤ c * b := Int.mul_nonneg h0 (by omega)
  simp only [remoraref05_Count.l0]
  rw [if_pos (by omega), w64 (c + 1) (by omega) (by omega), e, w64 ((c + 1) * b) (by omega) (by omega)]
  exact ih k (c + 1) (by omega) (by omega) (by omega)
theorem refcount_of (s b : Int) (m : Nat) : remoraref05_Count.f (m + 8193) s b = some (Ct s b) := by
 unfold remoraref05_Count.f
 rw [refright_of]; simp only [Option.bind_some]
 by_cases hr : Rg s b = true
 ·rw [if_pos hr]
  obtain ⟨b1, b2, b3, b4⟩ := ct_bounds hr
  have h := refcount_loop s b hr (Ct s b).toNat (m + 8193) 0 (by omega) (by omega) (by omega)
  rw [Int.zero_mul] at h
  exact h
 ·rw [if_neg hr]; unfold Ct; rw [if_neg hr]
theorem shift_loop (d : Nat) : ∀ (i x : Nat), i + d = 8 → x < 4294967296 → Ev (fun k => remoraref02_Shift.l0 k (x : Int) 8 (i : Int)) ((stN d x : Nat) : Int) := by
 induction d with
 | zero =>
  intro i x hi hx
  refine Ev.step (f := fun _ => some (x : Int)) (fun k => ?_) (Ev.now _)
  simp only [remoraref02_Shift.l0]
  rw [if_neg (by omega)]
 | succ d ih =>
  intro i x hi hx
  have e1 : wrap64 ((i : Int) + 1) = ((i + 1 : Nat) : Int) := by unfold wrap64; omega
  have e2 : (Int.tdiv (x : Int) 2) % (4294967296 : Int) = ((x >>> 1 : Nat) : Int) := by
   rw [Int.tdiv_eq_ediv_of_nonneg (by omega), Nat.shiftRight_eq_div_pow]
   omega
  have h1 : x >>> 1 < 4294967296 := by rw [Nat.shiftRight_eq_div_pow]; omega
  refine Ev.step (f := fun k => remoraref02_Shift.l0 k ((st1 x : Nat) : Int) 8 ((i + 1 : Nat) : Int)) (fun k => ?_) (ih (i + 1) (st1 x) (by omega) (st1_lt hx))
  simp only [remoraref02_Shift.l0]
  rw [if_pos (by omega), e1, e2, Int.tmod_eq_emod_of_nonneg (by omega)]
  unfold st1
  by_cases h : x % 2 = 1
  ·rw [if_pos (by omega), if_pos h, show (3988292384 : Int) = ((3988292384 : Nat) : Int) from rfl, xor_nat h1 (by decide)]
  ·rw [if_neg (by omega), if_neg h, Nat.xor_zero]
theorem shift_of {x : Nat} (hx : x < 4294967296) : Ev (fun k => remoraref02_Shift.f k (x : Int) 8) ((stN 8 x : Nat) : Int) := shift_loop 8 0 x rfl hx
theorem rof_inner (l : List Int) (hl : Bytes l) (hn : l.length ≤ 9000000000000000000) (d : Nat) : ∀ (i x : Nat), i + d = l.length → x < 4294967296 →
    Ev (fun k => remoraref02_Of.l1 k [l] (x : Int) 0 (i : Int)) ((4294967295 - cr x (l.drop i) : Nat) : Int) := by
 have hrow : rd_L1 [l] 0 = l := rfl
 induction d with
 | zero =>
  intro i x hi hx
  have e1 : wrap64 (0 + 1) = 1 := by unfold wrap64; decide
  refine Ev.step (f := fun k => remoraref02_Of.l0 k [l] (x : Int) 1) (fun k => ?_) ?_
  ·simp only [remoraref02_Of.l1]
   rw [hrow, if_pos (by decide), if_pos (by simp), if_neg (by omega), e1]
  ·rw [List.drop_eq_nil_of_le (by omega)]
   refine Ev.step (f := fun _ => some (((4294967295 - x : Nat) : Nat) : Int)) (fun k => ?_) (Ev.now _)
   simp only [remoraref02_Of.l0]
   rw [if_neg (by simp)]
   congr 1
   omega
 | succ d ih =>
  intro i x hi hx
  have hlt : i < l.length := by omega
  have e1 : wrap64 ((i : Int) + 1) = ((i + 1 : Nat) : Int) := by unfold wrap64; omega
  have hc := hl _ (List.getElem_mem hlt)
  have hrd : rd l (i : Int) = l[i] := by unfold rd; rw [Int.toNat_natCast, List.getD_eq_getElem?_getD, List.getElem?_eq_getElem hlt, Option.getD_some]
  have hx2 : x ^^^ l[i].toNat < 4294967296 := Nat.xor_lt_two_pow (n := 32) hx (by omega)
  refine Ev.step (f := fun k => (remoraref02_Shift.f k ((x ^^^ l[i].toNat : Nat) : Int) 8).bind fun t => remoraref02_Of.l1 k [l] t 0 ((i + 1 : Nat) : Int)) (fun k => ?_) ?_
  ·simp only [remoraref02_Of.l1]
   rw [hrow, if_pos (by decide), if_pos (by simp), if_pos (by omega), if_pos (by omega), e1, hrd]
   have e3 : l[i] % 4294967296 = ((l[i].toNat : Nat) : Int) := by omega
   rw [e3, xor_nat hx (by omega)]
  ·refine Ev.bind (shift_of hx2) ?_
   have := ih (i + 1) (cb x l[i].toNat) (by omega) (cb_lt hx (by omega))
   rw [List.drop_eq_getElem_cons hlt]
   exact this
theorem rof_one (l : List Int) (hl : Bytes l) (hn : l.length ≤ 9000000000000000000) : Ev (fun k => remoraref02_Of.f k [l]) ((cs l : Nat) : Int) := by
 unfold remoraref02_Of.f
 refine Ev.step (f := fun k => remoraref02_Of.l1 k [l] ((4294967295 : Nat) : Int) 0 ((0 : Nat) : Int)) (fun k => ?_) ?_
 ·simp only [remoraref02_Of.l0]
  rw [if_pos (by simp)]
  rfl
 ·exact rof_inner l hl hn l.length 0 4294967295 (by omega) (by decide)
theorem rseal_of (l : List Int) (hl : Bytes l) (hn : l.length ≤ 1000000000) : Ev (fun k => remoraref02_Seal.f k l) (l ++ sb (cs l)) := by
 unfold remoraref02_Seal.f
 refine Ev.bind (rof_one l hl (by omega)) ?_
 simp only [Option.bind_some, List.length_nil, Nat.zero_add, List.nil_append]
 refine ev_pos (by omega) ?_
 have h := cs_lt l
 unfold sb
 generalize cs l = n at h ⊢
 have q : ∀ m : Nat, m < 4294967296 → (Int.tdiv (m : Int) 256) % (4294967296 : Int) = ((m / 256 : Nat) : Int) ∧ (Int.tmod (m : Int) 256) % 256 = ((m % 256 : Nat) : Int) := fun m hm => by
  rw [Int.tdiv_eq_ediv_of_nonneg (by omega), Int.tmod_eq_emod_of_nonneg (by omega)]
  omega
 have w0 : wrap64 (0 + 1) = 1 := by unfold wrap64; decide
 have w1 : wrap64 (1 + 1) = 2 := by unfold wrap64; decide
 have w2 : wrap64 (2 + 1) = 3 := by unfold wrap64; decide
 have w3 : wrap64 (3 + 1) = 4 := by unfold wrap64; decide
 refine Ev.step (f := fun k => remoraref02_Seal.l0 k ((n / 256 : Nat) : Int) (l ++ [((n % 256 : Nat) : Int)]) 1) (fun k => ?_) ?_
 ·simp only [remoraref02_Seal.l0]
  rw [if_pos (by decide), if_pos (by omega), (q n h).1, (q n h).2, w0]
 refine Ev.step (f := fun k => remoraref02_Seal.l0 k ((n / 256 / 256 : Nat) : Int) (l ++ [((n % 256 : Nat) : Int)] ++ [((n / 256 % 256 : Nat) : Int)]) 2) (fun k => ?_) ?_
 ·simp only [remoraref02_Seal.l0]
  rw [if_pos (by decide), if_pos (by simp; omega), (q (n / 256) (by omega)).1, (q (n / 256) (by omega)).2, w1]
 refine Ev.step (f := fun k => remoraref02_Seal.l0 k ((n / 256 / 256 / 256 : Nat) : Int) (l ++ [((n % 256 : Nat) : Int)] ++ [((n / 256 % 256 : Nat) : Int)] ++ [((n / 256 / 256 % 256 : Nat) : Int)]) 3) (fun k => ?_) ?_
 ·simp only [remoraref02_Seal.l0]
  rw [if_pos (by decide), if_pos (by simp; omega), (q (n / 256 / 256) (by omega)).1, (q (n / 256 / 256) (by omega)).2, w2]
 refine Ev.step (f := fun k => remoraref02_Seal.l0 k ((n / 256 / 256 / 256 / 256 : Nat) : Int) (l ++ [((n % 256 : Nat) : Int)] ++ [((n / 256 % 256 : Nat) : Int)] ++ [((n / 256 / 256 % 256 : Nat) : Int)] ++ [((n / 256 / 256 / 256 % 256 : Nat) : Int)]) 4) (fun k => ?_) ?_
 ·simp only [remoraref02_Seal.l0]
  rw [if_pos (by decide), if_pos (by simp; omega), (q (n / 256 / 256 / 256) (by omega)).1, (q (n / 256 / 256 / 256) (by omega)).2, w3]
 refine Ev.step (f := fun _ => some (l ++ [((n % 256 : Nat) : Int)] ++ [((n / 256 % 256 : Nat) : Int)] ++ [((n / 256 / 256 % 256 : Nat) : Int)] ++ [((n / 256 / 256 / 256 % 256 : Nat) : Int)])) (fun k => ?_) ?_
 ·simp only [remoraref02_Seal.l0]
  rw [if_neg (by decide)]
 ·refine ev_some ?_
  rw [Nat.div_div_eq_div_mul, Nat.div_div_eq_div_mul, show n / (256 * 256 * 256) % 256 = n / 16777216 by omega]
  simp
theorem refcount_ev (s b : Int) : Ev (fun k => remoraref05_Count.f k s b) (Ct s b) := ⟨8193, fun k hk => by
 obtain ⟨m, rfl⟩ : ∃ m, k = m + 8193 := ⟨k - 8193, by omega⟩
 exact refcount_of s b m⟩
theorem head_of (s b n : Int) (l : List S44) : remoraref06_head.f s b n l = some (Fr s b n) := by
 unfold remoraref06_head.f Fr
 by_cases h : n < 1
 ·rw [if_pos h, if_neg (by omega)]
 ·rw [if_neg h]
  by_cases h1 : n > 32
  ·rw [if_pos h1, if_neg (by omega)]
  ·rw [if_neg h1, refright_of, Option.bind_some]
   by_cases h2 : Rg s b = true
   ·rw [if_pos h2, if_pos ⟨by omega, h2⟩]
   ·rw [if_neg h2, if_neg (fun h3 => h2 h3.2)]
theorem wf8 {n : Int} (h : (Lit.int .u8 n).wf = true) : 0 ≤ n ∧ n < 256 := by
 have e0 : IntKind.u8.min = 0 := by decide
 have e1 : IntKind.u8.max = 255 := by decide
 simp [Lit.wf, e0, e1] at h
 omega
theorem byte_wf {n : Int} (h : (Lit.int .u8 n).wf = true) : 0 ≤ n ∧ n ≤ 255 := by have := wf8 h; omega
set_option maxRecDepth 10000 in
theorem or_add (i : Nat) (x y : Int) (h0 : 0 ≤ x) (h1 : 0 ≤ y) (h2 : y < 2 ^ i) (h3 : x * 2 ^ i + y < 4294967296) : Go.bits .or .u32 (x * 2 ^ i) y = x * 2 ^ i + y := by
 obtain ⟨a, rfl⟩ := Int.eq_ofNat_of_zero_le h0
 obtain ⟨b, rfl⟩ := Int.eq_ofNat_of_zero_le h1
 have e1 : ((a : Int) * 2 ^ i) = ((a * 2 ^ i : Nat) : Int) := by simp
 rw [e1] at h3 ⊢
 have hb : b < 2 ^ i := by exact_mod_cast h2
 obtain ⟨c, hc⟩ : ∃ c, c = a * 2 ^ i := ⟨_, rfl⟩
 have hor : c ||| b = c + b := by
  rw [hc, ← Nat.shiftLeft_eq, Nat.shiftLeft_add_eq_or_of_lt hb]
 rw [← hc] at h3 ⊢
 have hs : c + b < 4294967296 := by omega
 unfold Go.bits
 simp only [IntKind.wrap_u32]
 have e2 : IntKind.u32.bits = 32 := rfl
 have ht : (BitVec.ofInt 32 (c : Int) ||| BitVec.ofInt 32 (b : Int)).toNat = c + b := by
  rw [BitVec.toNat_or, BitVec.ofInt_natCast, BitVec.ofInt_natCast, BitVec.toNat_ofNat, BitVec.toNat_ofNat, Nat.mod_eq_of_lt (by omega), Nat.mod_eq_of_lt (by omega), hor]
 rw [e2, ht]
 omega
theorem nw64 (n : Int) (h0 : -9223372036854775808 ≤ n) (h1 : n ≤ 9223372036854775807) : wrap64 n = n := by unfold wrap64; omega
def rl : Nat → List Int → Nat
 | 0, _ => 0
 | _ + 1, [] => 0
 | d + 1, c :: r => if c > 127 then rl d r + 1 else 0
def gv : List Int → Nat
 | [] => 0
 | c :: r => (c % 128).toNat + 128 * gv r
theorem gv_lt (l : List Int) : gv l < 128 ^ l.length := by
 induction l with
 | nil => decide
 | cons c r ih =>
  show (c % 128).toNat + 128 * gv r < 128 ^ (r.length + 1)
  rw [Nat.pow_succ]
  omega
theorem gv_snoc (l : List Int) (c : Int) : gv (l ++ [c]) = gv l + 128 ^ l.length * (c % 128).toNat := by
 induction l with
 | nil => simp [gv]
 | cons d r ih =>
  show (d % 128).toNat + 128 * gv (r ++ [c]) = (d % 128).toNat + 128 * gv r + 128 ^ (r.length + 1) * (c % 128).toNat
  rw [ih, Nat.pow_succ, Nat.mul_add, ← Nat.add_assoc, ← Nat.mul_assoc, Nat.mul_comm 128 (128 ^ r.length)]
theorem gv_app (a b : List Int) : gv (a ++ b) = gv a + 128 ^ a.length * gv b := by
 induction a with
 | nil => simp [gv]
 | cons d r ih =>
  show (d % 128).toNat + 128 * gv (r ++ b) = (d % 128).toNat + 128 * gv r + 128 ^ (r.length + 1) * gv b
  rw [ih, Nat.pow_succ, Nat.mul_add, ← Nat.add_assoc, ← Nat.mul_assoc, Nat.mul_comm 128 (128 ^ r.length)]
theorem rl_le (d : Nat) : ∀ r : List Int, rl d r ≤ d ∧ rl d r ≤ r.length := by
 induction d with
 | zero => intro r; exact ⟨Nat.le_refl _, Nat.zero_le _⟩
 | succ d ih =>
  intro r
  cases r with
  | nil => exact ⟨Nat.zero_le _, Nat.le_refl _⟩
  | cons c r =>
   have := ih r
   unfold rl
   split
   ·rw [List.length_cons]; omega
   ·exact ⟨Nat.zero_le _, Nat.zero_le _⟩
theorem rl_more (d : Nat) : ∀ (r : List Int) (j : Nat), j < rl d r → r.getD j 0 > 127 := by
 induction d with
 | zero => intro r j h; exact absurd h (Nat.not_lt_zero _)
 | succ d ih =>
  intro r j h
  cases r with
  | nil => exact absurd h (Nat.not_lt_zero _)
  | cons c r =>
   unfold rl at h
   by_cases hc : c > 127
   ·rw [if_pos hc] at h
    cases j with
    | zero => exact hc
    | succ j => exact ih r j (by omega)
   ·rw [if_neg hc] at h
    exact absurd h (Nat.not_lt_zero _)
theorem rl_end (d : Nat) : ∀ (r : List Int), rl d r < d → rl d r < r.length → r.getD (rl d r) 0 ≤ 127 := by
 induction d with
 | zero => intro r h; exact absurd h (Nat.not_lt_zero _)
 | succ d ih =>
  intro r h h2
  cases r with
  | nil => exact absurd h2 (Nat.not_lt_zero _)
  | cons c r =>
   unfold rl at h h2 ⊢
   by_cases hc : c > 127
   ·rw [if_pos hc] at h h2 ⊢
    rw [List.length_cons] at h2
    exact ih r (by omega) (by omega)
   ·rw [if_neg hc]
    show c ≤ 127
    omega
def getF (l : List Int) (a : Int) : Int × Int × Int :=
 if a < 0 ∨ a > (l.length : Int) then (0, 0, 3) else
 let r := l.drop a.toNat
 if rl 9 r = 9 then (0, 0, 5) else if rl 9 r = r.length then (0, 0, 4) else if r.getD (rl 9 r) 0 = 0 ∧ 0 < rl 9 r then (0, 0, 5) else
 if gv (r.take (rl 9 r + 1)) > 4611686018427387903 then (0, 0, 7) else (((gv (r.take (rl 9 r + 1)) : Nat) : Int), a + ((rl 9 r : Nat) : Int) + 1, 0)
theorem rd_drop (l : List Int) (a i : Nat) : rd l ((a : Int) + (i : Int)) = (l.drop a).getD i 0 := by
 unfold rd
 rw [show ((a : Int) + (i : Int)).toNat = a + i by omega, List.getD_eq_getElem?_getD, List.getD_eq_getElem?_getD, List.getElem?_drop]
theorem take_one (r : List Int) (i : Nat) (h : i < r.length) : r.take (i + 1) = r.take i ++ [r.getD i 0] := by
 rw [List.take_succ_eq_append_getElem h, List.getD_eq_getElem?_getD, List.getElem?_eq_getElem h]
 rfl
theorem wrap63 (n : Int) (h0 : 0 ≤ n) (h1 : n < 2 ^ 63) : IntKind.i64.wrap n = n := by rw [IntKind.wrap_i64]; omega
theorem and127 {c : Int} (h0 : 0 ≤ c) (h1 : c ≤ 255) : wrap64 (Go.bits .and .u8 c 127) = ((c % 128).toNat : Int) := by
 have := bits_mask .u8 8 (by decide) wraps_u8 7 (by decide) c h0 (by omega)
 rw [show (127 : Int) = 2 ^ 7 - 1 by decide, this]
 unfold wrap64
 omega
theorem group_in {acc i : Nat} {c : Int} (hi : i ≤ 8) (ha : acc < 128 ^ i) (h0 : 0 ≤ c) (h1 : c ≤ 255) :
    Go.bits .or .i64 (acc : Int) (shl .i64 (wrap64 (Go.bits .and .u8 c 127)) (wrap64 (7 * (i : Int)))) = ((acc + 128 ^ i * (c % 128).toNat : Nat) : Int) := by
 rw [and127 h0 h1]
 generalize hd : (c % 128).toNat = d
 have hd1 : d < 128 := by omega
 have hw : wrap64 (7 * (i : Int)) = ((7 * i : Nat) : Int) := by unfold wrap64; omega
 rw [hw]
 have hp : (128 : Nat) ^ i = 2 ^ (7 * i) := by rw [show (128 : Nat) = 2 ^ 7 by decide, ← Nat.pow_mul]
 have hp8 : (2 : Nat) ^ (7 * i) ≤ 2 ^ 56 := Nat.pow_le_pow_right (by decide) (by omega)
 have hs : shl .i64 (d : Int) ((7 * i : Nat) : Int) = ((2 ^ (7 * i) * d : Nat) : Int) := by
  unfold shl
  rw [Int.toNat_natCast, Nat.min_eq_left (show 7 * i ≤ IntKind.i64.bits by show 7 * i ≤ 64; omega)]
  have e : (d : Int) * 2 ^ (7 * i) = ((2 ^ (7 * i) * d : Nat) : Int) := by push_cast; rw [Int.mul_comm]
  rw [e]
  have hlt : 2 ^ (7 * i) * d < 2 ^ 63 := by
   have : 2 ^ (7 * i) * d ≤ 2 ^ 56 * 127 := Nat.mul_le_mul hp8 (by omega)
   omega
  exact wrap63 _ (by omega) (by exact_mod_cast hlt)
 have hlt : 2 ^ (7 * i) * d < 2 ^ 63 := by
  have : 2 ^ (7 * i) * d ≤ 2 ^ 56 * 127 := Nat.mul_le_mul hp8 (by omega)
  omega
 rw [hs, (bits_nat .i64 63 (by decide) wrap63 acc (2 ^ (7 * i) * d) (by omega) hlt).2, hp]
 congr 1
 rw [Nat.or_comm, ← Nat.two_pow_add_eq_or_of_lt (by omega) d]
 omega
theorem get_loop (l : List Int) (hb : ∀ x ∈ l, 0 ≤ x ∧ x ≤ 255) (hn : l.length ≤ 1000000000) (a : Nat) (ha : a ≤ l.length) (d : Nat) : ∀ i : Nat, i + d = rl 9 (l.drop a) →
    Ev (fun k => num_Get.l0 k l (a : Int) ((gv ((l.drop a).take i) : Nat) : Int) (i : Int)) (getF l (a : Int)) := by
 have hF : getF l (a : Int) = (let r := l.drop a
  if rl 9 r = 9 then ((0 : Int), (0 : Int), (5 : Int)) else if rl 9 r = r.length then (0, 0, 4) else if r.getD (rl 9 r) 0 = 0 ∧ 0 < rl 9 r then (0, 0, 5) else
  if gv (r.take (rl 9 r + 1)) > 4611686018427387903 then (0, 0, 7) else (((gv (r.take (rl 9 r + 1)) : Nat) : Int), (a : Int) + ((rl 9 r : Nat) : Int) + 1, 0)) := by
  unfold getF
  rw [if_neg (by omega), Int.toNat_natCast]
 have hm := rl_le 9 (l.drop a)
 have hlen : (l.drop a).length = l.length - a := List.length_drop
 have hbr : ∀ i, i < (l.drop a).length → 0 ≤ (l.drop a).getD i 0 ∧ (l.drop a).getD i 0 ≤ 255 := fun i hi => by
  rw [List.getD_eq_getElem?_getD, List.getElem?_eq_getElem hi]
  exact hb _ (List.drop_subset _ _ (List.getElem_mem hi))
 induction d with
 | zero =>
  intro i hi
  have hi' : i = rl 9 (l.drop a) := by omega
  have hie : ∀ h1 : rl 9 (l.drop a) < 9, ∀ h2 : rl 9 (l.drop a) < (l.drop a).length, (l.drop a).getD i 0 ≤ 127 := fun h1 h2 => by rw [hi']; exact rl_end 9 _ h1 h2
  rw [hF]
  simp only
  rw [← hi'] at hm hie ⊢
  clear hi' hF
  have HW := Aside0.mk (nw64 ((a : Int) + (i : Int)) (by omega) (by omega))
  by_cases h9 : i = 9
  ·rw [if_pos h9]
   refine Ev.step (f := fun _ => some (0, 0, 5)) (fun k => ?_) (Ev.now _)
   simp only [num_Get.l0]
   rw [if_neg (by omega)]
  ·rw [if_neg h9]
   by_cases he : i = (l.drop a).length
   ·rw [if_pos he]
    refine Ev.step (f := fun _ => some (0, 0, 4)) (fun k => ?_) (Ev.now _)
    simp only [num_Get.l0]
    rw [if_pos (by omega), HW.out, if_pos (by omega)]
   ·rw [if_neg he]
    have hlt : i < (l.drop a).length := by omega
    have hc := hbr i hlt
    have hc2 := hie (by omega) hlt
    have hgv := gv_lt ((l.drop a).take i)
    rw [List.length_take, Nat.min_eq_left (by omega)] at hgv
    have hg := group_in (by omega) hgv hc.1 hc.2
    have hsn : gv ((l.drop a).take i) + 128 ^ i * ((l.drop a).getD i 0 % 128).toNat = gv ((l.drop a).take (i + 1)) := by
     rw [take_one _ _ hlt, gv_snoc, List.length_take, Nat.min_eq_left (by omega)]
    rw [hsn] at hg
    have HG := Aside0.mk hg
    have H7 := Aside0.mk (nw64 (7 * (i : Int)) (by omega) (by omega))
    have HW2 := Aside0.mk (show wrap64 (wrap64 ((a : Int) + (i : Int)) + 1) = (a : Int) + (i : Int) + 1 by rw [HW.out]; exact nw64 _ (by omega) (by omega))
    have HSN := Aside0.mk hsn
    clear hg hsn hgv
    have step : ∀ (z : Bool) (res : Int × Int × Int), (z = true ↔ ((l.drop a).getD i 0 = 0 ∧ 0 < i)) → res = (if (l.drop a).getD i 0 = 0 ∧ 0 < i then (0, 0, 5) else if gv ((l.drop a).take (i + 1)) > 4611686018427387903 then (0, 0, 7) else (((gv ((l.drop a).take (i + 1)) : Nat) : Int), (a : Int) + (i : Int) + 1, 0)) →
        Ev (fun k => num_Get.j2 k (a : Int) ((gv ((l.drop a).take (i + 1)) : Nat) : Int) (i : Int) z) res := fun z res hz hres => by
     refine Ev.step (f := fun _ => some res) (fun k => ?_) (Ev.now _)
     simp only [num_Get.j2]
     rw [HW2.out, hres]
     by_cases hz1 : z = true
     ·rw [if_pos hz1, if_pos (hz.1 hz1)]
     ·rw [if_neg hz1, if_neg (fun h => hz1 (hz.2 h))]
      by_cases hb : gv ((l.drop a).take (i + 1)) > 4611686018427387903
      ·rw [if_pos (by omega), if_pos hb]
      ·rw [if_neg (by omega), if_neg hb]
    by_cases hz : (l.drop a).getD i 0 = 0
    ·refine Ev.step (f := fun k => num_Get.j2 k (a : Int) ((gv ((l.drop a).take (i + 1)) : Nat) : Int) (i : Int) (decide ((i : Int) > 0))) (fun k => ?_) (step _ _ ⟨fun h => ⟨hz, by have := of_decide_eq_true h; omega⟩, fun h => decide_eq_true (by omega)⟩ rfl)
     simp only [num_Get.l0]
     rw [HW.out, H7.out, rd_drop, if_pos (by omega), if_neg (by omega), if_pos (by omega), if_pos (by omega), if_pos (by omega), if_neg (by omega), if_pos hz]
     have := HG.out
     rw [H7.out] at this
     rw [this]
    ·refine Ev.step (f := fun k => num_Get.j2 k (a : Int) ((gv ((l.drop a).take (i + 1)) : Nat) : Int) (i : Int) false) (fun k => ?_) (step _ _ ⟨(fun h => (by cases h)), fun h => absurd h.1 hz⟩ rfl)
     simp only [num_Get.l0]
     rw [HW.out, H7.out, rd_drop, if_pos (by omega), if_neg (by omega), if_pos (by omega), if_pos (by omega), if_pos (by omega), if_neg (by omega), if_neg hz]
     have := HG.out
     rw [H7.out] at this
     rw [this]
 | succ d ih =>
  intro i hi
  have hlt : i < (l.drop a).length := by omega
  have hmore := rl_more 9 (l.drop a) i (by omega)
  have hc := hbr i hlt
  have hgv := gv_lt ((l.drop a).take i)
  rw [List.length_take, Nat.min_eq_left (by omega)] at hgv
  have hg := group_in (by omega) hgv hc.1 hc.2
  have hsn : gv ((l.drop a).take i) + 128 ^ i * ((l.drop a).getD i 0 % 128).toNat = gv ((l.drop a).take (i + 1)) := by
   rw [take_one _ _ hlt, gv_snoc, List.length_take, Nat.min_eq_left (by omega)]
  rw [hsn] at hg
  have HG := Aside0.mk hg
  have H7 := Aside0.mk (show wrap64 (7 * (i : Int)) = 7 * (i : Int) by unfold wrap64; omega)
  have HW := Aside0.mk (show wrap64 ((a : Int) + (i : Int)) = (a : Int) + (i : Int) by unfold wrap64; omega)
  have HI := Aside0.mk (show wrap64 ((i : Int) + 1) = ((i + 1 : Nat) : Int) by unfold wrap64; omega)
  clear hg hsn
  refine Ev.step (f := fun k => num_Get.l0 k l (a : Int) ((gv ((l.drop a).take (i + 1)) : Nat) : Int) ((i + 1 : Nat) : Int)) (fun k => ?_) (ih (i + 1) (by omega))
  simp only [num_Get.l0]
  rw [HW.out, H7.out, HI.out, rd_drop, if_pos (by omega), if_neg (by omega), if_pos (by omega), if_pos (by omega), if_pos (by omega), if_pos hmore]
  have := HG.out
  rw [H7.out] at this
  rw [this]
theorem get_of (l : List Int) (hb : ∀ x ∈ l, 0 ≤ x ∧ x ≤ 255) (hn : l.length ≤ 1000000000) (a : Int) : Ev (fun k => num_Get.f k l a) (getF l a) := by
 unfold num_Get.f
 by_cases h0 : a < 0
 ·refine ev_pos h0 (Ev.step (f := fun _ => some (0, 0, 3)) (fun k => ?_) ?_)
  ·simp only [num_Get.j0]; rw [if_pos trivial]
  ·unfold getF; rw [if_pos (.inl h0)]; exact Ev.now _
 ·refine ev_neg h0 ?_
  by_cases h1 : a > (l.length : Int)
  ·rw [decide_eq_true h1]
   refine Ev.step (f := fun _ => some (0, 0, 3)) (fun k => ?_) ?_
   ·simp only [num_Get.j0]; rw [if_pos trivial]
   ·unfold getF; rw [if_pos (.inr h1)]; exact Ev.now _
  ·rw [decide_eq_false h1]
   obtain ⟨n, rfl⟩ : ∃ n : Nat, a = (n : Int) := ⟨a.toNat, by omega⟩
   refine Ev.step (f := fun k => num_Get.l0 k l (n : Int) ((gv ((l.drop n).take 0) : Nat) : Int) ((0 : Nat) : Int)) (fun k => ?_) (get_loop l hb hn n (by omega) (rl 9 (l.drop n)) 0 (by omega))
   simp only [num_Get.j0]
   rw [if_neg (by simp)]
   rfl
theorem gv_split (D : List Int) (t : Nat) (h : t ≤ D.length) : gv D = gv (D.take t) + 128 ^ t * gv (D.drop t) := by
 conv => lhs; rw [← List.take_append_drop t D]
 rw [gv_app, List.length_take, Nat.min_eq_left h]
theorem rget_back (l : List Int) (hb : ∀ x ∈ l, 0 ≤ x ∧ x ≤ 255) (hn : l.length ≤ 1000000000) (a m : Nat) (hm : a + m < l.length) (e : Int) (he : e = (a : Int) + (m : Int)) (t : Nat) : t ≤ m + 1 →
    Ev (fun k => remoraref01_Get.l1 k l (a : Int) e ((gv (((l.drop a).take (m + 1)).drop t) : Nat) : Int) ((a : Int) + (t : Int) - 1)) (if gv ((l.drop a).take (m + 1)) > 4611686018427387903 then (0, 0, 7) else (((gv ((l.drop a).take (m + 1)) : Nat) : Int), (a : Int) + (m : Int) + 1, 0)) := by
 have hlen : ((l.drop a).take (m + 1)).length = m + 1 := by rw [List.length_take, List.length_drop]; omega
 have HE := Aside0.mk (show wrap64 (e + 1) = (a : Int) + (m : Int) + 1 by rw [he]; exact nw64 _ (by omega) (by omega))
 clear he
 induction t with
 | zero =>
  intro ht
  rw [List.drop_zero]
  generalize gv ((l.drop a).take (m + 1)) = v
  refine Ev.step (f := fun _ => some (if v > 4611686018427387903 then (0, 0, 7) else ((v : Int), (a : Int) + (m : Int) + 1, 0))) (fun k => ?_) (Ev.now _)
  simp only [remoraref01_Get.l1]
  rw [if_neg (by omega), HE.out]
  by_cases h : v > 4611686018427387903
  ·rw [if_pos (by omega), if_pos h]
  ·rw [if_neg (by omega), if_neg h]
 | succ t ih =>
  intro ht
  have ih := ih (by omega)
  have hsp := gv_split ((l.drop a).take (m + 1)) (t + 1) (by omega)
  have hstep : gv (((l.drop a).take (m + 1)).drop t) = (((l.drop a).getD t 0) % 128).toNat + 128 * gv (((l.drop a).take (m + 1)).drop (t + 1)) := by
   rw [List.drop_eq_getElem_cons (show t < ((l.drop a).take (m + 1)).length by omega)]
   show ((_ : Int) % 128).toNat + 128 * _ = _
   rw [List.getElem_take, List.getD_eq_getElem?_getD, List.getElem?_eq_getElem (by rw [List.length_drop]; omega)]
   rfl
  generalize hD : (l.drop a).take (m + 1) = D at *
  generalize hv : gv (D.drop (t + 1)) = v at hsp hstep ⊢
  by_cases hbig : v > 36028797018963967
  ·have hgv : gv D > 4611686018427387903 := by
     have h1 : (128 : Nat) ^ (t + 1) ≥ 128 := by
      rw [Nat.pow_succ]
      have := Nat.one_le_two_pow (n := 0)
      exact Nat.le_mul_of_pos_left _ (Nat.pow_pos (by decide))
     have h2 : 128 * v ≤ 128 ^ (t + 1) * v := Nat.mul_le_mul_right _ h1
     omega
   rw [if_pos hgv]
   refine Ev.step (f := fun _ => some (0, 0, 7)) (fun k => ?_) (Ev.now _)
   simp only [remoraref01_Get.l1]
   rw [if_pos (by omega), if_pos (by omega)]
  ·have hx := hb ((l.drop a).getD t 0) (by
     rw [List.getD_eq_getElem?_getD, List.getElem?_eq_getElem (by rw [List.length_drop]; omega)]
     exact List.drop_subset _ _ (List.getElem_mem _))
   have hrd : rd l ((a : Int) + ((t + 1 : Nat) : Int) - 1) = (l.drop a).getD t 0 := by
    rw [show (a : Int) + ((t + 1 : Nat) : Int) - 1 = (a : Int) + (t : Int) by omega]
    exact rd_drop l a t
   generalize (l.drop a).getD t 0 = c at hx hrd hstep
   have hacc : wrap64 (wrap64 (128 * (v : Int)) + wrap64 (Int.tmod c 128)) = ((gv (D.drop t) : Nat) : Int) := by
    rw [Int.tmod_eq_emod_of_nonneg (by omega), nw64 (128 * (v : Int)) (by omega) (by omega), nw64 (c % 128) (by omega) (by omega), nw64 _ (by omega) (by omega), hstep]
    omega
   have hi : wrap64 ((a : Int) + ((t + 1 : Nat) : Int) - 1 - 1) = (a : Int) + (t : Int) - 1 := by
    rw [nw64 _ (by omega) (by omega)]
    omega
   have HA := Aside0.mk hacc
   have HI := Aside0.mk hi
   clear hacc hi hstep hsp
   refine Ev.step (f := fun k => remoraref01_Get.l1 k l (a : Int) e ((gv (D.drop t) : Nat) : Int) ((a : Int) + (t : Int) - 1)) (fun k => ?_) ih
   simp only [remoraref01_Get.l1]
   rw [if_pos (by omega), if_neg (by omega), if_pos (by omega), if_pos (by omega), hrd, HA.out, HI.out]
theorem rget_end (l : List Int) (hb : ∀ x ∈ l, 0 ≤ x ∧ x ≤ 255) (hn : l.length ≤ 1000000000) (a : Nat) (ha : a ≤ l.length) :
    Ev (fun k => remoraref01_Get.j2 k l (a : Int) ((a : Int) + ((rl 9 (l.drop a) : Nat) : Int))) (getF l (a : Int)) := by
 have hm := rl_le 9 (l.drop a)
 have hlen : (l.drop a).length = l.length - a := List.length_drop
 unfold getF
 rw [if_neg (by omega), Int.toNat_natCast]
 simp only
 generalize hmm : rl 9 (l.drop a) = m at hm ⊢
 have HW := Aside0.mk (show wrap64 ((a : Int) + (m : Int) - (a : Int)) = (m : Int) by rw [nw64 _ (by omega) (by omega)]; omega)
 by_cases h9 : m = 9
 ·rw [if_pos h9]
  refine Ev.step (f := fun _ => some (0, 0, 5)) (fun k => ?_) (Ev.now _)
  simp only [remoraref01_Get.j2]
  rw [HW.out, if_pos (by omega)]
 ·rw [if_neg h9]
  by_cases he : m = (l.drop a).length
  ·rw [if_pos he]
   refine Ev.step (f := fun _ => some (0, 0, 4)) (fun k => ?_) (Ev.now _)
   simp only [remoraref01_Get.j2]
   rw [HW.out, if_neg (by omega), if_pos (by omega)]
  ·rw [if_neg he]
   have back : Ev (fun k => remoraref01_Get.l1 k l (a : Int) ((a : Int) + (m : Int)) 0 ((a : Int) + (m : Int))) (if gv ((l.drop a).take (m + 1)) > 4611686018427387903 then (0, 0, 7) else (((gv ((l.drop a).take (m + 1)) : Nat) : Int), (a : Int) + (m : Int) + 1, 0)) := by
    have := rget_back l hb hn a m (by omega) _ rfl (m + 1) (Nat.le_refl _)
    rw [List.drop_eq_nil_of_le (by rw [List.length_take]; omega), show (a : Int) + ((m + 1 : Nat) : Int) - 1 = (a : Int) + (m : Int) by omega] at this
    exact this
   by_cases hz : (l.drop a).getD m 0 = 0
   ·refine Ev.step (f := fun k => remoraref01_Get.j3 k l (a : Int) ((a : Int) + (m : Int)) (decide ((a : Int) + (m : Int) > (a : Int)))) (fun k => ?_) ?_
    ·simp only [remoraref01_Get.j2]
     rw [HW.out, if_neg (by omega), if_neg (by omega), if_pos (by omega), if_pos (by omega), rd_drop, if_pos hz]
    ·by_cases h0 : 0 < m
     ·rw [if_pos ⟨hz, h0⟩, decide_eq_true (by omega)]
      refine Ev.step (f := fun _ => some (0, 0, 5)) (fun k => ?_) (Ev.now _)
      simp only [remoraref01_Get.j3]
      rw [if_pos trivial]
     ·rw [if_neg (fun h => h0 h.2), decide_eq_false (by omega)]
      refine Ev.step (f := fun k => remoraref01_Get.l1 k l (a : Int) ((a : Int) + (m : Int)) 0 ((a : Int) + (m : Int))) (fun k => ?_) back
      simp only [remoraref01_Get.j3]
      rw [if_neg (by simp)]
   ·refine Ev.step (f := fun k => remoraref01_Get.j3 k l (a : Int) ((a : Int) + (m : Int)) false) (fun k => ?_) ?_
    ·simp only [remoraref01_Get.j2]
     rw [HW.out, if_neg (by omega), if_neg (by omega), if_pos (by omega), if_pos (by omega), rd_drop, if_neg hz]
    ·rw [if_neg (fun h => hz h.1)]
     refine Ev.step (f := fun k => remoraref01_Get.l1 k l (a : Int) ((a : Int) + (m : Int)) 0 ((a : Int) + (m : Int))) (fun k => ?_) back
     simp only [remoraref01_Get.j3]
     rw [if_neg (by simp)]
theorem rget_scan (l : List Int) (hb : ∀ x ∈ l, 0 ≤ x ∧ x ≤ 255) (hn : l.length ≤ 1000000000) (a : Nat) (ha : a ≤ l.length) (d : Nat) : ∀ i : Nat, i + d = rl 9 (l.drop a) →
    Ev (fun k => remoraref01_Get.l0 k l (a : Int) ((a : Int) + (i : Int))) (getF l (a : Int)) := by
 have hm := rl_le 9 (l.drop a)
 have hlen : (l.drop a).length = l.length - a := List.length_drop
 induction d with
 | zero =>
  intro i hi
  have hend := rget_end l hb hn a ha
  rw [← show i = rl 9 (l.drop a) by omega] at hend
  have HW := Aside0.mk (show wrap64 ((a : Int) + (i : Int) - (a : Int)) = (i : Int) by rw [nw64 _ (by omega) (by omega)]; omega)
  refine Ev.step (f := fun k => remoraref01_Get.j2 k l (a : Int) ((a : Int) + (i : Int))) (fun k => ?_) hend
  simp only [remoraref01_Get.l0]
  by_cases h1 : (a : Int) + (i : Int) < (l.length : Int)
  ·rw [if_pos h1, HW.out]
   by_cases h2 : (i : Int) < 9
   ·have h3 := rl_end 9 (l.drop a) (by omega) (by omega)
    rw [← show i = rl 9 (l.drop a) by omega] at h3
    rw [if_pos h2, if_pos (by omega), rd_drop, if_neg (by omega)]
   ·rw [if_neg h2]
  ·rw [if_neg h1]
 | succ d ih =>
  intro i hi
  have hmore := rl_more 9 (l.drop a) i (by omega)
  have HW := Aside0.mk (show wrap64 ((a : Int) + (i : Int) - (a : Int)) = (i : Int) by rw [nw64 _ (by omega) (by omega)]; omega)
  have HI := Aside0.mk (show wrap64 ((a : Int) + (i : Int) + 1) = (a : Int) + ((i + 1 : Nat) : Int) by rw [nw64 _ (by omega) (by omega)]; omega)
  refine Ev.step (f := fun k => remoraref01_Get.l0 k l (a : Int) ((a : Int) + ((i + 1 : Nat) : Int))) (fun k => ?_) (ih (i + 1) (by omega))
  simp only [remoraref01_Get.l0]
  rw [if_pos (by omega), HW.out, if_pos (by omega), if_pos (by omega), rd_drop, if_pos hmore, HI.out]
theorem rget_of (l : List Int) (hb : ∀ x ∈ l, 0 ≤ x ∧ x ≤ 255) (hn : l.length ≤ 1000000000) (a : Int) : Ev (fun k => remoraref01_Get.f k l a) (getF l a) := by
 unfold remoraref01_Get.f
 by_cases h0 : a < 0
 ·refine ev_pos h0 (Ev.step (f := fun _ => some (0, 0, 3)) (fun k => ?_) ?_)
  ·simp only [remoraref01_Get.j0]; rw [if_pos trivial]
  ·unfold getF; rw [if_pos (.inl h0)]; exact Ev.now _
 ·refine ev_neg h0 ?_
  by_cases h1 : a > (l.length : Int)
  ·rw [decide_eq_true h1]
   refine Ev.step (f := fun _ => some (0, 0, 3)) (fun k => ?_) ?_
   ·simp only [remoraref01_Get.j0]; rw [if_pos trivial]
   ·unfold getF; rw [if_pos (.inr h1)]; exact Ev.now _
  ·rw [decide_eq_false h1]
   obtain ⟨n, rfl⟩ : ∃ n : Nat, a = (n : Int) := ⟨a.toNat, by omega⟩
   have := rget_scan l hb hn n (by omega) (rl 9 (l.drop n)) 0 (by omega)
   rw [show (n : Int) + ((0 : Nat) : Int) = (n : Int) by omega] at this
   refine Ev.step (f := fun k => remoraref01_Get.l0 k l (n : Int) (n : Int)) (fun k => ?_) this
   simp only [remoraref01_Get.j0]
   rw [if_neg (by simp)]
theorem str_inj {a b : List Int} (ha : Bytes a) (hb : Bytes b) (h : (strOfNums a).toList = (strOfNums b).toList) : a = b := by
 rw [ByteArray.toList_eq, ByteArray.toList_eq, strOfNums_data, strOfNums_data] at h
 have hl : a.length = b.length := by have := congrArg List.length h; simpa using this
 apply List.ext_getElem hl
 intro i h1 h2
 have hx := congrArg (fun l => l[i]?) h
 simp only [List.getElem?_map, List.getElem?_eq_getElem h1, List.getElem?_eq_getElem h2, Option.map_some, Option.some.injEq] at hx
 have p := ha _ (List.getElem_mem h1)
 have q := hb _ (List.getElem_mem h2)
 have := congrArg UInt8.toNat hx
 simp only [UInt8.toNat_ofNat'] at this
 omega
theorem bytes_take {l : List Int} (h : Bytes l) (n : Nat) : Bytes (l.take n) := fun x hx => h x (List.take_subset _ _ hx)
def openF (l : List Int) : List Int × Int := if l.length < 4 then ([], 4) else if sb (cs (l.take (l.length - 4))) = l.drop (l.length - 4) then (l.take (l.length - 4), 0) else ([], 6)
theorem sb_b {n : Nat} (h : n < 4294967296) : Bytes (sb n) := by
 intro x hx
 unfold sb at hx
 simp only [List.mem_cons, List.not_mem_nil, or_false] at hx
 rcases hx with rfl | rfl | rfl | rfl <;> omega
theorem open_of (l : List Int) (hl : Bytes l) (hn : l.length ≤ 1000000000) : crc_Open.f l = some (openF l) := by
 unfold crc_Open.f openF
 by_cases h : l.length < 4
 ·rw [if_pos h, if_pos h]
 ·rw [if_neg h, if_neg h, seal4_of _ (bytes_take hl _), Option.bind_some, if_pos hn]
  by_cases h2 : sb (cs (l.take (l.length - 4))) = l.drop (l.length - 4)
  ·rw [if_pos h2]
   exact if_pos h2
  ·rw [if_neg h2]
   exact if_neg h2
theorem open_bytes (l : List Int) (hl : Bytes l) : Bytes (openF l).1 ∧ (openF l).1.length ≤ l.length := by
 unfold openF
 by_cases h : l.length < 4
 ·rw [if_pos h]; exact ⟨fun x hx => (by cases hx), Nat.zero_le _⟩
 ·rw [if_neg h]
  by_cases h2 : sb (cs (l.take (l.length - 4))) = l.drop (l.length - 4)
  ·rw [if_pos h2]; exact ⟨bytes_take hl _, by rw [List.length_take]; exact Nat.min_le_right _ _⟩
  ·rw [if_neg h2]; exact ⟨fun x hx => (by cases hx), Nat.zero_le _⟩
theorem ropen_of (l : List Int) (hl : Bytes l) (hn : l.length ≤ 1000000000) : Ev (fun k => remoraref02_Open.f k l) (openF l) := by
 unfold remoraref02_Open.f openF
 by_cases h : l.length < 4
 ·rw [if_pos h]
  exact ev_pos (by omega) (Ev.now _)
 ·rw [if_neg h]
  refine ev_neg (by omega) ?_
  have hw : wrap64 ((l.length : Int) - 4) = ((l.length - 4 : Nat) : Int) := by unfold wrap64; omega
  rw [hw]
  simp only [Option.bind_some, List.length_nil, Nat.zero_add, List.nil_append, Int.toNat_natCast]
  have hlt : (l.take (l.length - 4)).length ≤ l.length := by rw [List.length_take]; exact Nat.min_le_right _ _
  refine ev_pos (by omega) (ev_pos (by omega) (ev_pos (by omega) ?_))
  refine Ev.bind (rseal_of _ (bytes_take hl _) (by omega)) ?_
  by_cases h2 : sb (cs (l.take (l.length - 4))) = l.drop (l.length - 4)
  ·rw [if_pos h2]
   refine ev_pos ?_ (Ev.now _)
   rw [h2, List.take_append_drop]
  ·rw [if_neg h2]
   refine ev_neg (fun he => h2 ?_) (Ev.now _)
   have := str_inj (fun x hx => by
    rcases List.mem_append.1 hx with hx | hx
    ·exact bytes_take hl _ x hx
    ·exact sb_b (cs_lt _) x hx) hl he
   have h3 := congrArg (List.drop (l.length - 4)) this
   rwa [List.drop_left' (by rw [List.length_take]; omega)] at h3
def df (l m : List S44) (i : Nat) : Bool := !(((rd_T44 l (i : Int)).f0) == ((rd_T44 m (i : Int)).f0)) || (!((((rd_T44 l (i : Int)).f1).toList) == (((rd_T44 m (i : Int)).f1).toList)))
def eqD (l m : List S44) : Nat → Nat → Bool
 | 0, _ => true
 | d + 1, i => if df l m i = true then false else eqD l m d (i + 1)
theorem eqD_self (l : List S44) : ∀ d i, eqD l l d i = true
 | 0, _ => rfl
 | d + 1, i => by
  unfold eqD
  rw [if_neg (by unfold df; simp)]
  exact eqD_self l d (i + 1)
def smF (s b n : Int) (l : List S44) (s' b' n' : Int) (m : List S44) : Bool := if s = s' then (if b = b' then (if n = n' then (if l.length = m.length then eqD l m l.length 0 else false) else false) else false) else false
theorem smF_self (s b n : Int) (l : List S44) : smF s b n l s b n l = true := by
 unfold smF
 rw [if_pos rfl, if_pos rfl, if_pos rfl, if_pos rfl, eqD_self]
theorem rsame_loop (l m : List S44) (s b n : Int) (hn : l.length ≤ 4000000000000) (he : l.length = m.length) (d : Nat) : ∀ i : Nat, i + d = l.length → Ev (fun k => remoraref06_Same.l0 k l (l.length : Int) (i : Int) s b n m) (eqD l m d i) := by
 induction d with
 | zero =>
  intro i hi
  refine Ev.step (f := fun _ => some true) (fun k => ?_) (Ev.now _)
  simp only [remoraref06_Same.l0]
  rw [if_neg (by omega)]
 | succ d ih =>
  intro i hi
  have hlt : i < l.length := by omega
  unfold eqD
  by_cases h : df l m i = true
  ·rw [if_pos h]
   refine Ev.step (f := fun _ => some false) (fun k => ?_) (Ev.now _)
   simp only [remoraref06_Same.l0]
   rw [if_pos (by omega), if_pos (by omega), if_pos (by omega), if_pos (by omega), if_pos (show (!(((rd_T44 l (i : Int)).f0) == ((rd_T44 m (i : Int)).f0)) || (!((((rd_T44 l (i : Int)).f1).toList) == (((rd_T44 m (i : Int)).f1).toList)))) = true from h)]
  ·rw [if_neg h]
   refine Ev.step (f := fun k => remoraref06_Same.l0 k l (l.length : Int) ((i + 1 : Nat) : Int) s b n m) (fun k => ?_) (ih (i + 1) (by omega))
   simp only [remoraref06_Same.l0]
   rw [if_pos (by omega), if_pos (by omega), if_pos (by omega), if_pos (by omega), if_neg (show ¬ ((!(((rd_T44 l (i : Int)).f0) == ((rd_T44 m (i : Int)).f0)) || (!((((rd_T44 l (i : Int)).f1).toList) == (((rd_T44 m (i : Int)).f1).toList)))) = true) from h), inc6 hlt hn]
theorem rsame_no (s b n : Int) (l : List S44) (s' b' n' : Int) (m : List S44) : Ev (fun k => remoraref06_Same.j0 k true s b n l s' b' n' m) false := by
 refine Ev.step (f := fun _ => some false) (fun k => ?_) (Ev.now _)
 simp only [remoraref06_Same.j0]
 rw [if_pos trivial]
theorem rsame_of (s b n : Int) (l : List S44) (s' b' n' : Int) (m : List S44) (hn : l.length ≤ 4000000000000) : Ev (fun k => remoraref06_Same.f k s b n l s' b' n' m) (smF s b n l s' b' n' m) := by
 unfold remoraref06_Same.f smF
 by_cases h1 : s = s'
 ·rw [if_pos h1]
  refine ev_pos h1 ?_
  by_cases h2 : b = b'
  ·rw [if_pos h2]
   refine ev_pos h2 ?_
   by_cases h3 : n = n'
   ·rw [if_pos h3]
    refine ev_pos h3 ?_
    by_cases h4 : l.length = m.length
    ·rw [if_pos h4]
     have e : ((l.length : Int) != (m.length : Int)) = false := by simp [h4]
     rw [e]
     refine Ev.step (f := fun k => remoraref06_Same.l0 k l (l.length : Int) 0 s' b' n' m) (fun k => ?_) (rsame_loop l m s' b' n' hn h4 l.length 0 (by omega))
     simp only [remoraref06_Same.j0]
     rw [if_neg (by decide)]
    ·rw [if_neg h4]
     have e : ((l.length : Int) != (m.length : Int)) = true := by simp; omega
     rw [e]
     exact rsame_no _ _ _ _ _ _ _ _
   ·rw [if_neg h3]
    exact ev_neg h3 (rsame_no _ _ _ _ _ _ _ _)
  ·rw [if_neg h2]
   exact ev_neg h2 (rsame_no _ _ _ _ _ _ _ _)
 ·rw [if_neg h1]
  exact ev_neg h1 (rsame_no _ _ _ _ _ _ _ _)
theorem or_comm32 (x y : Int) : Go.bits .or .u32 x y = Go.bits .or .u32 y x := by
 unfold Go.bits
 simp only []
 rw [BitVec.or_comm]
theorem getF_bd (l : List Int) (a : Int) : 0 ≤ (getF l a).1 ∧ (getF l a).1 ≤ 4611686018427387903 ∧ 0 ≤ (getF l a).2.1 ∧ (getF l a).2.1 ≤ (l.length : Int) := by
 unfold getF
 by_cases h : a < 0 ∨ a > (l.length : Int)
 ·rw [if_pos h]
  exact ⟨by decide, by decide, by decide, by simp⟩
 ·rw [if_neg h]
  simp only
  have hm := rl_le 9 (l.drop a.toNat)
  have hlen : (l.drop a.toNat).length = l.length - a.toNat := List.length_drop
  by_cases h9 : rl 9 (l.drop a.toNat) = 9
  ·rw [if_pos h9]; exact ⟨by decide, by decide, by decide, by simp⟩
  ·rw [if_neg h9]
   by_cases he : rl 9 (l.drop a.toNat) = (l.drop a.toNat).length
   ·rw [if_pos he]; exact ⟨by decide, by decide, by decide, by simp⟩
   ·rw [if_neg he]
    split
    ·exact ⟨by decide, by decide, by decide, by simp⟩
    ·split
     ·exact ⟨by decide, by decide, by decide, by simp⟩
     ·exact ⟨by simp, by simp; omega, by simp; omega, by simp; omega⟩
def wk (b : List Int) (p : Nat) : Int := b.getD p 0 + 256 * b.getD (p + 1) 0 + 65536 * b.getD (p + 2) 0 + 16777216 * b.getD (p + 3) 0
def mkM (b : List Int) (p n : Nat) : S44 := ⟨wk b p, strOfNums ((b.take (p + (4 + n))).drop (p + 4))⟩
def mkMs (b : List Int) (n : Nat) : Nat → Nat → List S44
 | 0, _ => []
 | d + 1, p => mkM b p n :: mkMs b n d (p + (4 + n))
theorem mkMs_len (b : List Int) (n : Nat) : ∀ d p, (mkMs b n d p).length = d
 | 0, _ => rfl
 | d + 1, p => by
  unfold mkMs
  rw [List.length_cons, mkMs_len b n d]
theorem rd_nat6 (l : List Int) (i : Nat) : rd l (i : Int) = l.getD i 0 := by
 unfold rd
 rw [Int.toNat_natCast]
theorem byte_at {b : List Int} (hb : Bytes b) (i : Nat) : 0 ≤ b.getD i 0 ∧ b.getD i 0 ≤ 255 := by
 by_cases h : i < b.length
 ·rw [List.getD_eq_getElem?_getD, List.getElem?_eq_getElem h]
  exact hb _ (List.getElem_mem h)
 ·rw [List.getD_eq_getElem?_getD, List.getElem?_eq_none (by omega)]
  exact ⟨by decide, by decide⟩
theorem shl_at {x : Int} (h0 : 0 ≤ x) (h1 : x ≤ 255) : shl .u32 (x % 4294967296) 0 = x ∧ shl .u32 (x % 4294967296) 8 = x * 2 ^ 8 ∧ shl .u32 (x % 4294967296) 16 = x * 2 ^ 16 ∧ shl .u32 (x % 4294967296) 24 = x * 2 ^ 24 := by
 have e : x % 4294967296 = x := by omega
 rw [e]
 refine ⟨?_, ?_, ?_, ?_⟩
 ·show IntKind.u32.wrap (x * 2 ^ 0) = x
  rw [IntKind.wrap_u32, show (2 : Int) ^ 0 = 1 from rfl]; omega
 ·show IntKind.u32.wrap (x * 2 ^ 8) = x * 2 ^ 8
  rw [IntKind.wrap_u32, show (2 : Int) ^ 8 = 256 from rfl]; omega
 ·show IntKind.u32.wrap (x * 2 ^ 16) = x * 2 ^ 16
  rw [IntKind.wrap_u32, show (2 : Int) ^ 16 = 65536 from rfl]; omega
 ·show IntKind.u32.wrap (x * 2 ^ 24) = x * 2 ^ 24
  rw [IntKind.wrap_u32, show (2 : Int) ^ 24 = 16777216 from rfl]; omega
theorem or_low (i : Nat) (x y : Int) (h0 : 0 ≤ x) (h1 : 0 ≤ y) (h2 : y < 2 ^ i) (h3 : x * 2 ^ i + y < 4294967296) : Go.bits .or .u32 y (x * 2 ^ i) = x * 2 ^ i + y := by
 rw [or_comm32, or_add i x y h0 h1 h2 h3]
theorem or_four {a b c d : Int} (ha : 0 ≤ a ∧ a ≤ 255) (hb : 0 ≤ b ∧ b ≤ 255) (hc : 0 ≤ c ∧ c ≤ 255) (hd : 0 ≤ d ∧ d ≤ 255) :
    Go.bits .or .u32 (Go.bits .or .u32 (Go.bits .or .u32 a (b * 2 ^ 8)) (c * 2 ^ 16)) (d * 2 ^ 24) = a + 256 * b + 65536 * c + 16777216 * d := by
 have p8 : (2 : Int) ^ 8 = 256 := rfl
 have p16 : (2 : Int) ^ 16 = 65536 := rfl
 have p24 : (2 : Int) ^ 24 = 16777216 := rfl
 rw [or_low 8 b a hb.1 ha.1 (by rw [p8]; omega) (by rw [p8]; omega), or_low 16 c _ hc.1 (by rw [p8]; omega) (by rw [p8, p16]; omega) (by rw [p8, p16]; omega),
  or_low 24 d _ hd.1 (by rw [p8, p16]; omega) (by rw [p8, p16, p24]; omega) (by rw [p8, p16, p24]; omega), p8, p16, p24]
 omega
def readF (l : List Int) : Int × Int × Int × List S44 × Int :=
 if (openF l).2 = 0 then
  (if (getF (openF l).1 0).2.2 = 0 then
   (if (getF (openF l).1 (getF (openF l).1 0).2.1).2.2 = 0 then
    (if (getF (openF l).1 (getF (openF l).1 (getF (openF l).1 0).2.1).2.1).2.2 = 0 then
     tailF (openF l).1 (getF (openF l).1 0).1 (getF (openF l).1 (getF (openF l).1 0).2.1).1 (getF (openF l).1 (getF (openF l).1 (getF (openF l).1 0).2.1).2.1).1 (getF (openF l).1 (getF (openF l).1 (getF (openF l).1 0).2.1).2.1).2.1
    else (0, 0, 0, [], (getF (openF l).1 (getF (openF l).1 (getF (openF l).1 0).2.1).2.1).2.2))
   else (0, 0, 0, [], (getF (openF l).1 (getF (openF l).1 0).2.1).2.2))
  else (0, 0, 0, [], (getF (openF l).1 0).2.2))
 else (0, 0, 0, [], (openF l).2)
where tailF (b : List Int) (s bl n at_ : Int) : Int × Int × Int × List S44 × Int :=
 if Fr s bl n = 0 then (if (b.length : Int) - at_ < Ct s bl * (4 + n) then (0, 0, 0, [], 4) else if (b.length : Int) - at_ > Ct s bl * (4 + n) then (0, 0, 0, [], 5) else (s, bl, n, mkMs b n.toNat (Ct s bl).toNat at_.toNat, 0)) else (0, 0, 0, [], 2)
theorem readF_len (l : List Int) : (readF l).2.2.2.1.length ≤ 8192 := by
 unfold readF
 repeat' split
 all_goals first
  | exact Nat.zero_le _
  | skip
 unfold readF.tailF
 split
 ·next h =>
  repeat' split
  all_goals first
   | exact Nat.zero_le _
   | skip
  show (mkMs _ _ _ _).length ≤ 8192
  rw [mkMs_len]
  have := (ct_bounds (fr_ok h).2).2.2.2
  omega
 ·exact Nat.zero_le _
theorem wr_add (p j : Nat) (h : p + j ≤ 4000000000) : wrap64 ((p : Int) + (j : Int)) = ((p + j : Nat) : Int) := by unfold wrap64; omega
theorem wr_add4 (p n : Nat) (h : p + (4 + n) ≤ 4000000000) : wrap64 ((p : Int) + (4 + (n : Int))) = ((p + (4 + n) : Nat) : Int) := by unfold wrap64; omega
theorem sread_loop (b : List Int) (hb : Bytes b) (hn : b.length ≤ 1000000000) (n : Nat) (h32 : n ≤ 32) (s bl : Int) (d : Nat) : ∀ (p : Nat) (ms : List S44), p + d * (4 + n) = b.length → ms.length + d ≤ 10000 →
    Ev (fun k => sig_Read.l0 k b (p : Int) (4 + (n : Int)) s bl (n : Int) ms) (s, bl, (n : Int), ms ++ mkMs b n d p, 0) := by
 induction d with
 | zero =>
  intro p ms hp hm
  refine Ev.step (f := fun _ => some (s, bl, (n : Int), ms, 0)) (fun k => ?_) ?_
  ·simp only [sig_Read.l0]
   rw [if_neg (by omega)]
  ·unfold mkMs
   rw [List.append_nil]
   exact Ev.now _
 | succ d ih =>
  intro p ms hp hm
  rw [Nat.add_mul, Nat.one_mul] at hp
  have hnext := ih (p + (4 + n)) (ms ++ [mkM b p n]) (by omega) (by rw [List.length_append, List.length_cons, List.length_nil]; omega)
  rw [List.append_assoc, List.cons_append, List.nil_append] at hnext
  have i0 := byte_at hb p
  have i1 := byte_at hb (p + 1)
  have i2 := byte_at hb (p + 2)
  have i3 := byte_at hb (p + 3)
  have K8 := Aside0.mk k8
  have hp2 : p + (4 + n) ≤ 1000000000 := by omega
  have A0 := Aside0.mk (show wrap64 ((p : Int) + 0) = ((p : Nat) : Int) from wr_add p 0 (by omega))
  have A1 := Aside0.mk (show wrap64 ((p : Int) + 1) = ((p + 1 : Nat) : Int) from wr_add p 1 (by omega))
  have A2 := Aside0.mk (show wrap64 ((p : Int) + 2) = ((p + 2 : Nat) : Int) from wr_add p 2 (by omega))
  have A3 := Aside0.mk (show wrap64 ((p : Int) + 3) = ((p + 3 : Nat) : Int) from wr_add p 3 (by omega))
  have A4 := Aside0.mk (show wrap64 ((p : Int) + 4) = ((p + 4 : Nat) : Int) from wr_add p 4 (by omega))
  have A5 := Aside0.mk (wr_add4 p n (by omega))
  have z0 : Go.bits .or .u32 0 (b.getD p 0) = b.getD p 0 := by
   rw [or_comm32]
   have := or_add 0 (b.getD p 0) 0 i0.1 (by decide) (by decide) (by rw [show (2 : Int) ^ 0 = 1 from rfl]; omega)
   rw [show (2 : Int) ^ 0 = 1 from rfl, Int.mul_one, Int.add_zero] at this
   exact this
  refine Ev.step (f := fun k => sig_Read.l1 k b (p : Int) (4 + (n : Int)) 0 s bl (n : Int) ms 0 ⟨#[]⟩) (fun k => ?_) ?_
  ·simp only [sig_Read.l0]
   rw [if_pos (by omega)]
  refine Ev.step (f := fun k => sig_Read.l1 k b (p : Int) (4 + (n : Int)) 1 s bl (n : Int) ms (b.getD p 0) ⟨#[]⟩) (fun k => ?_) ?_
  ·simp only [sig_Read.l1]
   rw [if_pos (show (0 : Int) < 4 by decide), A0.out, if_pos (by omega), if_pos (by omega), K8.out.1, if_pos (by decide), K8.out.2.2.2.2.1, rd_nat6, (shl_at i0.1 i0.2).1, z0]
  refine Ev.step (f := fun k => sig_Read.l1 k b (p : Int) (4 + (n : Int)) 2 s bl (n : Int) ms (Go.bits .or .u32 (b.getD p 0) (b.getD (p + 1) 0 * 2 ^ 8)) ⟨#[]⟩) (fun k => ?_) ?_
  ·simp only [sig_Read.l1]
   rw [if_pos (show (1 : Int) < 4 by decide), A1.out, if_pos (by omega), if_pos (by omega), K8.out.2.1, if_pos (by decide), K8.out.2.2.2.2.2.1, rd_nat6, (shl_at i1.1 i1.2).2.1]
  refine Ev.step (f := fun k => sig_Read.l1 k b (p : Int) (4 + (n : Int)) 3 s bl (n : Int) ms (Go.bits .or .u32 (Go.bits .or .u32 (b.getD p 0) (b.getD (p + 1) 0 * 2 ^ 8)) (b.getD (p + 2) 0 * 2 ^ 16)) ⟨#[]⟩) (fun k => ?_) ?_
  ·simp only [sig_Read.l1]
   rw [if_pos (show (2 : Int) < 4 by decide), A2.out, if_pos (by omega), if_pos (by omega), K8.out.2.2.1, if_pos (by decide), K8.out.2.2.2.2.2.2.1, rd_nat6, (shl_at i2.1 i2.2).2.2.1]
  refine Ev.step (f := fun k => sig_Read.l1 k b (p : Int) (4 + (n : Int)) 4 s bl (n : Int) ms (wk b p) ⟨#[]⟩) (fun k => ?_) ?_
  ·simp only [sig_Read.l1]
   rw [if_pos (show (3 : Int) < 4 by decide), A3.out, if_pos (by omega), if_pos (by omega), K8.out.2.2.2.1, if_pos (by decide), K8.out.2.2.2.2.2.2.2, rd_nat6, (shl_at i3.1 i3.2).2.2.2, or_four i0 i1 i2 i3]
   rfl
  refine Ev.step (f := fun k => sig_Read.l0 k b ((p + (4 + n) : Nat) : Int) (4 + (n : Int)) s bl (n : Int) (ms ++ [mkM b p n])) (fun k => ?_) hnext
  simp only [sig_Read.l1]
  rw [if_neg (by decide), A4.out, A5.out, if_pos (by omega), if_pos (by omega), if_pos (by omega), if_pos (by omega), Int.toNat_natCast, Int.toNat_natCast]
  rfl
theorem get_at (l : List Int) (hb : Bytes l) (hn : l.length ≤ 1000000000) (a : Int) : Ev (fun k => num_Get.f k l a) ((getF l a).1, (getF l a).2.1, (getF l a).2.2) := get_of l hb hn a
theorem sread_of (l : List Int) (hb : Bytes l) (hn : l.length ≤ 1000000000) : Ev (fun k => sig_Read.f k l) (readF l) := by
 obtain ⟨ob, on⟩ := open_bytes l hb
 unfold sig_Read.f readF
 refine Ev.bind (a := ((openF l).1, (openF l).2)) (ev_some (open_of l hb hn)) ?_
 generalize (openF l).2 = e0
 generalize (openF l).1 = b at ob on ⊢
 have hbn : b.length ≤ 1000000000 := by omega
 by_cases h0 : e0 = 0
 ·rw [if_pos h0]
  refine ev_pos h0 (Ev.bind (get_at b ob hbn 0) ?_)
  by_cases h1 : (getF b 0).2.2 = 0
  ·rw [if_pos h1]
   refine ev_pos h1 (Ev.bind (get_at b ob hbn (getF b 0).2.1) ?_)
   by_cases h2 : (getF b (getF b 0).2.1).2.2 = 0
   ·rw [if_pos h2]
    refine ev_pos h2 (Ev.bind (get_at b ob hbn (getF b (getF b 0).2.1).2.1) ?_)
    by_cases h3 : (getF b (getF b (getF b 0).2.1).2.1).2.2 = 0
    ·rw [if_pos h3]
     refine ev_pos h3 ?_
     have b1 := getF_bd b 0
     have b2 := getF_bd b (getF b 0).2.1
     have b3 := getF_bd b (getF b (getF b 0).2.1).2.1
     clear h0 h1 h2 h3
     show Ev (fun k => (sig_front.f (getF b 0).1 (getF b (getF b 0).2.1).1 (getF b (getF b (getF b 0).2.1).2.1).1 ([] : List S44)).bind fun t208 => (if t208 = 0 then ((blocks_Count.f (getF b 0).1 (getF b (getF b 0).2.1).1).bind fun t209 => (if (wrap64 ((b.length : Int) - (getF b (getF b (getF b 0).2.1).2.1).2.1)) < (wrap64 (t209 * (wrap64 (4 + (getF b (getF b (getF b 0).2.1).2.1).1)))) then (some (0, 0, 0, ([] : List (S44)), 4)) else (if (wrap64 ((b.length : Int) - (getF b (getF b (getF b 0).2.1).2.1).2.1)) > (wrap64 (t209 * (wrap64 (4 + (getF b (getF b (getF b 0).2.1).2.1).1)))) then (some (0, 0, 0, ([] : List (S44)), 5)) else (sig_Read.l0 k b (getF b (getF b (getF b 0).2.1).2.1).2.1 (wrap64 (4 + (getF b (getF b (getF b 0).2.1).2.1).1)) (getF b 0).1 (getF b (getF b 0).2.1).1 (getF b (getF b (getF b 0).2.1).2.1).1 ([] : List (S44)))))) else (some (0, 0, 0, ([] : List (S44)), t208)))) _
     generalize (getF b 0).1 = s at *
     generalize (getF b (getF b 0).2.1).1 = bl at *
     generalize (getF b (getF b (getF b 0).2.1).2.1).1 = n at *
     generalize (getF b (getF b (getF b 0).2.1).2.1).2.1 = p at *
     unfold readF.tailF
     refine Ev.bind (ev_some (front_of s bl n [])) ?_
     by_cases hf : Fr s bl n = 0
     ·rw [if_pos hf]
      have hn32 := (fr_ok hf).1
      obtain ⟨c1, c2, c3, c4⟩ := ct_bounds (fr_ok hf).2
      have hmul : 0 ≤ Ct s bl * (4 + n) ∧ Ct s bl * (4 + n) ≤ 8192 * 36 := ⟨Int.mul_nonneg c3 (by omega), Int.le_trans (Int.mul_le_mul_of_nonneg_right c4 (by omega)) (Int.mul_le_mul_of_nonneg_left (by omega) (by decide))⟩
      refine ev_pos hf (Ev.bind (ev_some (count_of s bl)) ?_)
      rw [w64 (4 + n) (by omega) (by omega), w64 (Ct s bl * (4 + n)) (by omega) (by omega), w64 ((b.length : Int) - p) (by omega) (by omega)]
      by_cases l1 : (b.length : Int) - p < Ct s bl * (4 + n)
      ·rw [if_pos l1]
       exact ev_pos l1 (Ev.now _)
      ·rw [if_neg l1]
       refine ev_neg l1 ?_
       by_cases l2 : (b.length : Int) - p > Ct s bl * (4 + n)
       ·rw [if_pos l2]
        exact ev_pos l2 (Ev.now _)
       ·rw [if_neg l2]
        refine ev_neg l2 ?_
        obtain ⟨n', rfl⟩ : ∃ n' : Nat, n = (n' : Int) := ⟨n.toNat, by omega⟩
        obtain ⟨p', rfl⟩ : ∃ p' : Nat, p = (p' : Int) := ⟨p.toNat, by omega⟩
        obtain ⟨c', hc'⟩ : ∃ c' : Nat, Ct s bl = (c' : Int) := ⟨(Ct s bl).toNat, by omega⟩
        rw [hc'] at l1 l2 hmul c4 ⊢
        rw [Int.toNat_natCast, Int.toNat_natCast, Int.toNat_natCast]
        have e4 : (c' : Int) * (4 + (n' : Int)) = ((c' * (4 + n') : Nat) : Int) := by push_cast; rfl
        rw [e4] at l1 l2
        have := sread_loop b ob hbn n' (by omega) s bl c' p' [] (by omega) (by simp; omega)
        rw [List.nil_append] at this
        exact this
     ·rw [if_neg hf, fr_two hf]
      exact ev_neg (by decide) (Ev.now _)
    ·rw [if_neg h3]
     exact ev_neg h3 (Ev.now _)
   ·rw [if_neg h2]
    exact ev_neg h2 (Ev.now _)
  ·rw [if_neg h1]
   exact ev_neg h1 (Ev.now _)
 ·rw [if_neg h0]
  exact ev_neg h0 (Ev.now _)
theorem rread_loop (b : List Int) (hb : Bytes b) (hn : b.length ≤ 1000000000) (n : Nat) (h32 : n ≤ 32) (s bl : Int) (c : Nat) (hc : c ≤ 10000) (d : Nat) : ∀ (p : Nat) (ms : List S44), p + d * (4 + n) = b.length → ms.length + d = c →
    Ev (fun k => remoraref06_Read.l0 k b (p : Int) (c : Int) s bl (n : Int) ms) (s, bl, (n : Int), ms ++ mkMs b n d p, 0) := by
 induction d with
 | zero =>
  intro p ms hp hm
  refine Ev.step (f := fun _ => some (s, bl, (n : Int), ms, 0)) (fun k => ?_) ?_
  ·simp only [remoraref06_Read.l0]
   rw [if_neg (by omega)]
  ·unfold mkMs
   rw [List.append_nil]
   exact Ev.now _
 | succ d ih =>
  intro p ms hp hm
  rw [Nat.add_mul, Nat.one_mul] at hp
  have hnext := ih (p + (4 + n)) (ms ++ [mkM b p n]) (by omega) (by rw [List.length_append, List.length_cons, List.length_nil]; omega)
  rw [List.append_assoc, List.cons_append, List.nil_append] at hnext
  have i0 := byte_at hb p
  have i1 := byte_at hb (p + 1)
  have i2 := byte_at hb (p + 2)
  have i3 := byte_at hb (p + 3)
  have hp2 : p + (4 + n) ≤ 1000000000 := by omega
  have A1 := Aside0.mk (show wrap64 ((p : Int) + 1) = ((p + 1 : Nat) : Int) from wr_add p 1 (by omega))
  have A2 := Aside0.mk (show wrap64 ((p : Int) + 2) = ((p + 2 : Nat) : Int) from wr_add p 2 (by omega))
  have A3 := Aside0.mk (show wrap64 ((p : Int) + 3) = ((p + 3 : Nat) : Int) from wr_add p 3 (by omega))
  have A4 := Aside0.mk (show wrap64 ((p : Int) + 4) = ((p + 4 : Nat) : Int) from wr_add p 4 (by omega))
  have A5 := Aside0.mk (show wrap64 (((p + 4 : Nat) : Int) + (n : Int)) = ((p + (4 + n) : Nat) : Int) by rw [wr_add (p + 4) n (by omega), Nat.add_assoc])
  have A6 := Aside0.mk (show wrap64 ((p : Int) + wrap64 (4 + (n : Int))) = ((p + (4 + n) : Nat) : Int) by rw [show wrap64 (4 + (n : Int)) = 4 + (n : Int) from w64 _ (by omega) (by omega)]; exact wr_add4 p n (by omega))
  have e0 : (b.getD p 0) % 4294967296 = b.getD p 0 := by omega
  have e1 : (((b.getD (p + 1) 0) % 4294967296) * 256) % 4294967296 = b.getD (p + 1) 0 * 2 ^ 8 := by rw [show (2 : Int) ^ 8 = 256 from rfl]; omega
  have e2 : (((b.getD (p + 2) 0) % 4294967296) * 65536) % 4294967296 = b.getD (p + 2) 0 * 2 ^ 16 := by rw [show (2 : Int) ^ 16 = 65536 from rfl]; omega
  have e3 : (((b.getD (p + 3) 0) % 4294967296) * 16777216) % 4294967296 = b.getD (p + 3) 0 * 2 ^ 24 := by rw [show (2 : Int) ^ 24 = 16777216 from rfl]; omega
  refine Ev.step (f := fun k => remoraref06_Read.l0 k b ((p + (4 + n) : Nat) : Int) (c : Int) s bl (n : Int) (ms ++ [mkM b p n])) (fun k => ?_) hnext
  simp only [remoraref06_Read.l0]
  rw [if_pos (by omega), if_pos (by omega), if_pos (by omega), A1.out, A2.out, A3.out, A4.out, A5.out, A6.out]
  rw [if_pos (by omega), if_pos (by omega), if_pos (by omega), if_pos (by omega), if_pos (by omega), if_pos (by omega), if_pos (by omega), if_pos (by omega), if_pos (by omega), if_pos (by omega)]
  rw [rd_nat6, rd_nat6, rd_nat6, rd_nat6, e0, e1, e2, e3, or_four i0 i1 i2 i3, Int.toNat_natCast, Int.toNat_natCast]
  rfl
theorem rget_at (l : List Int) (hb : Bytes l) (hn : l.length ≤ 1000000000) (a : Int) : Ev (fun k => remoraref01_Get.f k l a) ((getF l a).1, (getF l a).2.1, (getF l a).2.2) := rget_of l hb hn a
def threeF (b : List Int) : List Int × Int × Int :=
 if (getF b 0).2.2 = 0 then
  (if (getF b (getF b 0).2.1).2.2 = 0 then
   (if (getF b (getF b (getF b 0).2.1).2.1).2.2 = 0 then ([(getF b 0).1, (getF b (getF b 0).2.1).1, (getF b (getF b (getF b 0).2.1).2.1).1], (getF b (getF b (getF b 0).2.1).2.1).2.1, 0)
   else ([], 0, (getF b (getF b (getF b 0).2.1).2.1).2.2))
  else ([], 0, (getF b (getF b 0).2.1).2.2))
 else ([], 0, (getF b 0).2.2)
theorem three_of (b : List Int) (hb : Bytes b) (hn : b.length ≤ 1000000000) : Ev (fun k => remoraref06_three.f k b) (threeF b) := by
 unfold remoraref06_three.f threeF
 refine Ev.step (f := fun k => (remoraref01_Get.f k b 0).bind fun t => (if t.2.2 = 0 then (remoraref06_three.l0 k b [t.1] t.2.1) else (some (([] : List Int), 0, t.2.2)))) (fun k => ?_) ?_
 ·simp only [remoraref06_three.l0]
  rw [if_pos (by show (0 : Int) < 3; decide)]
  rfl
 refine Ev.bind (rget_at b hb hn 0) ?_
 by_cases h1 : (getF b 0).2.2 = 0
 ·rw [if_pos h1]
  refine ev_pos h1 ?_
  refine Ev.step (f := fun k => (remoraref01_Get.f k b (getF b 0).2.1).bind fun t => (if t.2.2 = 0 then (remoraref06_three.l0 k b [(getF b 0).1, t.1] t.2.1) else (some (([] : List Int), 0, t.2.2)))) (fun k => ?_) ?_
  ·simp only [remoraref06_three.l0]
   rw [if_pos (by show (1 : Int) < 3; decide)]
   rfl
  refine Ev.bind (rget_at b hb hn _) ?_
  by_cases h2 : (getF b (getF b 0).2.1).2.2 = 0
  ·rw [if_pos h2]
   refine ev_pos h2 ?_
   refine Ev.step (f := fun k => (remoraref01_Get.f k b (getF b (getF b 0).2.1).2.1).bind fun t => (if t.2.2 = 0 then (remoraref06_three.l0 k b [(getF b 0).1, (getF b (getF b 0).2.1).1, t.1] t.2.1) else (some (([] : List Int), 0, t.2.2)))) (fun k => ?_) ?_
   ·simp only [remoraref06_three.l0]
    rw [if_pos (by show (2 : Int) < 3; decide)]
    rfl
   refine Ev.bind (rget_at b hb hn _) ?_
   by_cases h3 : (getF b (getF b (getF b 0).2.1).2.1).2.2 = 0
   ·rw [if_pos h3]
    refine ev_pos h3 (Ev.step (f := fun _ => some ([(getF b 0).1, (getF b (getF b 0).2.1).1, (getF b (getF b (getF b 0).2.1).2.1).1], (getF b (getF b (getF b 0).2.1).2.1).2.1, 0)) (fun k => ?_) (Ev.now _))
    simp only [remoraref06_three.l0]
    rw [if_neg (by show ¬ (3 : Int) < 3; decide)]
   ·rw [if_neg h3]
    exact ev_neg h3 (Ev.now _)
  ·rw [if_neg h2]
   exact ev_neg h2 (Ev.now _)
 ·rw [if_neg h1]
  exact ev_neg h1 (Ev.now _)
theorem rread_of (l : List Int) (hb : Bytes l) (hn : l.length ≤ 1000000000) : Ev (fun k => remoraref06_Read.f k l) (readF l) := by
 obtain ⟨ob, on⟩ := open_bytes l hb
 unfold remoraref06_Read.f readF
 refine Ev.bind (a := ((openF l).1, (openF l).2)) (ropen_of l hb hn) ?_
 generalize (openF l).2 = e0
 generalize (openF l).1 = b at ob on ⊢
 have hbn : b.length ≤ 1000000000 := by omega
 by_cases h0 : e0 = 0
 ·rw [if_pos h0]
  refine ev_pos h0 (Ev.bind (three_of b ob hbn) ?_)
  unfold threeF
  by_cases h1 : (getF b 0).2.2 = 0
  ·rw [if_pos h1, if_pos h1]
   by_cases h2 : (getF b (getF b 0).2.1).2.2 = 0
   ·rw [if_pos h2, if_pos h2]
    by_cases h3 : (getF b (getF b (getF b 0).2.1).2.1).2.2 = 0
    ·rw [if_pos h3, if_pos h3]
     have b1 := getF_bd b 0
     have b2 := getF_bd b (getF b 0).2.1
     have b3 := getF_bd b (getF b (getF b 0).2.1).2.1
     clear h0 h1 h2 h3
     refine ev_pos rfl (ev_pos (by show (0 : Int) < 3; decide) (ev_pos (by show (1 : Int) < 3; decide) (ev_pos (by show (2 : Int) < 3; decide) ?_)))
     show Ev (fun k => (remoraref06_head.f (getF b 0).1 (getF b (getF b 0).2.1).1 (getF b (getF b (getF b 0).2.1).2.1).1 ([] : List S44)).bind fun t273 => (if t273 = 0 then ((remoraref05_Count.f k (getF b 0).1 (getF b (getF b 0).2.1).1).bind fun t274 => (if (wrap64 ((b.length : Int) - (getF b (getF b (getF b 0).2.1).2.1).2.1)) < (wrap64 (t274 * (wrap64 (4 + (getF b (getF b (getF b 0).2.1).2.1).1)))) then (some (0, 0, 0, ([] : List (S44)), 4)) else (if (wrap64 ((b.length : Int) - (getF b (getF b (getF b 0).2.1).2.1).2.1)) > (wrap64 (t274 * (wrap64 (4 + (getF b (getF b (getF b 0).2.1).2.1).1)))) then (some (0, 0, 0, ([] : List (S44)), 5)) else (remoraref06_Read.l0 k b (getF b (getF b (getF b 0).2.1).2.1).2.1 t274 (getF b 0).1 (getF b (getF b 0).2.1).1 (getF b (getF b (getF b 0).2.1).2.1).1 ([] : List (S44)))))) else (some (0, 0, 0, ([] : List (S44)), t273)))) _
     generalize (getF b 0).1 = s at *
     generalize (getF b (getF b 0).2.1).1 = bl at *
     generalize (getF b (getF b (getF b 0).2.1).2.1).1 = n at *
     generalize (getF b (getF b (getF b 0).2.1).2.1).2.1 = p at *
     unfold readF.tailF
     refine Ev.bind (ev_some (head_of s bl n [])) ?_
     by_cases hf : Fr s bl n = 0
     ·rw [if_pos hf]
      have hn32 := (fr_ok hf).1
      obtain ⟨c1, c2, c3, c4⟩ := ct_bounds (fr_ok hf).2
      have hmul : 0 ≤ Ct s bl * (4 + n) ∧ Ct s bl * (4 + n) ≤ 8192 * 36 := ⟨Int.mul_nonneg c3 (by omega), Int.le_trans (Int.mul_le_mul_of_nonneg_right c4 (by omega)) (Int.mul_le_mul_of_nonneg_left (by omega) (by decide))⟩
      refine ev_pos hf (Ev.bind (refcount_ev s bl) ?_)
      rw [w64 (4 + n) (by omega) (by omega), w64 (Ct s bl * (4 + n)) (by omega) (by omega), w64 ((b.length : Int) - p) (by omega) (by omega)]
      by_cases l1 : (b.length : Int) - p < Ct s bl * (4 + n)
      ·rw [if_pos l1]
       exact ev_pos l1 (Ev.now _)
      ·rw [if_neg l1]
       refine ev_neg l1 ?_
       by_cases l2 : (b.length : Int) - p > Ct s bl * (4 + n)
       ·rw [if_pos l2]
        exact ev_pos l2 (Ev.now _)
       ·rw [if_neg l2]
        refine ev_neg l2 ?_
        obtain ⟨n', rfl⟩ : ∃ n' : Nat, n = (n' : Int) := ⟨n.toNat, by omega⟩
        obtain ⟨p', rfl⟩ : ∃ p' : Nat, p = (p' : Int) := ⟨p.toNat, by omega⟩
        obtain ⟨c', hc'⟩ : ∃ c' : Nat, Ct s bl = (c' : Int) := ⟨(Ct s bl).toNat, by omega⟩
        rw [hc'] at l1 l2 hmul c4 ⊢
        rw [Int.toNat_natCast, Int.toNat_natCast, Int.toNat_natCast]
        have e4 : (c' : Int) * (4 + (n' : Int)) = ((c' * (4 + n') : Nat) : Int) := by push_cast; rfl
        rw [e4] at l1 l2
        have := rread_loop b ob hbn n' (by omega) s bl c' (by omega) c' p' [] (by omega) (by simp)
        rw [List.nil_append] at this
        exact this
     ·rw [if_neg hf, fr_two hf]
      exact ev_neg (by decide) (Ev.now _)
    ·rw [if_neg h3, if_neg h3]
     exact ev_neg h3 (Ev.now _)
   ·rw [if_neg h2, if_neg h2]
    exact ev_neg h2 (Ev.now _)
  ·rw [if_neg h1, if_neg h1]
   exact ev_neg h1 (Ev.now _)
 ·rw [if_neg h0]
  exact ev_neg h0 (Ev.now _)
theorem SigReads : remoralaw06_SigReads.Pure := by
 intro l hl _
 refine Ev.rounds ?_
 unfold remoralaw06_SigReads.f
 have ha : Ev (fun k => (remoralaw06_awake.f k).bind fun t => some t) true := Ev.bind awake6 (Ev.now _)
 by_cases h1 : (l.length : Int) > 3000
 ·exact ev_pos h1 ha
 refine ev_neg h1 ?_
 have hb : Bytes l := fun x hx => byte_wf (hl.2 x hx)
 have hcb : Bytes (l ++ sb (cs l)) := bytes_app hb (sb_b (cs_lt _))
 have hcn : (l ++ sb (cs l)).length ≤ 1000000000 := by rw [List.length_append]; show _ + 4 ≤ _; omega
 have hs : ∀ x : List Int, Ev (fun k => remoraref06_Same.f k (readF x).1 (readF x).2.1 (readF x).2.2.1 (readF x).2.2.2.1 (readF x).1 (readF x).2.1 (readF x).2.2.1 (readF x).2.2.2.1) true := fun x => by
  have := rsame_of (readF x).1 (readF x).2.1 (readF x).2.2.1 (readF x).2.2.2.1 (readF x).1 (readF x).2.1 (readF x).2.2.1 (readF x).2.2.2.1 (by have := readF_len x; omega)
  rwa [smF_self] at this
 exact Ev.bind (sread_of l hb (by omega)) (Ev.bind (rread_of l hb (by omega)) (Ev.bind (ev_some (seal_of l hb (by omega))) (Ev.bind (sread_of _ hcb hcn) (Ev.bind (rread_of _ hcb hcn) (Ev.bind (hs l) (ev_pos rfl (ev_pos rfl (Ev.bind (hs _) (ev_pos rfl (ev_pos rfl ha))))))))))

end Go.Proofs.YtjhgeppjpofjpaaDoor.Pure
