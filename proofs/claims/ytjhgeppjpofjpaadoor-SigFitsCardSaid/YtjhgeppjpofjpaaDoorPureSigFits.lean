/- The program and the reference agree on whether a text is a block of a signature, as far as sums tell, for at most 60 marks and 5,000 bytes. Conditions: none. -/
import Derived.Test.YtjhgeppjpofjpaaDoorPSigFitsx13
namespace Go.Proofs.YtjhgeppjpofjpaaDoor.Pure
open Go.RowKit Go.Proofs.YtjhgeppjpofjpaaDoor.PSigFits Go.Proofs.YtjhgeppjpofjpaaDoorW.PrintWords Go.Proofs.YtjhgeppjpofjpaaDoorW.PrintLast Go.Proofs.YtjhgeppjpofjpaaDoorW.PrintMore
set_option maxRecDepth 100000
set_option linter.unusedVariables false
theorem w64 (n : Int) (h0 : -9223372036854775808 ≤ n) (h1 : n ≤ 9223372036854775807) : wrap64 n = n := by unfold wrap64; omega
/-- The length by cases. -/
def Ln (s : Int) : Int := if s ≤ 256 then 16 else if s ≤ 1024 then 32 else if s ≤ 4096 then 64 else if s ≤ 16384 then 128 else if s ≤ 65536 then 256 else if s ≤ 262144 then 512 else if s ≤ 1048576 then 1024 else if s ≤ 4194304 then 2048 else 4096
theorem length_of (s : Int) (m : Nat) : blocks_Length.f (m + 9) s = some (Ln s) := by
  have e1 : wrap64 (16 * 16) = 256 := by unfold wrap64; decide
  have e2 : wrap64 (32 * 32) = 1024 := by unfold wrap64; decide
  have e3 : wrap64 (64 * 64) = 4096 := by unfold wrap64; decide
  have e4 : wrap64 (128 * 128) = 16384 := by unfold wrap64; decide
  have e5 : wrap64 (256 * 256) = 65536 := by unfold wrap64; decide
  have e6 : wrap64 (512 * 512) = 262144 := by unfold wrap64; decide
  have e7 : wrap64 (1024 * 1024) = 1048576 := by unfold wrap64; decide
  have e8 : wrap64 (2048 * 2048) = 4194304 := by unfold wrap64; decide
  have d1 : wrap64 (16 * 2) = 32 := by unfold wrap64; decide
  have d2 : wrap64 (32 * 2) = 64 := by unfold wrap64; decide
  have d3 : wrap64 (64 * 2) = 128 := by unfold wrap64; decide
  have d4 : wrap64 (128 * 2) = 256 := by unfold wrap64; decide
  have d5 : wrap64 (256 * 2) = 512 := by unfold wrap64; decide
  have d6 : wrap64 (512 * 2) = 1024 := by unfold wrap64; decide
  have d7 : wrap64 (1024 * 2) = 2048 := by unfold wrap64; decide
  have d8 : wrap64 (2048 * 2) = 4096 := by unfold wrap64; decide
  unfold blocks_Length.f Ln
  by_cases c1 : s ≤ 256
  · rw [if_pos c1]; simp only [blocks_Length.l0]; rw [if_pos (by decide), e1, if_neg (by omega)]
  rw [if_neg c1]
  by_cases c2 : s ≤ 1024
  · rw [if_pos c2]; simp only [blocks_Length.l0]; rw [if_pos (by decide), e1, if_pos (by omega), d1, if_pos (by decide), e2, if_neg (by omega)]
  rw [if_neg c2]
  by_cases c3 : s ≤ 4096
  · rw [if_pos c3]; simp only [blocks_Length.l0]; rw [if_pos (by decide), e1, if_pos (by omega), d1, if_pos (by decide), e2, if_pos (by omega), d2, if_pos (by decide), e3, if_neg (by omega)]
  rw [if_neg c3]
  by_cases c4 : s ≤ 16384
  · rw [if_pos c4]; simp only [blocks_Length.l0]; rw [if_pos (by decide), e1, if_pos (by omega), d1, if_pos (by decide), e2, if_pos (by omega), d2, if_pos (by decide), e3, if_pos (by omega), d3, if_pos (by decide), e4, if_neg (by omega)]
  rw [if_neg c4]
  by_cases c5 : s ≤ 65536
  · rw [if_pos c5]; simp only [blocks_Length.l0]; rw [if_pos (by decide), e1, if_pos (by omega), d1, if_pos (by decide), e2, if_pos (by omega), d2, if_pos (by decide), e3, if_pos (by omega), d3, if_pos (by decide), e4, if_pos (by omega), d4, if_pos (by decide), e5, if_neg (by omega)]
  rw [if_neg c5]
  by_cases c6 : s ≤ 262144
  · rw [if_pos c6]; simp only [blocks_Length.l0]; rw [if_pos (by decide), e1, if_pos (by omega), d1, if_pos (by decide), e2, if_pos (by omega), d2, if_pos (by decide), e3, if_pos (by omega), d3, if_pos (by decide), e4, if_pos (by omega), d4, if_pos (by decide), e5, if_pos (by omega), d5, if_pos (by decide), e6, if_neg (by omega)]
  rw [if_neg c6]
  by_cases c7 : s ≤ 1048576
  · rw [if_pos c7]; simp only [blocks_Length.l0]; rw [if_pos (by decide), e1, if_pos (by omega), d1, if_pos (by decide), e2, if_pos (by omega), d2, if_pos (by decide), e3, if_pos (by omega), d3, if_pos (by decide), e4, if_pos (by omega), d4, if_pos (by decide), e5, if_pos (by omega), d5, if_pos (by decide), e6, if_pos (by omega), d6, if_pos (by decide), e7, if_neg (by omega)]
  rw [if_neg c7]
  by_cases c8 : s ≤ 4194304
  · rw [if_pos c8]; simp only [blocks_Length.l0]; rw [if_pos (by decide), e1, if_pos (by omega), d1, if_pos (by decide), e2, if_pos (by omega), d2, if_pos (by decide), e3, if_pos (by omega), d3, if_pos (by decide), e4, if_pos (by omega), d4, if_pos (by decide), e5, if_pos (by omega), d5, if_pos (by decide), e6, if_pos (by omega), d6, if_pos (by decide), e7, if_pos (by omega), d7, if_pos (by decide), e8, if_neg (by omega)]
  rw [if_neg c8]
  simp only [blocks_Length.l0]; rw [if_pos (by decide), e1, if_pos (by omega), d1, if_pos (by decide), e2, if_pos (by omega), d2, if_pos (by decide), e3, if_pos (by omega), d3, if_pos (by decide), e4, if_pos (by omega), d4, if_pos (by decide), e5, if_pos (by omega), d5, if_pos (by decide), e6, if_pos (by omega), d6, if_pos (by decide), e7, if_pos (by omega), d7, if_pos (by decide), e8, if_pos (by omega), d8, if_neg (by decide)]
def Rg (s b : Int) : Bool := decide (0 ≤ s ∧ s ≤ 131072 ∧ 16 ≤ b ∧ b ≤ 4096)
theorem right_of (s b : Int) : blocks_Right.f s b = some (Rg s b) := by
  unfold blocks_Right.f blocks_block.f Rg
  by_cases h1 : s ≥ 0
  · rw [if_pos h1]
    by_cases h2 : s ≤ 131072
    · rw [if_pos h2]
      by_cases h3 : b ≥ 16
      · rw [if_pos h3]; exact congrArg some (decide_eq_decide.2 (by omega))
      · rw [if_neg h3]; exact congrArg some (decide_eq_false (by omega)).symm
    · rw [if_neg h2]; exact congrArg some (decide_eq_false (by omega)).symm
  · rw [if_neg h1]; exact congrArg some (decide_eq_false (by omega)).symm
theorem rg_true {s b : Int} (h : Rg s b = true) : 0 ≤ s ∧ s ≤ 131072 ∧ 16 ≤ b ∧ b ≤ 4096 := of_decide_eq_true h
theorem rg_mk {s b : Int} (h : 0 ≤ s ∧ s ≤ 131072 ∧ 16 ≤ b ∧ b ≤ 4096) : Rg s b = true := decide_eq_true h
/-- How many blocks. -/
def Ct (s b : Int) : Int := if Rg s b = true then (s + b - 1) / b else 0
theorem ct_bounds {s b : Int} (h : Rg s b = true) : Ct s b * b ≤ s + b - 1 ∧ s ≤ Ct s b * b ∧ 0 ≤ Ct s b ∧ Ct s b ≤ 8192 := by
  obtain ⟨h1, h2, h3, h4⟩ := rg_true h
  unfold Ct; rw [if_pos h]
  have a := Int.ediv_mul_le (s + b - 1) (b := b) (by omega)
  have c := Int.lt_ediv_add_one_mul_self (s + b - 1) (b := b) (by omega)
  have d : 0 ≤ (s + b - 1) / b := Int.ediv_nonneg (by omega) (by omega)
  have e : (s + b - 1) / b < 8193 := Int.ediv_lt_of_lt_mul (by omega) (by omega)
  rw [Int.add_mul] at c
  exact ⟨a, by omega, d, by omega⟩
theorem count_of (s b : Int) : blocks_Count.f s b = some (Ct s b) := by
  unfold blocks_Count.f
  rw [right_of]; simp only [Option.bind_some]
  by_cases h : Rg s b = true
  · obtain ⟨h1, h2, h3, h4⟩ := rg_true h
    have hb := ct_bounds h
    unfold Ct at hb ⊢
    rw [if_pos h] at hb
    rw [if_pos h, if_pos h, if_neg (by omega), w64 (s + b) (by omega) (by omega), w64 (s + b - 1) (by omega) (by omega), Int.tdiv_eq_ediv_of_nonneg (by omega), w64 _ (by omega) (by omega)]
  · unfold Ct; rw [if_neg h, if_neg h]
theorem mul_bounds {i b : Int} (h0 : 0 ≤ i) (h1 : i ≤ 8192) (h2 : 16 ≤ b) (h3 : b ≤ 4096) : 0 ≤ i * b ∧ i * b ≤ 8192 * 4096 :=
  ⟨Int.mul_nonneg h0 (by omega), Int.mul_le_mul h1 h3 (by omega) (by omega)⟩
theorem range_no {s b i : Int} (h : i < 0 ∨ Ct s b ≤ i) : blocks_Range.f s b i = some (0, 0, false) := by
  unfold blocks_Range.f
  by_cases h0 : i < 0
  · rw [if_pos h0]
  · rw [if_neg h0, count_of]; simp only [Option.bind_some]; rw [if_pos (by omega)]
theorem ct_right {s b i : Int} (h0 : 0 ≤ i) (h : i < Ct s b) : Rg s b = true := by
  by_cases hr : Rg s b = true
  · exact hr
  · unfold Ct at h; rw [if_neg hr] at h; omega
theorem range_yes {s b i : Int} (h0 : 0 ≤ i) (h : i < Ct s b) : blocks_Range.f s b i = some (i * b, mn s ((i + 1) * b), true) := by
  have hr := ct_right h0 h
  obtain ⟨h1, h2, h3, h4⟩ := rg_true hr
  have hb := ct_bounds hr
  have m1 := mul_bounds (i := i) (b := b) h0 (by omega) h3 h4
  have m2 := mul_bounds (i := i + 1) (b := b) (by omega) (by omega) h3 h4
  unfold blocks_Range.f
  rw [if_neg (by omega), count_of]; simp only [Option.bind_some]
  rw [if_neg (by omega), w64 (i * b) (by omega) (by omega), w64 (i + 1) (by omega) (by omega), w64 ((i + 1) * b) (by omega) (by omega)]
/-- The bytes of a number: seven bits each, the lowest first. -/
def nb (n : Nat) : List Int := if n < 128 then [(n : Int)] else ((128 + n % 128 : Nat) : Int) :: nb (n / 128)
termination_by n
decreasing_by omega
theorem nb_small {n : Nat} (h : n < 128) : nb n = [(n : Int)] := by rw [nb, if_pos h]
theorem nb_more {n : Nat} (h : ¬ n < 128) : nb n = ((128 + n % 128 : Nat) : Int) :: nb (n / 128) := by rw [nb, if_neg h]
theorem nb_pos (n : Nat) : 1 ≤ (nb n).length := by
  by_cases h : n < 128
  · rw [nb_small h]; exact Nat.le_refl _
  · rw [nb_more h]; simp
theorem nb_len (m : Nat) : ∀ n : Nat, n < 128 ^ m → 0 < m → (nb n).length ≤ m := by
  induction m with
  | zero => intro n h h0; omega
  | succ m ih =>
    intro n h _
    by_cases hs : n < 128
    · rw [nb_small hs]; simp
    · rw [nb_more hs, List.length_cons]
      have hm : 0 < m := by
        rcases Nat.eq_zero_or_pos m with rfl | hm
        · simp at h; omega
        · exact hm
      have := ih (n / 128) (by rw [Nat.div_lt_iff_lt_mul (by decide), ← Nat.pow_succ]; exact h) hm
      omega
theorem nb_nine {n : Nat} (h : n ≤ 4611686018427387903) : (nb n).length ≤ 9 := nb_len 9 n (by omega) (by decide)
theorem nb_bytes (n : Nat) : ∀ x ∈ nb n, 0 ≤ x ∧ x ≤ 255 := by
  induction n using Nat.strongRecOn with
  | _ n ih =>
    by_cases h : n < 128
    · rw [nb_small h]; intro x hx; obtain rfl := List.mem_singleton.1 hx; omega
    · rw [nb_more h]
      intro x hx
      rcases List.mem_cons.1 hx with rfl | hx
      · omega
      · exact ih (n / 128) (by omega) x hx
/-- A number within what may be put. -/
def cl (a : Int) : Nat := (mn (mx a 0) 4611686018427387903).toNat
theorem cl_le (a : Int) : cl a ≤ 4611686018427387903 := by unfold cl mn mx; split <;> split <;> omega
theorem cl_eq (a : Int) : mn (mx a 0) 4611686018427387903 = (cl a : Int) := by unfold cl mn mx; split <;> split <;> omega
theorem cl_of {a : Int} (h0 : 0 ≤ a) (h : a ≤ 4611686018427387903) : (cl a : Int) = a := by unfold cl mn mx; split <;> split <;> omega
theorem ev_pos {α : Type} {c : Prop} [Decidable c] (h : c) {f g : Nat → Option α} {r : α} (k : Ev f r) : Ev (fun k => if c then f k else g k) r := Ev.congr (fun _ => if_pos h) k
theorem ev_neg {α : Type} {c : Prop} [Decidable c] (h : ¬ c) {f g : Nat → Option α} {r : α} (k : Ev g r) : Ev (fun k => if c then f k else g k) r := Ev.congr (fun _ => if_neg h) k
theorem ev_some {α : Type} {o : Option α} {r : α} (h : o = some r) : Ev (fun _ => o) r := by subst h; exact Ev.now _
theorem size_loop (d : Nat) : ∀ (n : Nat) (s : Int), (nb n).length ≤ d → n ≤ 4611686018427387903 → 0 ≤ s → s + (d : Int) ≤ 1000 → Ev (fun k => num_Size.l0 k n s) (s + ((nb n).length : Int) - 1) := by
  induction d with
  | zero => intro n s h; have := nb_pos n; omega
  | succ d ih =>
    intro n s h hn h0 h1
    by_cases hs : n < 128
    · refine Ev.step (f := fun _ => some s) (fun k => ?_) ?_
      · simp only [num_Size.l0]; rw [if_neg (by omega)]
      · rw [nb_small hs]
        have e : s + (([(n : Int)] : List Int).length : Int) - 1 = s := by simp
        rw [e]; exact Ev.now _
    · have e1 : wrap64 (s + 1) = s + 1 := by unfold wrap64; omega
      have hl : (nb n).length = (nb (n / 128)).length + 1 := by rw [nb_more hs, List.length_cons]
      refine Ev.step (f := fun k => num_Size.l0 k ((n / 128 : Nat) : Int) (s + 1)) (fun k => ?_) ?_
      · simp only [num_Size.l0]; rw [if_pos (by omega), e1]; rfl
      · have := ih (n / 128) (s + 1) (by omega) (by omega) (by omega) (by omega)
        rw [hl]
        rw [show s + (((nb (n / 128)).length + 1 : Nat) : Int) - 1 = s + 1 + ((nb (n / 128)).length : Int) - 1 by omega]
        exact this
theorem size_of (a : Int) : Ev (fun k => num_Size.f k (mn (mx a 0) 4611686018427387903)) ((nb (cl a)).length : Int) := by
  unfold num_Size.f
  have e : mn (mx (cl a : Int) 0) 4611686018427387903 = (cl a : Int) := by have := cl_le a; unfold mn mx; split <;> split <;> omega
  rw [cl_eq a, e]
  have := size_loop (nb (cl a)).length (cl a) 1 (Nat.le_refl _) (cl_le a) (by decide) (by have := nb_nine (cl_le a); omega)
  rwa [show (1 : Int) + ((nb (cl a)).length : Int) - 1 = ((nb (cl a)).length : Int) by omega] at this
theorem wrap62 (n : Int) (h0 : 0 ≤ n) (h1 : n < 2 ^ 62) : IntKind.i64.wrap n = n := by rw [IntKind.wrap_i64]; omega
theorem low7 {n : Nat} (h : n ≤ 4611686018427387903) : (Go.bits .or .i64 (Go.bits .and .i64 (n : Int) 127) 128) % 256 = ((128 + n % 128 : Nat) : Int) := by
  have h1 : Go.bits .and .i64 (n : Int) 127 = (n : Int) % 128 := bits_mask .i64 62 (by decide) wrap62 7 (by decide) n (by omega) (by omega)
  have e : (n : Int) % 128 = ((n % 128 : Nat) : Int) := by omega
  have h2 := (bits_nat .i64 62 (by decide) wrap62 (n % 128) 128 (by omega) (by decide)).2
  have h3 : n % 128 ||| 128 = 128 + n % 128 := by
    rw [Nat.or_comm]
    have := Nat.two_pow_add_eq_or_of_lt (i := 7) (b := n % 128) (by omega) 1
    rw [Nat.mul_one] at this
    exact this.symm
  rw [h1, e, show (128 : Int) = ((128 : Nat) : Int) from rfl, h2, h3]
  omega
theorem putN_loop (m : Nat) (hm : m ≤ 9) (d : Nat) : ∀ (i n : Nat) (l : List Int), (nb n).length = d + 1 → i + d = m → n ≤ 4611686018427387903 → l.length ≤ 2000000000 + i → Ev (fun k => num_Put.l0 k n l (m : Int) (i : Int)) (l ++ nb n) := by
  induction d with
  | zero =>
    intro i n l hd hi hn hl
    have hs : n < 128 := by
      by_cases hs : n < 128
      · exact hs
      · rw [nb_more hs, List.length_cons] at hd
        have := nb_pos (n / 128)
        omega
    rw [nb_small hs]
    refine Ev.step (f := fun _ => some (l ++ [(n : Int)])) (fun k => ?_) (Ev.now _)
    simp only [num_Put.l0]
    rw [if_neg (by omega), if_pos (by omega), show (n : Int) % 256 = (n : Int) by omega]
  | succ d ih =>
    intro i n l hd hi hn hl
    have hs : ¬ n < 128 := by
      intro hs
      rw [nb_small hs] at hd
      simp at hd
    rw [nb_more hs] at hd ⊢
    have hd' : (nb (n / 128)).length = d + 1 := by rw [List.length_cons] at hd; omega
    have e1 : wrap64 ((i : Int) + 1) = ((i + 1 : Nat) : Int) := by unfold wrap64; omega
    refine Ev.step (f := fun k => num_Put.l0 k ((n / 128 : Nat) : Int) (l ++ [((128 + n % 128 : Nat) : Int)]) (m : Int) ((i + 1 : Nat) : Int)) (fun k => ?_) ?_
    · simp only [num_Put.l0]
      rw [if_pos (by omega), if_pos (by omega), low7 hn, e1]
      rfl
    · have := ih (i + 1) (n / 128) (l ++ [((128 + n % 128 : Nat) : Int)]) hd' (by omega) (by omega) (by rw [List.length_append]; simp; omega)
      rwa [List.append_assoc, List.singleton_append] at this
theorem put_of (l : List Int) (a : Int) (hl : l.length ≤ 2000000000) : Ev (fun k => num_Put.f k l a) (l ++ nb (cl a)) := by
  unfold num_Put.f
  refine Ev.bind (size_of a) ?_
  have h9 := nb_nine (cl_le a)
  have h1 := nb_pos (cl a)
  have e1 : wrap64 ((l.length : Int) + ((nb (cl a)).length : Int)) = (l.length : Int) + ((nb (cl a)).length : Int) := by unfold wrap64; omega
  have e2 : wrap64 (((nb (cl a)).length : Int) - 1) = (((nb (cl a)).length - 1 : Nat) : Int) := by unfold wrap64; omega
  rw [e1]
  refine ev_pos (by omega) (ev_pos (by omega) ?_)
  simp only [Option.bind_some, List.replicate_zero, List.nil_append, List.length_nil, Nat.zero_add]
  refine ev_pos (by omega) (Ev.bind (size_of a) ?_)
  rw [e2, cl_eq]
  exact putN_loop ((nb (cl a)).length - 1) (by omega) ((nb (cl a)).length - 1) 0 (cl a) l (by omega) (by omega) (cl_le a) (by omega)
def Bytes (l : List Int) : Prop := ∀ x ∈ l, 0 ≤ x ∧ x ≤ 255
/-- One bit falls out. -/
def st1 (x : Nat) : Nat := (x >>> 1) ^^^ (if x % 2 = 1 then 3988292384 else 0)
def stN : Nat → Nat → Nat
  | 0, x => x
  | d + 1, x => stN d (st1 x)
theorem st1_lt {x : Nat} (h : x < 4294967296) : st1 x < 4294967296 := by
  unfold st1
  have h1 : x >>> 1 < 2 ^ 32 := by rw [Nat.shiftRight_eq_div_pow]; omega
  refine Nat.xor_lt_two_pow h1 ?_
  split <;> decide
theorem stN_lt (d : Nat) : ∀ {x : Nat}, x < 4294967296 → stN d x < 4294967296 := by
  induction d with
  | zero => intro x h; exact h
  | succ d ih => intro x h; exact ih (st1_lt h)
theorem xor_lc (a b c : Nat) : a ^^^ (b ^^^ c) = b ^^^ (a ^^^ c) := by rw [← Nat.xor_assoc, Nat.xor_comm a b, Nat.xor_assoc]
theorem st1_xor (a b : Nat) : st1 (a ^^^ b) = st1 a ^^^ st1 b := by
  unfold st1
  rw [Nat.shiftRight_xor_distrib]
  have hm : (a ^^^ b) % 2 = (a % 2) ^^^ (b % 2) := by have := Nat.xor_mod_two_pow (a := a) (b := b) (n := 1); simpa using this
  rw [hm]
  rcases Nat.mod_two_eq_zero_or_one a with ha | ha <;> rcases Nat.mod_two_eq_zero_or_one b with hb | hb
  · rw [ha, hb]; simp
  · rw [ha, hb]; simp [Nat.xor_assoc]
  · rw [ha, hb]
    rw [if_pos (by decide), if_pos rfl, if_neg (by decide), Nat.xor_zero, Nat.xor_assoc, Nat.xor_assoc, Nat.xor_comm (b >>> 1)]
  · rw [ha, hb]
    rw [if_neg (by decide), if_pos rfl, Nat.xor_zero, Nat.xor_assoc, xor_lc 3988292384 (b >>> 1), Nat.xor_self, Nat.xor_zero]
theorem stN_xor (d : Nat) : ∀ a b : Nat, stN d (a ^^^ b) = stN d a ^^^ stN d b := by
  induction d with
  | zero => intro a b; rfl
  | succ d ih => intro a b; show stN d (st1 (a ^^^ b)) = _; rw [st1_xor, ih]; rfl
theorem st1_even (q : Nat) : st1 (2 * q) = q := by
  unfold st1
  rw [Nat.shiftRight_eq_div_pow, if_neg (by omega)]
  simp
theorem st4_high (q : Nat) : stN 4 (16 * q) = q := by
  show st1 (st1 (st1 (st1 (16 * q)))) = q
  rw [show 16 * q = 2 * (8 * q) by omega, st1_even, show 8 * q = 2 * (4 * q) by omega, st1_even, show 4 * q = 2 * (2 * q) by omega, st1_even, st1_even]
theorem st4_parts (x : Nat) : stN 4 x = (x / 16) ^^^ stN 4 (x % 16) := by
  have e : x = (16 * (x / 16)) ^^^ (x % 16) := by
    have h := Nat.two_pow_add_eq_or_of_lt (i := 4) (b := x % 16) (by omega) (x / 16)
    have hx : (16 * (x / 16)) ^^^ (x % 16) = 16 * (x / 16) ||| x % 16 := by
      apply Nat.eq_of_testBit_eq
      intro i
      rw [Nat.testBit_xor, Nat.testBit_or]
      by_cases hi : i < 4
      · have : (16 * (x / 16)).testBit i = false := by
          rw [show 16 * (x / 16) = 2 ^ 4 * (x / 16) by omega, Nat.testBit_two_pow_mul]
          simp; omega
        rw [this]; simp
      · have : (x % 16).testBit i = false := Nat.testBit_lt_two_pow (Nat.lt_of_lt_of_le (show x % 16 < 2 ^ 4 by omega) (Nat.pow_le_pow_right (by decide) (by omega)))
        rw [this]; simp
    rw [hx]
    have : (2 ^ 4 : Nat) * (x / 16) = 16 * (x / 16) := by omega
    rw [← this, ← h]
    omega
  conv => lhs; rw [e]
  rw [stN_xor, st4_high]
theorem tab_of : ∀ r : Nat, r < 16 → tab_table[r]? = some ((stN 4 r : Nat) : Int) := by decide
theorem xor_nat {a b : Nat} (ha : a < 4294967296) (hb : b < 4294967296) : Go.bits .xor .u32 (a : Int) (b : Int) = ((a ^^^ b : Nat) : Int) := by
  have h := Nat.xor_lt_two_pow (n := 32) ha hb
  unfold Go.bits
  simp only [BitVec.ofInt_natCast, BitVec.toNat_xor, BitVec.toNat_ofNat]
  rw [IntKind.wrap_u32, show IntKind.u32.bits = 32 from rfl, Nat.mod_eq_of_lt ha, Nat.mod_eq_of_lt hb]
  omega
theorem and15 {a : Nat} (ha : a < 4294967296) : Go.bits .and .u32 (a : Int) 15 = ((a % 16 : Nat) : Int) := by
  have := bits_mask .u32 32 (by decide) (fun n h0 h1 => by rw [IntKind.wrap_u32]; omega) 4 (by decide) (a : Int) (by omega) (by omega)
  rw [show (15 : Int) = 2 ^ 4 - 1 by decide, this]
  omega
theorem half_of {a : Nat} (ha : a < 4294967296) : crcHalf (a : Int) = ((stN 4 a : Nat) : Int) := by
  unfold crcHalf
  rw [and15 ha, Int.toNat_natCast, tab_of _ (Nat.mod_lt _ (by decide)), Option.getD_some, st4_parts a]
  rw [show (a : Int) / 16 = ((a / 16 : Nat) : Int) from rfl]
  exact xor_nat (by omega) (stN_lt 4 (by omega))
/-- The register behind a byte. -/
def cb (x c : Nat) : Nat := stN 8 (x ^^^ c)
theorem cb_lt {x c : Nat} (hx : x < 4294967296) (hc : c < 4294967296) : cb x c < 4294967296 := stN_lt 8 (Nat.xor_lt_two_pow (n := 32) hx hc)
theorem byte_of {x c : Nat} (hx : x < 4294967296) (hc : c < 4294967296) : crcByte (x : Int) (c : Int) = ((cb x c : Nat) : Int) := by
  unfold crcByte
  rw [show (c : Int) % 4294967296 = (c : Int) by omega, xor_nat hx hc]
  have h := Nat.xor_lt_two_pow (n := 32) hx hc
  rw [half_of h, half_of (stN_lt 4 h)]
  rfl
/-- The register behind bytes. -/
def cr (x : Nat) (l : List Int) : Nat := l.foldl (fun x c => cb x c.toNat) x
theorem cr_lt (l : List Int) (hl : Bytes l) : ∀ {x : Nat}, x < 4294967296 → cr x l < 4294967296 := by
  induction l with
  | nil => intro x hx; exact hx
  | cons c l ih =>
    intro x hx
    have := hl c List.mem_cons_self
    exact ih (fun y hy => hl y (List.mem_cons_of_mem _ hy)) (cb_lt hx (by omega))
theorem row_of (l : List Int) (hl : Bytes l) : ∀ {x : Nat}, x < 4294967296 → crcRow (x : Int) l = ((cr x l : Nat) : Int) := by
  induction l with
  | nil => intro x hx; rfl
  | cons c l ih =>
    intro x hx
    have hc := hl c List.mem_cons_self
    have e : c = ((c.toNat : Nat) : Int) := by omega
    show crcRow (crcByte (x : Int) c) l = _
    rw [e, byte_of hx (by omega)]
    exact ih (fun y hy => hl y (List.mem_cons_of_mem _ hy)) (cb_lt hx (by omega))
/-- A text's sum. -/
def cs (l : List Int) : Nat := 4294967295 - cr 4294967295 l
theorem cs_lt (l : List Int) : cs l < 4294967296 := by unfold cs; omega
theorem not_xor {a : Nat} (ha : a < 4294967296) : 4294967295 ^^^ a = 4294967295 - a := by
  have h1 : (BitVec.ofNat 32 a ^^^ BitVec.allOnes 32).toNat = (~~~ BitVec.ofNat 32 a).toNat := by rw [BitVec.xor_allOnes]
  rw [BitVec.toNat_xor, BitVec.toNat_not, BitVec.toNat_ofNat, BitVec.toNat_allOnes, Nat.mod_eq_of_lt ha] at h1
  rw [Nat.xor_comm]
  omega
theorem of_one (l : List Int) (hl : Bytes l) : crc_Of.f [l] = some ((cs l : Nat) : Int) := by
  unfold crc_Of.f cs
  show some (Go.bits .xor .u32 4294967295 (crcRow ((4294967295 : Nat) : Int) l)) = _
  have h := cr_lt l hl (x := 4294967295) (by decide)
  rw [row_of l hl (by decide), show (4294967295 : Int) = ((4294967295 : Nat) : Int) from rfl, xor_nat (by decide) h, not_xor h]
/-- A sum's bytes. -/
def sb (n : Nat) : List Int := [((n % 256 : Nat) : Int), ((n / 256 % 256 : Nat) : Int), ((n / 65536 % 256 : Nat) : Int), ((n / 16777216 : Nat) : Int)]
theorem seal4_of (l : List Int) (hl : Bytes l) : crc_seal.f l = some (((cs l % 256 : Nat) : Int), ((cs l / 256 % 256 : Nat) : Int), ((cs l / 65536 % 256 : Nat) : Int), ((cs l / 16777216 : Nat) : Int)) := by
  unfold crc_seal.f
  rw [of_one l hl]
  rfl
theorem seal_of (l : List Int) (hl : Bytes l) (hn : l.length ≤ 1000000000) : crc_Seal.f l = some (l ++ sb (cs l)) := by
  unfold crc_Seal.f
  rw [seal4_of l hl, Option.bind_some, if_pos hn]
  rfl
theorem inc6 {i n : Nat} (h : i < n) (hn : n ≤ 4000000000000) : wrap64 ((i : Int) + 1) = ((i + 1 : Nat) : Int) := by unfold wrap64; omega
theorem ev_must {α : Type} {c : Prop} [Decidable c] (h : c) {f : Nat → Option α} {r : α} (k : Ev f r) : Ev (fun k => if c then f k else none) r := ev_pos h k
theorem rd44 {l : List S44} {i : Nat} (h : i < l.length) : rd_T44 l (i : Int) = l[i] := by
  unfold rd_T44
  rw [Int.toNat_natCast, List.getD_eq_getElem?_getD, List.getElem?_eq_getElem h, Option.getD_some]
theorem step44 {l : List S44} {i : Nat} (h : i < l.length) : l.drop i = rd_T44 l (i : Int) :: l.drop (i + 1) := by
  rw [rd44 h]
  exact List.drop_eq_getElem_cons h
theorem str_all (s : ByteArray) : Bytes (bytesOf s) := by
  intro x hx
  unfold bytesOf at hx
  obtain ⟨b, _, rfl⟩ := List.mem_map.1 hx
  have := b.toNat_lt
  omega
theorem nb_b (n : Nat) : Bytes (nb n) := nb_bytes n
theorem bytes_app {a b : List Int} (ha : Bytes a) (hb : Bytes b) : Bytes (a ++ b) := fun x hx => by
  rcases List.mem_append.1 hx with h | h
  · exact ha x h
  · exact hb x h
/-- What is wrong with a signature's numbers. -/
def Fr (s b n : Int) : Int := if (1 ≤ n ∧ n ≤ 32) ∧ Rg s b = true then 0 else 2
theorem fr_ok {s b n : Int} (h : Fr s b n = 0) : (1 ≤ n ∧ n ≤ 32) ∧ Rg s b = true := by
  unfold Fr at h
  by_cases h1 : (1 ≤ n ∧ n ≤ 32) ∧ Rg s b = true
  · exact h1
  · rw [if_neg h1] at h; omega
theorem fr_mk {s b n : Int} (h : (1 ≤ n ∧ n ≤ 32) ∧ Rg s b = true) : Fr s b n = 0 := if_pos h
theorem fr_two {s b n : Int} (h : ¬ Fr s b n = 0) : Fr s b n = 2 := by
  unfold Fr at h ⊢
  by_cases h1 : (1 ≤ n ∧ n ≤ 32) ∧ Rg s b = true
  · rw [if_pos h1] at h; omega
  · rw [if_neg h1]
theorem strong_of (n : Int) : sig_strong.f n = some (decide (1 ≤ n ∧ n ≤ 32)) := by
  unfold sig_strong.f
  by_cases h : n ≥ 1
  · rw [if_pos h]; congr 1; by_cases h2 : n ≤ 32
    · rw [decide_eq_true h2, decide_eq_true ⟨h, h2⟩]
    · rw [decide_eq_false h2, decide_eq_false (fun h3 => h2 h3.2)]
  · rw [if_neg h, decide_eq_false (fun h3 => h h3.1)]
theorem front_of (s b n : Int) (l : List S44) : sig_front.f s b n l = some (Fr s b n) := by
  unfold sig_front.f Fr
  rw [strong_of, Option.bind_some]
  by_cases h : 1 ≤ n ∧ n ≤ 32
  · rw [decide_eq_true h, if_pos rfl, right_of, Option.bind_some]
    by_cases h2 : Rg s b = true
    · rw [if_pos h2, if_pos ⟨h, h2⟩]
    · rw [if_neg h2, if_neg (fun h3 => h2 h3.2)]
  · rw [decide_eq_false h, if_neg (by decide), if_neg (fun h3 => h h3.1)]
/-- What is wrong with a signature. -/
def Ck (s b n : Int) (l : List S44) : Int := if Fr s b n = 0 then (if (l.length : Int) = Ct s b then (if anyOff n l 0 = true then 5 else 0) else 5) else 2
theorem check_of (s b n : Int) (l : List S44) : sig_Check.f s b n l = some (Ck s b n l) := by
  unfold sig_Check.f Ck
  rw [front_of, Option.bind_some]
  by_cases h : Fr s b n = 0
  · rw [if_pos h, if_pos h, count_of, Option.bind_some]
    by_cases h2 : (l.length : Int) = Ct s b
    · rw [if_pos h2, if_pos h2, if_pos (by have := (ct_bounds (fr_ok h).2).2.2.2; omega)]
      by_cases h3 : anyOff n l 0 = true
      · rw [if_pos h3, if_pos h3]
      · rw [if_neg h3, if_neg h3]
    · rw [if_neg h2, if_neg h2]
  · rw [if_neg h, if_neg h, fr_two h]
theorem ck_ok {s b n : Int} {l : List S44} (h : Ck s b n l = 0) : Fr s b n = 0 ∧ (l.length : Int) = Ct s b ∧ anyOff n l 0 = false := by
  unfold Ck at h
  by_cases h1 : Fr s b n = 0
  · rw [if_pos h1] at h
    by_cases h2 : (l.length : Int) = Ct s b
    · rw [if_pos h2] at h
      by_cases h3 : anyOff n l 0 = true
      · rw [if_pos h3] at h; omega
      · exact ⟨h1, h2, by simpa using h3⟩
    · rw [if_neg h2] at h; omega
  · rw [if_neg h1] at h; omega
theorem ck_mk {s b n : Int} {l : List S44} (h1 : Fr s b n = 0) (h2 : (l.length : Int) = Ct s b) (h3 : ∀ m ∈ l, (m.f1.size : Int) = n) : Ck s b n l = 0 := by
  unfold Ck
  rw [if_pos h1, if_pos h2, if_neg]
  unfold anyOff
  rw [List.drop_zero, Bool.not_eq_true, List.any_eq_false]
  intro m hm
  have := h3 m hm
  simp [this]
theorem any_not {n : Int} {l : List S44} (h : anyOff n l 0 = false) : ∀ m ∈ l, (m.f1.size : Int) = n := by
  intro m hm
  unfold anyOff at h
  rw [List.drop_zero, List.any_eq_false] at h
  have := h m hm
  simpa using this
/-- A signature's numbers as bytes. -/
def hd3 (s b n : Int) : List Int := nb (cl s) ++ nb (cl b) ++ nb (cl n)
theorem hd3_b (s b n : Int) : Bytes (hd3 s b n) := bytes_app (bytes_app (nb_b _) (nb_b _)) (nb_b _)
theorem hd3_len (s b n : Int) : (hd3 s b n).length ≤ 27 := by
  unfold hd3
  rw [List.length_append, List.length_append]
  have h1 := nb_nine (cl_le s)
  have h2 := nb_nine (cl_le b)
  have h3 := nb_nine (cl_le n)
  omega
theorem numbers_of (s b n : Int) : Ev (fun k => sig_numbers.f k [s, b, n]) (hd3 s b n) := by
  have h1 := nb_nine (cl_le s)
  have h2 := nb_nine (cl_le b)
  have h3 := nb_nine (cl_le n)
  unfold sig_numbers.f hd3
  show Ev (fun k => sig_numbers.l0 k [] [s, b, n] 3 0) _
  have r0 : rd [s, b, n] 0 = s := rfl
  have r1 : rd [s, b, n] 1 = b := rfl
  have r2 : rd [s, b, n] 2 = n := rfl
  have e1 : wrap64 (0 + 1) = 1 := w64 _ (by decide) (by decide)
  have e2 : wrap64 (1 + 1) = 2 := w64 _ (by decide) (by decide)
  have e3 : wrap64 (2 + 1) = 3 := w64 _ (by decide) (by decide)
  refine Ev.step (f := fun k => (num_Put.f k [] s).bind fun t => sig_numbers.l0 k t [s, b, n] 3 1) (fun k => ?_) ?_
  · simp only [sig_numbers.l0]
    rw [if_pos (show (0 : Int) < 3 by decide), if_pos (show (0 : Int) ≤ 0 by decide), if_pos (show (0 : Int) < (([s, b, n] : List Int).length : Int) by simp), r0, e1]
  refine Ev.bind (put_of [] s (by simp)) ?_
  rw [List.nil_append]
  refine Ev.step (f := fun k => (num_Put.f k (nb (cl s)) b).bind fun t => sig_numbers.l0 k t [s, b, n] 3 2) (fun k => ?_) ?_
  · simp only [sig_numbers.l0]
    rw [if_pos (show (1 : Int) < 3 by decide), if_pos (show (0 : Int) ≤ 1 by decide), if_pos (show (1 : Int) < (([s, b, n] : List Int).length : Int) by simp), r1, e2]
  refine Ev.bind (put_of _ b (by omega)) ?_
  refine Ev.step (f := fun k => (num_Put.f k (nb (cl s) ++ nb (cl b)) n).bind fun t => sig_numbers.l0 k t [s, b, n] 3 3) (fun k => ?_) ?_
  · simp only [sig_numbers.l0]
    rw [if_pos (show (2 : Int) < 3 by decide), if_pos (show (0 : Int) ≤ 2 by decide), if_pos (show (2 : Int) < (([s, b, n] : List Int).length : Int) by simp), r2, e3]
  refine Ev.bind (put_of _ n (by rw [List.length_append]; omega)) ?_
  refine Ev.step (f := fun _ => some (nb (cl s) ++ nb (cl b) ++ nb (cl n))) (fun k => ?_) (Ev.now _)
  simp only [sig_numbers.l0]
  rw [if_neg (by decide)]
/-- The bytes of a rolling sum. -/
def w4 (x : Int) : List Int := [x % 256, (x / 256) % 256, (x / 65536) % 256, (x / 16777216) % 256]
theorem w4_b (x : Int) : Bytes (w4 x) := by
  intro y hy
  simp only [w4, List.mem_cons, List.not_mem_nil, or_false] at hy
  omega
def mB (m : S44) : List Int := w4 m.f0 ++ bytesOf m.f1
def mBs : List S44 → List Int
  | [] => []
  | m :: l => mB m ++ mBs l
theorem mB_b (m : S44) : Bytes (mB m) := bytes_app (w4_b _) (str_all _)
theorem mB_len (m : S44) : (mB m).length = 4 + m.f1.size := by
  unfold mB
  rw [List.length_append, bytesOf_length]
  rfl
theorem mBs_b : ∀ l : List S44, Bytes (mBs l)
  | [] => fun x hx => absurd hx List.not_mem_nil
  | m :: l => bytes_app (mB_b m) (mBs_b l)
theorem k8 : wrap64 (8 * 0) = 0 ∧ wrap64 (8 * 1) = 8 ∧ wrap64 (8 * 2) = 16 ∧ wrap64 (8 * 3) = 24 ∧ wrap64 (0 + 1) = 1 ∧ wrap64 (1 + 1) = 2 ∧ wrap64 (2 + 1) = 3 ∧ wrap64 (3 + 1) = 4 := ⟨w64 _ (by decide) (by decide), w64 _ (by decide) (by decide), w64 _ (by decide) (by decide), w64 _ (by decide) (by decide), w64 _ (by decide) (by decide), w64 _ (by decide) (by decide), w64 _ (by decide) (by decide), w64 _ (by decide) (by decide)⟩
theorem shr_at (x : Int) : (shr .u32 x 0) % 256 = x % 256 ∧ (shr .u32 x 8) % 256 = (x / 256) % 256 ∧ (shr .u32 x 16) % 256 = (x / 65536) % 256 ∧ (shr .u32 x 24) % 256 = (x / 16777216) % 256 := by
  refine ⟨?_, rfl, rfl, rfl⟩
  show (x / 2 ^ 0) % 256 = _
  rw [show (2 : Int) ^ 0 = 1 from rfl, Int.ediv_one]
theorem weak_bytes (x : List Int) (l : List S44) (c i w : Int) (st : ByteArray) (r : List Int × Int) (hx : x.length ≤ 1000000000) (hs : st.size ≤ 1000000000) (h : Ev (fun k => sig_Bytes.l0 k (x ++ (w4 w ++ bytesOf st)) l c (wrap64 (i + 1))) r) :
    Ev (fun k => sig_Bytes.l1 k x l c i 0 w st) r := by
  obtain ⟨e0, e1, e2, e3⟩ := shr_at w
  obtain ⟨q0, q1, q2, q3, p1, p2, p3, p4⟩ := k8
  refine Ev.step (f := fun k => sig_Bytes.l1 k (x ++ [w % 256]) l c i 1 w st) (fun k => ?_) ?_
  · simp only [sig_Bytes.l1]
    rw [if_pos (show (0 : Int) < 4 by decide), q0, if_pos (show (0 : Int) ≤ 0 by decide), if_pos (by omega), e0, p1]
  refine Ev.step (f := fun k => sig_Bytes.l1 k (x ++ [w % 256] ++ [(w / 256) % 256]) l c i 2 w st) (fun k => ?_) ?_
  · simp only [sig_Bytes.l1]
    rw [if_pos (show (1 : Int) < 4 by decide), q1, if_pos (show (0 : Int) ≤ 8 by decide), if_pos (by rw [List.length_append]; simp only [List.length_cons, List.length_nil]; omega), e1, p2]
  refine Ev.step (f := fun k => sig_Bytes.l1 k (x ++ [w % 256] ++ [(w / 256) % 256] ++ [(w / 65536) % 256]) l c i 3 w st) (fun k => ?_) ?_
  · simp only [sig_Bytes.l1]
    rw [if_pos (show (2 : Int) < 4 by decide), q2, if_pos (show (0 : Int) ≤ 16 by decide), if_pos (by simp only [List.length_append, List.length_cons, List.length_nil]; omega), e2, p3]
  refine Ev.step (f := fun k => sig_Bytes.l1 k (x ++ [w % 256] ++ [(w / 256) % 256] ++ [(w / 65536) % 256] ++ [(w / 16777216) % 256]) l c i 4 w st) (fun k => ?_) ?_
  · simp only [sig_Bytes.l1]
    rw [if_pos (show (3 : Int) < 4 by decide), q3, if_pos (show (0 : Int) ≤ 24 by decide), if_pos (by simp only [List.length_append, List.length_cons, List.length_nil]; omega), e3, p4]
  refine Ev.step (f := fun k => sig_Bytes.l0 k (x ++ (w4 w ++ bytesOf st)) l c (wrap64 (i + 1))) (fun k => ?_) h
  simp only [sig_Bytes.l1]
  rw [if_neg (by decide), if_pos (by simp only [List.length_append, List.length_cons, List.length_nil]; omega)]
  simp only [w4, List.append_assoc, List.cons_append, List.nil_append]
theorem bytes_loop (l : List S44) (hn : l.length ≤ 10000) (hs : ∀ m ∈ l, m.f1.size ≤ 1000) (d : Nat) : ∀ (i : Nat) (x : List Int), i + d = l.length → Bytes x → x.length ≤ 100 + 1004 * i →
    Ev (fun k => sig_Bytes.l0 k x l (l.length : Int) (i : Int)) (x ++ mBs (l.drop i) ++ sb (cs (x ++ mBs (l.drop i))), 0) := by
  induction d with
  | zero =>
    intro i x hi hx hl
    refine Ev.step (f := fun _ => (crc_Seal.f x).bind fun t => some (t, 0)) (fun k => ?_) ?_
    · simp only [sig_Bytes.l0]
      rw [if_neg (by omega)]
    · rw [List.drop_eq_nil_of_le (show l.length ≤ i by omega)]
      unfold mBs
      rw [List.append_nil, seal_of x hx (by omega)]
      exact ev_some rfl
  | succ d ih =>
    intro i x hi hx hl
    have hlt : i < l.length := by omega
    have hm : rd_T44 l (i : Int) ∈ l := by rw [rd44 hlt]; exact List.getElem_mem hlt
    have h4 := hs _ hm
    rw [step44 hlt]
    generalize ho : rd_T44 l (i : Int) = o at h4 hm ⊢
    have hnext := ih (i + 1) (x ++ mB o) (by omega) (bytes_app hx (mB_b o)) (by rw [List.length_append, mB_len]; omega)
    rw [show x ++ mB o ++ mBs (l.drop (i + 1)) = x ++ mBs (o :: l.drop (i + 1)) by rw [List.append_assoc]; rfl] at hnext
    refine Ev.step (f := fun k => sig_Bytes.l1 k x l (l.length : Int) (i : Int) 0 o.f0 o.f1) (fun k => ?_) ?_
    · simp only [sig_Bytes.l0]
      rw [ho, if_pos (by omega), if_pos (by omega), if_pos (by omega)]
    · refine weak_bytes x l _ _ _ _ _ (by omega) (by omega) ?_
      rw [inc6 hlt (by omega)]
      exact hnext
/-- A signature as bytes, or why not. -/
def bytesF (s b n : Int) (l : List S44) : List Int × Int := if Ck s b n l = 0 then (hd3 s b n ++ mBs l ++ sb (cs (hd3 s b n ++ mBs l)), 0) else ([], Ck s b n l)
theorem ck_small {s b n : Int} {l : List S44} (h : Ck s b n l = 0) : l.length ≤ 10000 ∧ ∀ m ∈ l, m.f1.size ≤ 1000 := by
  obtain ⟨h1, h2, h3⟩ := ck_ok h
  have := (ct_bounds (fr_ok h1).2).2.2.2
  refine ⟨by omega, fun m hm => ?_⟩
  have h4 := any_not h3 m hm
  have h5 := (fr_ok h1).1
  omega
theorem bytes_of (s b n : Int) (l : List S44) : Ev (fun k => sig_Bytes.f k s b n l) (bytesF s b n l) := by
  unfold sig_Bytes.f bytesF
  refine Ev.bind (ev_some (check_of s b n l)) ?_
  by_cases h : Ck s b n l = 0
  · rw [if_pos h]
    refine ev_pos h (Ev.bind (numbers_of s b n) ?_)
    obtain ⟨h1, h2⟩ := ck_small h
    have := bytes_loop l h1 h2 l.length 0 (hd3 s b n) (by omega) (hd3_b _ _ _) (by have := hd3_len s b n; omega)
    rwa [List.drop_zero] at this
  · rw [if_neg h]
    exact ev_neg h (Ev.now _)
/-- One round of a rolling sum. -/
def rin (x c : Int) : Int := ((roll_In.f x 0 c).getD 0)
theorem rin_of (x c : Int) : roll_In.f x 0 c = some (rin x c) := rfl
def rollF (l : List Int) : Int := l.foldl rin 0
theorem roll_loop (l : List Int) (hn : l.length ≤ 4000000000000) (d : Nat) : ∀ (i : Nat) (x : Int), i + d = l.length → Ev (fun k => roll_Of.l0 k x l (l.length : Int) (i : Int)) ((l.drop i).foldl rin x) := by
  induction d with
  | zero =>
    intro i x hi
    refine Ev.step (f := fun _ => some x) (fun k => ?_) ?_
    · simp only [roll_Of.l0]
      rw [if_neg (by omega)]
    · rw [List.drop_eq_nil_of_le (show l.length ≤ i by omega)]
      exact Ev.now _
  | succ d ih =>
    intro i x hi
    have hlt : i < l.length := by omega
    refine Ev.step (f := fun k => roll_Of.l0 k (rin x (rd l (i : Int))) l (l.length : Int) ((i + 1 : Nat) : Int)) (fun k => ?_) ?_
    · simp only [roll_Of.l0]
      rw [if_pos (by omega), if_pos (by omega), if_pos (by omega), rin_of, Option.bind_some, inc6 hlt hn]
    · rw [List.drop_eq_getElem_cons hlt, List.foldl_cons]
      have e : rd l (i : Int) = l[i] := by unfold rd; rw [Int.toNat_natCast, List.getD_eq_getElem?_getD, List.getElem?_eq_getElem hlt]; rfl
      rw [e]
      exact ih (i + 1) _ (by omega)
theorem roll_of (l : List Int) (hn : l.length ≤ 4000000000000) : Ev (fun k => roll_Of.f k l) (rollF l) := roll_loop l hn l.length 0 0 (by omega)
/-- A text's mark. -/
def markF (l : List Int) (n : Int) : S44 := ⟨rollF l, (strOfNums (shaSum l)).extract 0 n.toNat⟩
theorem sum_size (l : List Int) : (strOfNums (shaSum l)).size = 32 := by rw [strOfNums_size, shaSum_len]
theorem mark_size (l : List Int) (n : Int) (h0 : 0 ≤ n) (h1 : n ≤ 32) : ((markF l n).f1.size : Int) = n := by
  unfold markF
  rw [ByteArray.size_extract, sum_size]
  omega
theorem cut_of (l : List Int) (hn : l.length ≤ 1000000000) (n : Int) (h0 : 0 ≤ n) (h1 : n ≤ 32) : sha_Cut.f l n = some ((markF l n).f1, 0) := by
  unfold sha_Cut.f sha_Sum.f
  rw [if_neg (by omega), if_neg (by omega), if_pos (by omega), Option.bind_some, if_pos h0, if_pos (by rw [sum_size]; exact h1)]
  rfl
theorem mark_of (l : List Int) (hn : l.length ≤ 1000000000) (n : Int) (h0 : 0 ≤ n) (h1 : n ≤ 32) : Ev (fun k => sig_mark.f k l n) ((markF l n).f0, (markF l n).f1) := by
  unfold sig_mark.f
  refine Ev.bind (ev_some (cut_of l hn n h0 h1)) (Ev.bind (roll_of l (by omega)) (Ev.now _))
/-- The marks of a text's blocks. -/
def marksF (l : List Int) (B n : Int) (m : Nat) : List S44 := (List.range m).map fun i => markF (cutRow l B i) n
theorem marks_len (l : List Int) (B n : Int) (m : Nat) : (marksF l B n m).length = m := by unfold marksF; rw [List.length_map, List.length_range]
theorem row_len (l : List Int) (B : Int) (i : Nat) : (cutRow l B i).length ≤ l.length := by
  unfold cutRow
  rw [List.length_drop, List.length_take]
  omega
theorem marks_of (l : List Int) (hn : l.length ≤ 1000000000) (B n : Int) (h0 : 0 ≤ n) (h1 : n ≤ 32) : ∀ m : Nat, Ev (fun k => sigMs k l B n m) (marksF l B n m)
  | 0 => Ev.now _
  | m + 1 => by
    refine Ev.bind (marks_of l hn B n h0 h1 m) (Ev.bind (mark_of _ (Nat.le_trans (row_len l B m) hn) n h0 h1) ?_)
    refine ev_some ?_
    unfold marksF
    rw [List.range_succ, List.map_append]
    rfl
/-- A text's signature, or why there is none. -/
def OfB (l : List Int) (b : Int) : Int := if b = 0 then Ln (l.length : Int) else b
def OfOk (b n : Int) : Prop := (1 ≤ n ∧ n ≤ 32) ∧ (b = 0 ∨ (16 ≤ b ∧ b ≤ 4096))
theorem ln_in (s : Int) : 16 ≤ Ln s ∧ Ln s ≤ 4096 := by
  unfold Ln
  repeat' split
  all_goals omega
theorem ofB_in (l : List Int) {b n : Int} (h : OfOk b n) : 16 ≤ OfB l b ∧ OfB l b ≤ 4096 := by
  unfold OfB
  split
  · exact ln_in _
  · next h0 => exact h.2.resolve_left h0
theorem of_ok (l : List Int) (hn : l.length ≤ 131072) (b n : Int) (h : OfOk b n) : Ev (fun k => sig_Of.f k l b n) ((l.length : Int), OfB l b, n, marksF l (OfB l b) n (cutNum l (OfB l b)), 0) := by
  unfold sig_Of.f
  refine ev_pos (show (1 ≤ n ∧ n ≤ 32) ∧ (b = 0 ∨ (16 ≤ b ∧ b ≤ 4096)) from h) (ev_pos hn ?_)
  refine Ev.bind (a := OfB l b) ?_ (ev_pos (ofB_in l h) (Ev.bind (marks_of l (by omega) _ n (by have := h.1; omega) h.1.2 _) (Ev.now _)))
  unfold OfB
  by_cases h0 : b = 0
  · rw [if_pos h0]
    refine ev_pos h0 ⟨9, fun k hk => ?_⟩
    obtain ⟨m, rfl⟩ : ∃ m, k = m + 9 := ⟨k - 9, by omega⟩
    exact length_of _ m
  · rw [if_neg h0]
    exact ev_neg h0 (Ev.now _)
theorem of_bad (l : List Int) (b n : Int) (h : ¬ OfOk b n) (k : Nat) : sig_Of.f k l b n = some (0, 0, 0, [], 2) := by
  unfold sig_Of.f
  rw [if_neg (show ¬ ((1 ≤ n ∧ n ≤ 32) ∧ (b = 0 ∨ (16 ≤ b ∧ b ≤ 4096))) from h)]
theorem cutNum_ct {l : List Int} (hl : l.length ≤ 131072) {b : Int} (h0 : 16 ≤ b) (h1 : b ≤ 4096) : ((cutNum l b : Nat) : Int) = Ct (l.length : Int) b := by
  have := (cut_facts h0 h1 hl).1
  rw [count_of] at this
  exact (Option.some.inj this).symm
theorem marks_ck (l : List Int) (hl : l.length ≤ 131072) (b n : Int) (h : OfOk b n) : Ck (l.length : Int) (OfB l b) n (marksF l (OfB l b) n (cutNum l (OfB l b))) = 0 := by
  obtain ⟨h0, h1⟩ := ofB_in l h
  refine ck_mk (fr_mk ⟨h.1, rg_mk ⟨by omega, by omega, h0, h1⟩⟩) ?_ ?_
  · rw [marks_len]
    exact cutNum_ct hl h0 h1
  · intro m hm
    obtain ⟨i, _, rfl⟩ := List.mem_map.1 hm
    exact mark_size _ n (by have := h.1; omega) h.1.2
theorem mBs_len (n : Nat) : ∀ l : List S44, (∀ m ∈ l, (m.f1.size : Int) = n) → (mBs l).length = l.length * (4 + n)
  | [], _ => by simp [mBs]
  | m :: l, h => by
    have h1 := h m List.mem_cons_self
    have h2 := mBs_len n l (fun m' hm => h m' (List.mem_cons_of_mem _ hm))
    unfold mBs
    rw [List.length_append, mB_len, h2, List.length_cons, Nat.add_mul, Nat.one_mul]
    omega
theorem awake6 : Ev (fun k => remoralaw06_awake.f k) true := by
  have o1 : OfOk 16 2 := by unfold OfOk; omega
  have o2 : OfOk 0 1 := by unfold OfOk; omega
  have h1 := of_ok (List.replicate 40 0) (by decide) 16 2 o1
  have h2 := of_ok [] (by decide) 0 1 o2
  have hc := marks_ck (List.replicate 40 0) (by decide) 16 2 o1
  have hl := marks_len (List.replicate 40 0) (OfB (List.replicate 40 0) 16) 2 (cutNum (List.replicate 40 0) (OfB (List.replicate 40 0) 16))
  have hb := bytes_of ((List.replicate 40 (0 : Int)).length : Int) (OfB (List.replicate 40 0) 16) 2 (marksF (List.replicate 40 0) (OfB (List.replicate 40 0) 16) 2 (cutNum (List.replicate 40 0) (OfB (List.replicate 40 0) 16)))
  have hz := mBs_len 2 (marksF (List.replicate 40 0) (OfB (List.replicate 40 0) 16) 2 (cutNum (List.replicate 40 0) (OfB (List.replicate 40 0) 16))) (any_not (ck_ok hc).2.2)
  have n1 : cutNum (List.replicate 40 0) (OfB (List.replicate 40 0) 16) = 3 := by decide
  have hm0 := marks_len [] (OfB [] 0) 1 (cutNum [] (OfB [] 0))
  have n2 : cutNum [] (OfB [] 0) = 0 := by decide
  unfold remoralaw06_awake.f
  refine ev_pos (by decide) (Ev.bind h1 ?_)
  refine Ev.bind hb (Ev.bind h2 ?_)
  unfold bytesF
  rw [if_pos hc]
  refine ev_pos rfl (ev_pos rfl (ev_pos rfl (ev_pos ?_ (ev_pos ?_ (ev_pos ?_ ?_)))))
  · show ((marksF _ _ _ _).length : Int) = 3
    rw [hl, n1]
    rfl
  · show ((hd3 _ _ _ ++ _ ++ sb _).length : Int) = 25
    have e3 : (hd3 ((List.replicate 40 (0 : Int)).length : Int) (OfB (List.replicate 40 0) 16) 2).length = 3 := by
      rw [show ((List.replicate 40 (0 : Int)).length : Int) = 40 from rfl, show OfB (List.replicate 40 0) 16 = 16 from rfl]
      unfold hd3
      rw [nb_small (show cl 40 < 128 by decide), nb_small (show cl 16 < 128 by decide), nb_small (show cl 2 < 128 by decide)]
      rfl
    rw [List.length_append, List.length_append, e3, hz, hl, n1]
    rfl
  · show ((marksF _ _ _ _).length : Int) = 0
    rw [hm0, n2]
    rfl
  · exact ev_some rfl
theorem refright_of (s b : Int) : remoraref05_Right.f s b = some (Rg s b) := by
  rw [← right_of]; rfl
theorem refcount_loop (s b : Int) (hr : Rg s b = true) (d : Nat) : ∀ (k : Nat) (c : Int), 0 ≤ c → Ct s b - c = d → d < k → remoraref05_Count.l0 k s b c (c * b) = some (Ct s b) := by
  obtain ⟨h1, h2, h3, h4⟩ := rg_true hr
  obtain ⟨b1, b2, b3, b4⟩ := ct_bounds hr
  induction d with
  | zero =>
    intro k c h0 hd hk
    obtain ⟨k, rfl⟩ : ∃ m, k = m + 1 := ⟨k - 1, by omega⟩
    obtain rfl : c = Ct s b := by omega
    simp only [remoraref05_Count.l0]; rw [if_neg (by omega)]
  | succ d ih =>
    intro k c h0 hd hk
    obtain ⟨k, rfl⟩ : ∃ m, k = m + 1 := ⟨k - 1, by omega⟩
    have hm : (c + 1) * b ≤ Ct s b * b := Int.mul_le_mul_of_nonneg_right (by omega) (by omega)
    have e : c * b + b = (c + 1) * b := by rw [Int.add_mul, Int.one_mul]
    have hp : 0 ≤ c * b := Int.mul_nonneg h0 (by omega)
    simp only [remoraref05_Count.l0]
    rw [if_pos (by omega), w64 (c + 1) (by omega) (by omega), e, w64 ((c + 1) * b) (by omega) (by omega)]
    exact ih k (c + 1) (by omega) (by omega) (by omega)
theorem refcount_of (s b : Int) (m : Nat) : remoraref05_Count.f (m + 8193) s b = some (Ct s b) := by
  unfold remoraref05_Count.f
  rw [refright_of]; simp only [Option.bind_some]
  by_cases hr : Rg s b = true
  · rw [if_pos hr]
    obtain ⟨b1, b2, b3, b4⟩ := ct_bounds hr
    have h := refcount_loop s b hr (Ct s b).toNat (m + 8193) 0 (by omega) (by omega) (by omega)
    rw [Int.zero_mul] at h
    exact h
  · rw [if_neg hr]; unfold Ct; rw [if_neg hr]
theorem refcount_ev (s b : Int) : Ev (fun k => remoraref05_Count.f k s b) (Ct s b) := ⟨8193, fun k hk => by
  obtain ⟨m, rfl⟩ : ∃ m, k = m + 8193 := ⟨k - 8193, by omega⟩
  exact refcount_of s b m⟩
theorem head_of (s b n : Int) (l : List S44) : remoraref06_head.f s b n l = some (Fr s b n) := by
  unfold remoraref06_head.f Fr
  by_cases h : n < 1
  · rw [if_pos h, if_neg (by omega)]
  · rw [if_neg h]
    by_cases h1 : n > 32
    · rw [if_pos h1, if_neg (by omega)]
    · rw [if_neg h1, refright_of, Option.bind_some]
      by_cases h2 : Rg s b = true
      · rw [if_pos h2, if_pos ⟨by omega, h2⟩]
      · rw [if_neg h2, if_neg (fun h3 => h2 h3.2)]
theorem rcheck_loop (s b n : Int) (l : List S44) (hn : l.length ≤ 4000000000000) (d : Nat) : ∀ i : Nat, i + d = l.length → Ev (fun k => remoraref06_Check.l0 k l (l.length : Int) (i : Int) s b n l) (if anyOff n l i = true then 5 else 0) := by
  induction d with
  | zero =>
    intro i hi
    have e : anyOff n l i = false := by unfold anyOff; rw [List.drop_eq_nil_of_le (by omega)]; rfl
    rw [e, if_neg (by decide)]
    refine Ev.step (f := fun _ => some 0) (fun k => ?_) (Ev.now _)
    simp only [remoraref06_Check.l0]
    rw [if_neg (by omega)]
  | succ d ih =>
    intro i hi
    have hlt : i < l.length := by omega
    rw [anyOff_step n l i hlt]
    by_cases h : ((rd_T44 l (i : Int)).f1.size : Int) = n
    · have e : (((rd_T44 l (i : Int)).f1.size : Int) != n) = false := by simp [h]
      rw [e, Bool.false_or]
      refine Ev.step (f := fun k => remoraref06_Check.l0 k l (l.length : Int) ((i + 1 : Nat) : Int) s b n l) (fun k => ?_) (ih (i + 1) (by omega))
      simp only [remoraref06_Check.l0]
      rw [if_pos (by omega), if_pos (by omega), if_pos (by omega), if_pos h, inc6 hlt hn]
    · have e : (((rd_T44 l (i : Int)).f1.size : Int) != n) = true := by simp [h]
      rw [e, Bool.true_or, if_pos rfl]
      refine Ev.step (f := fun _ => some 5) (fun k => ?_) (Ev.now _)
      simp only [remoraref06_Check.l0]
      rw [if_pos (by omega), if_pos (by omega), if_pos (by omega), if_neg h]
theorem rcheck_of (s b n : Int) (l : List S44) : Ev (fun k => remoraref06_Check.f k s b n l) (Ck s b n l) := by
  unfold remoraref06_Check.f Ck
  refine Ev.bind (ev_some (head_of s b n l)) ?_
  by_cases h : Fr s b n = 0
  · rw [if_pos h]
    refine ev_pos h (Ev.bind (refcount_ev s b) ?_)
    by_cases h2 : (l.length : Int) = Ct s b
    · rw [if_pos h2]
      have := (ct_bounds (fr_ok h).2).2.2.2
      exact ev_pos h2 (rcheck_loop s b n l (by omega) l.length 0 (by omega))
    · rw [if_neg h2]
      exact ev_neg h2 (Ev.now _)
  · rw [if_neg h, fr_two h]
    exact ev_neg (by omega) (Ev.now _)
theorem wf8 {n : Int} (h : (Lit.int .u8 n).wf = true) : 0 ≤ n ∧ n < 256 := by
  have e0 : IntKind.u8.min = 0 := by decide
  have e1 : IntKind.u8.max = 255 := by decide
  simp [Lit.wf, e0, e1] at h
  omega
theorem byte_wf {n : Int} (h : (Lit.int .u8 n).wf = true) : 0 ≤ n ∧ n ≤ 255 := by have := wf8 h; omega
theorem f_tail (n i : Nat) (hn : n ≤ 281474976710656) (hi : i < 8) : (shr .u64 (IntKind.u64.wrap (wrap64 (8 * (n : Int)))) (IntKind.u64.wrap (wrap64 (56 - wrap64 (8 * (i : Int)))))) % 256 = (shr .u64 (IntKind.u64.wrap ((IntKind.u64.wrap ((n : Nat) : Int)) * 8)) ((56 - 8 * i : Nat) : Int)) % 256 := by
  have e1 : wrap64 (8 * (i : Int)) = 8 * (i : Int) := by unfold wrap64; omega
  have e2 : wrap64 (56 - 8 * (i : Int)) = ((56 - 8 * i : Nat) : Int) := by unfold wrap64; omega
  have e3 : IntKind.u64.wrap ((56 - 8 * i : Nat) : Int) = ((56 - 8 * i : Nat) : Int) := by rw [IntKind.wrap_u64]; omega
  have e4 : wrap64 (8 * (n : Int)) = 8 * (n : Int) := by unfold wrap64; omega
  have e5 : IntKind.u64.wrap ((IntKind.u64.wrap ((n : Nat) : Int)) * 8) = IntKind.u64.wrap (8 * (n : Int)) := by rw [IntKind.wrap_u64, IntKind.wrap_u64, IntKind.wrap_u64]; omega
  rw [e1, e2, e3, e4, e5]
theorem filled_l1 (n : Nat) (hn : n ≤ 281474976710656) (x : List Int) (hx : x.length < 100000000000) : ∀ (d i : Nat), i + d = 8 → Ev (fun k => remoraref03_filled.l1 k (x ++ shaTail n i) (IntKind.u64.wrap (wrap64 (8 * (n : Int)))) (i : Int)) (x ++ shaTail n 8)
  | 0, i, h => by
    obtain rfl : i = 8 := by omega
    refine Ev.step (f := fun _ => some (x ++ shaTail n 8)) (fun k => ?_) (Ev.now _)
    rw [remoraref03_filled.l1, if_neg (by omega)]
  | d + 1, i, h => by
    have ih := filled_l1 n hn x hx d (i + 1) (by omega)
    refine Ev.step (fun k => ?_) ih
    have e1 : wrap64 (8 * (i : Int)) = 8 * (i : Int) := by unfold wrap64; omega
    have e2 : wrap64 (56 - 8 * (i : Int)) = ((56 - 8 * i : Nat) : Int) := by unfold wrap64; omega
    have e3 : IntKind.u64.wrap ((56 - 8 * i : Nat) : Int) = ((56 - 8 * i : Nat) : Int) := by rw [IntKind.wrap_u64]; omega
    have e6 : wrap64 ((i : Int) + 1) = ((i + 1 : Nat) : Int) := by unfold wrap64; omega
    have hl : (x ++ shaTail n i).length < 140737488355328 := by rw [List.length_append, shaTail, List.length_map, List.length_range]; omega
    rw [remoraref03_filled.l1, if_pos (by omega), if_pos (by rw [e1, e2, e3]; omega), if_pos hl, f_tail n i hn (by omega), e6, List.append_assoc]
    have hs : shaTail n i ++ [(shr .u64 (IntKind.u64.wrap ((IntKind.u64.wrap ((n : Nat) : Int)) * 8)) ((56 - 8 * i : Nat) : Int)) % 256] = shaTail n (i + 1) := by
      rw [shaTail, shaTail, List.range_succ, List.map_append]
      rfl
    rw [hs]
theorem filled_l0 (l0 : List Int) (hn : l0.length ≤ 1000000000) : ∀ (z : Nat) (x : List Int), x.length < l0.length + 200 → (x.length + z) % 64 = 56 → (∀ y, y < z → (x.length + y) % 64 ≠ 56) → x.length + z < l0.length + 200 → Ev (fun k => remoraref03_filled.l0 k l0 x) ((x ++ List.replicate z 0) ++ shaTail l0.length 8)
  | 0, x, hx, hz, _, _ => by
    have h := filled_l1 l0.length (by omega) x (by omega) 8 0 (by omega)
    rw [show shaTail l0.length 0 = [] from rfl, List.append_nil] at h
    refine Ev.step (fun k => ?_) (by rw [List.replicate_zero, List.append_nil]; exact h)
    rw [remoraref03_filled.l0, if_pos (by omega)]
    rfl
  | z + 1, x, hx, hz, hy, hl => by
    have h0 := hy 0 (by omega)
    have h := filled_l0 l0 hn z (x ++ [0]) (by rw [List.length_append, List.length_singleton]; omega) (by rw [List.length_append, List.length_singleton, ← hz]; congr 1; omega)
      (fun y hy1 => by have := hy (y + 1) (by omega); rw [List.length_append, List.length_singleton, show x.length + 1 + y = x.length + (y + 1) by omega]; exact this) (by rw [List.length_append, List.length_singleton]; omega)
    rw [show x ++ [0] ++ List.replicate z 0 = x ++ List.replicate (z + 1) 0 by rw [List.append_assoc, List.replicate_succ]; rfl] at h
    refine Ev.step (fun k => ?_) h
    rw [remoraref03_filled.l0, if_neg (by omega), if_pos (by omega)]
theorem filled_of (l0 : List Int) (hn : l0.length ≤ 1000000000) : Ev (fun k => remoraref03_filled.f k l0) (l0 ++ shaEnd l0.length) := by
  have hq := Nat.mod_lt (119 - l0.length % 64) (show 0 < 64 by decide)
  have h := filled_l0 l0 hn ((119 - l0.length % 64) % 64) (l0 ++ [128]) (by rw [List.length_append, List.length_singleton]; omega) (by rw [List.length_append, List.length_singleton]; omega) (by intro y hy; rw [List.length_append, List.length_singleton]; omega) (by rw [List.length_append, List.length_singleton]; omega)
  have e1 : wrap64 ((l0.length : Int) + 72) = (l0.length : Int) + 72 := by unfold wrap64; omega
  rw [show (l0 ++ [128] ++ List.replicate ((119 - l0.length % 64) % 64) 0) ++ shaTail l0.length 8 = l0 ++ shaEnd l0.length by unfold shaEnd; simp only [List.append_assoc]] at h
  refine Ev.congr (fun k => ?_) h
  unfold remoraref03_filled.f
  rw [if_pos (by rw [e1]; omega), if_pos (by rw [e1]; omega), Option.bind_some, if_pos (by rw [List.length_replicate]; omega), Option.bind_some, List.replicate_zero, List.nil_append, if_pos (by omega)]
set_option maxRecDepth 10000 in
theorem or_add (i : Nat) (x y : Int) (h0 : 0 ≤ x) (h1 : 0 ≤ y) (h2 : y < 2 ^ i) (h3 : x * 2 ^ i + y < 4294967296) : Go.bits .or .u32 (x * 2 ^ i) y = x * 2 ^ i + y := by
  obtain ⟨a, rfl⟩ := Int.eq_ofNat_of_zero_le h0
  obtain ⟨b, rfl⟩ := Int.eq_ofNat_of_zero_le h1
  have e1 : ((a : Int) * 2 ^ i) = ((a * 2 ^ i : Nat) : Int) := by simp
  rw [e1] at h3 ⊢
  have hb : b < 2 ^ i := by exact_mod_cast h2
  obtain ⟨c, hc⟩ : ∃ c, c = a * 2 ^ i := ⟨_, rfl⟩
  have hor : c ||| b = c + b := by
    rw [hc, ← Nat.shiftLeft_eq, Nat.shiftLeft_add_eq_or_of_lt hb]
  rw [← hc] at h3 ⊢
  have hs : c + b < 4294967296 := by omega
  unfold Go.bits
  simp only [IntKind.wrap_u32]
  have e2 : IntKind.u32.bits = 32 := rfl
  have ht : (BitVec.ofInt 32 (c : Int) ||| BitVec.ofInt 32 (b : Int)).toNat = c + b := by
    rw [BitVec.toNat_or, BitVec.ofInt_natCast, BitVec.ofInt_natCast, BitVec.toNat_ofNat, BitVec.toNat_ofNat, Nat.mod_eq_of_lt (by omega), Nat.mod_eq_of_lt (by omega), hor]
  rw [e2, ht]
  omega
theorem word4 {a b c d : Int} (ha : 0 ≤ a ∧ a ≤ 255) (hb : 0 ≤ b ∧ b ≤ 255) (hc : 0 ≤ c ∧ c ≤ 255) (hd : 0 ≤ d ∧ d ≤ 255) :
    Go.bits .or .u32 (IntKind.u32.wrap (Go.bits .or .u32 (IntKind.u32.wrap (Go.bits .or .u32 (IntKind.u32.wrap (Go.bits .or .u32 (IntKind.u32.wrap (0 * 256)) (IntKind.u32.wrap a) * 256)) (IntKind.u32.wrap b) * 256)) (IntKind.u32.wrap c) * 256)) (IntKind.u32.wrap d) =
    Go.bits .or .u32 (Go.bits .or .u32 (Go.bits .or .u32 (((a % 4294967296) * 16777216) % 4294967296) (((b % 4294967296) * 65536) % 4294967296)) (((c % 4294967296) * 256) % 4294967296)) (d % 4294967296) := by
  have w : ∀ x : Int, 0 ≤ x → x < 4294967296 → IntKind.u32.wrap x = x := fun x h0 h1 => by rw [IntKind.wrap_u32]; omega
  have e1 : Go.bits .or .u32 (IntKind.u32.wrap (0 * 256)) (IntKind.u32.wrap a) = a := by
    have h := or_add 8 0 a (by omega) ha.1 (by omega) (by omega)
    rw [w _ (by omega) (by omega), w _ (by omega) (by omega), show (0 : Int) * 256 = 0 * 2 ^ 8 by omega, h]; omega
  have e2 : Go.bits .or .u32 (IntKind.u32.wrap (a * 256)) (IntKind.u32.wrap b) = a * 256 + b := by
    have h := or_add 8 a b (by omega) hb.1 (by omega) (by omega)
    rw [w _ (by omega) (by omega), w _ (by omega) (by omega), show a * 256 = a * 2 ^ 8 by omega, h]
  have e3 : Go.bits .or .u32 (IntKind.u32.wrap ((a * 256 + b) * 256)) (IntKind.u32.wrap c) = (a * 256 + b) * 256 + c := by
    have h := or_add 8 (a * 256 + b) c (by omega) hc.1 (by omega) (by omega)
    rw [w _ (by omega) (by omega), w _ (by omega) (by omega), show (a * 256 + b) * 256 = (a * 256 + b) * 2 ^ 8 by omega, h]
  have e4 : Go.bits .or .u32 (IntKind.u32.wrap (((a * 256 + b) * 256 + c) * 256)) (IntKind.u32.wrap d) = ((a * 256 + b) * 256 + c) * 256 + d := by
    have h := or_add 8 ((a * 256 + b) * 256 + c) d (by omega) hd.1 (by omega) (by omega)
    rw [w _ (by omega) (by omega), w _ (by omega) (by omega), show ((a * 256 + b) * 256 + c) * 256 = ((a * 256 + b) * 256 + c) * 2 ^ 8 by omega, h]
  have m : ∀ x : Int, 0 ≤ x → x < 4294967296 → x % 4294967296 = x := fun x h0 h1 => by omega
  rw [e1, e2, e3, e4, m a (by omega) (by omega), m b (by omega) (by omega), m c (by omega) (by omega), m d (by omega) (by omega), m (a * 16777216) (by omega) (by omega), m (b * 65536) (by omega) (by omega), m (c * 256) (by omega) (by omega)]
  have f1 : Go.bits .or .u32 (a * 16777216) (b * 65536) = (a * 256 + b) * 65536 := by
    have h := or_add 24 a (b * 65536) (by omega) (by omega) (by omega) (by omega)
    rw [show a * 16777216 = a * 2 ^ 24 by omega, h]; omega
  have f2 : Go.bits .or .u32 ((a * 256 + b) * 65536) (c * 256) = ((a * 256 + b) * 256 + c) * 256 := by
    have h := or_add 16 (a * 256 + b) (c * 256) (by omega) (by omega) (by omega) (by omega)
    rw [show (a * 256 + b) * 65536 = (a * 256 + b) * 2 ^ 16 by omega, h]; omega
  have f3 : Go.bits .or .u32 (((a * 256 + b) * 256 + c) * 256) d = ((a * 256 + b) * 256 + c) * 256 + d := by
    have h := or_add 8 ((a * 256 + b) * 256 + c) d (by omega) hd.1 (by omega) (by omega)
    rw [show ((a * 256 + b) * 256 + c) * 256 = ((a * 256 + b) * 256 + c) * 2 ^ 8 by omega, h]
  rw [f1, f2, f3]
theorem wT_zero (b : List Int) : ∀ (t j : Nat), t ≤ j → (wT b t)[j]?.getD 0 = 0
  | 0, j, _ => by
    rw [wT, List.getElem?_replicate]
    split <;> rfl
  | t + 1, j, h => by
    have hk : ∀ k, (wK b (wT b t) t k)[j]?.getD 0 = 0 := fun k => by
      induction k with
      | zero => exact wT_zero b t j (by omega)
      | succ k ih => rw [wK, List.getElem?_set_ne (by omega)]; exact ih
    exact hk 4
theorem wT_next (b : List Int) (hb : ∀ i : Nat, 0 ≤ b[i]?.getD 0 ∧ b[i]?.getD 0 ≤ 255) (t : Nat) (ht : t < 64) : wT b (t + 1) = (wT b t).set t (Go.bits .or .u32 (Go.bits .or .u32 (Go.bits .or .u32 (((b[4 * t + 0]?.getD 0 % 4294967296) * 16777216) % 4294967296) (((b[4 * t + 1]?.getD 0 % 4294967296) * 65536) % 4294967296)) (((b[4 * t + 2]?.getD 0 % 4294967296) * 256) % 4294967296)) (b[4 * t + 3]?.getD 0 % 4294967296)) := by
  have hl := wT_len b t
  obtain ⟨W, hW⟩ : ∃ W, W = wT b t := ⟨_, rfl⟩
  have h0 : W[t]?.getD 0 = 0 := by rw [hW]; exact wT_zero b t t (Nat.le_refl _)
  rw [← hW] at hl ⊢
  have hs : ∀ (V : List Int) (x : Int), V.length = 64 → (V.set t x)[t]?.getD 0 = x := fun V x hv => by
    rw [List.getElem?_set_self (by omega)]
    rfl
  rw [wT, ← hW, wK, wK, wK, wK, wK, h0]
  simp only [List.set_set, hs W _ hl]
  rw [word4 (hb _) (hb _) (hb _) (hb _)]
theorem rd_nat (l : List Int) (i : Nat) : rd l (i : Int) = l[i]?.getD 0 := by
  unfold rd
  rw [Int.toNat_natCast, List.getD_eq_getElem?_getD]
theorem words_l1 (b : List Int) : ∀ (d n : Nat), n + d = 48 → Ev (fun k => remoraref03_words.l1 k (wN b n) ((n + 16 : Nat) : Int)) (shaWords b)
  | 0, n, h => by
    obtain rfl : n = 48 := by omega
    have hs : shaWords b = wN b 48 := rfl
    rw [hs]
    refine Ev.step (f := fun _ => some (wN b 48)) (fun k => ?_) (Ev.now _)
    rw [remoraref03_words.l1, if_neg (by omega)]
  | d + 1, n, h => by
    have ih := words_l1 b d (n + 1) (by omega)
    refine Ev.step (fun k => ?_) ih
    have hl : (wN b n).length = 64 := wN_len b n
    have hN : wN b (n + 1) = (wN b n).set (n + 16) (wNext (wN b n) (n + 16)) := rfl
    rw [hN]
    clear ih hN
    obtain ⟨W, hW⟩ : ∃ W, W = wN b n := ⟨_, rfl⟩
    rw [← hW] at hl ⊢
    clear hW
    have g0 : ((n + 16 : Nat) : Int) < 64 := by omega
    have g2 : (0 : Int) ≤ ((n + 16 - 2 : Nat) : Int) ∧ ((n + 16 - 2 : Nat) : Int) < (W.length : Int) := by omega
    have g7 : (0 : Int) ≤ ((n + 16 - 7 : Nat) : Int) ∧ ((n + 16 - 7 : Nat) : Int) < (W.length : Int) := by omega
    have g15 : (0 : Int) ≤ ((n + 16 - 15 : Nat) : Int) ∧ ((n + 16 - 15 : Nat) : Int) < (W.length : Int) := by omega
    have g16 : (0 : Int) ≤ ((n + 16 - 16 : Nat) : Int) ∧ ((n + 16 - 16 : Nat) : Int) < (W.length : Int) := by omega
    have g1 : (0 : Int) ≤ ((n + 16 : Nat) : Int) ∧ ((n + 16 : Nat) : Int) < (W.length : Int) := by omega
    have e2 : wrap64 (((n + 16 : Nat) : Int) - 2) = ((n + 16 - 2 : Nat) : Int) := by unfold wrap64; omega
    have e7 : wrap64 (((n + 16 : Nat) : Int) - 7) = ((n + 16 - 7 : Nat) : Int) := by unfold wrap64; omega
    have e15 : wrap64 (((n + 16 : Nat) : Int) - 15) = ((n + 16 - 15 : Nat) : Int) := by unfold wrap64; omega
    have e16 : wrap64 (((n + 16 : Nat) : Int) - 16) = ((n + 16 - 16 : Nat) : Int) := by unfold wrap64; omega
    have e1 : wrap64 (((n + 16 : Nat) : Int) + 1) = ((n + 1 + 16 : Nat) : Int) := by unfold wrap64; omega
    rw [remoraref03_words.l1, if_pos g0, e2, e7, e15, e16, e1, if_pos g2.1, if_pos g2.2, if_pos g15.1, if_pos g15.2, rd_nat, rd_nat, rd_nat, rd_nat, rtu_at _ 17 17 rfl (by decide), rtu_at _ 19 19 rfl (by decide), Option.bind_some, Option.bind_some, if_pos g7.1, if_pos g7.2, rtu_at _ 7 7 rfl (by decide), rtu_at _ 18 18 rfl (by decide), Option.bind_some, Option.bind_some, if_pos g16.1, if_pos g16.2, if_pos g1.1, if_pos g1.2, Int.toNat_natCast]
    unfold wNext
    simp only [IntKind.wrap_u32]
theorem words_l0 (b : List Int) (h64 : b.length = 64) (hb : ∀ i : Nat, 0 ≤ b[i]?.getD 0 ∧ b[i]?.getD 0 ≤ 255) : ∀ (d t : Nat), t + d = 16 → Ev (fun k => remoraref03_words.l0 k b (wT b t) (t : Int)) (shaWords b)
  | 0, t, h => by
    obtain rfl : t = 16 := by omega
    refine Ev.step (fun k => ?_) (words_l1 b 48 0 rfl)
    rw [remoraref03_words.l0, if_neg (by omega)]
    rfl
  | d + 1, t, h => by
    have ih := words_l0 b h64 hb d (t + 1) (by omega)
    refine Ev.step (fun k => ?_) ih
    have hl : (wT b t).length = 64 := wT_len b t
    have g : (t : Int) < 16 := by omega
    have g0 : (0 : Int) ≤ ((4 * t + 0 : Nat) : Int) ∧ ((4 * t + 0 : Nat) : Int) < (b.length : Int) := by omega
    have g1 : (0 : Int) ≤ ((4 * t + 1 : Nat) : Int) ∧ ((4 * t + 1 : Nat) : Int) < (b.length : Int) := by omega
    have g2 : (0 : Int) ≤ ((4 * t + 2 : Nat) : Int) ∧ ((4 * t + 2 : Nat) : Int) < (b.length : Int) := by omega
    have g3 : (0 : Int) ≤ ((4 * t + 3 : Nat) : Int) ∧ ((4 * t + 3 : Nat) : Int) < (b.length : Int) := by omega
    have g4 : (0 : Int) ≤ (t : Int) ∧ (t : Int) < ((wT b t).length : Int) := by omega
    have hx := wT_next b hb t (by omega)
    clear ih
    have e0 : wrap64 (4 * (t : Int)) = ((4 * t + 0 : Nat) : Int) := by unfold wrap64; omega
    have e1 : wrap64 (((4 * t + 0 : Nat) : Int) + 1) = ((4 * t + 1 : Nat) : Int) := by unfold wrap64; omega
    have e2 : wrap64 (((4 * t + 0 : Nat) : Int) + 2) = ((4 * t + 2 : Nat) : Int) := by unfold wrap64; omega
    have e3 : wrap64 (((4 * t + 0 : Nat) : Int) + 3) = ((4 * t + 3 : Nat) : Int) := by unfold wrap64; omega
    have e4 : wrap64 ((t : Int) + 1) = ((t + 1 : Nat) : Int) := by unfold wrap64; omega
    rw [remoraref03_words.l0, if_pos g, e0, e1, e2, e3, e4, if_pos g0.1, if_pos g0.2, if_pos g1.1, if_pos g1.2, if_pos g2.1, if_pos g2.2, if_pos g3.1, if_pos g3.2, if_pos g4.1, if_pos g4.2, rd_nat, rd_nat, rd_nat, rd_nat, Int.toNat_natCast, hx]
theorem words_of (b : List Int) (h64 : b.length = 64) (hb : ∀ i : Nat, 0 ≤ b[i]?.getD 0 ∧ b[i]?.getD 0 ≤ 255) : Ev (fun k => remoraref03_words.f k b) (shaWords b) := by
  refine Ev.congr (fun k => ?_) (words_l0 b h64 hb 16 0 rfl)
  unfold remoraref03_words.f
  rw [if_pos (by omega)]
  rfl
theorem shr24 (x : Int) : (shr .u32 x ((24 - 8 * 0 : Nat) : Int)) % 256 = (x / 16777216) % 256 := rfl
theorem shr16 (x : Int) : (shr .u32 x ((24 - 8 * 1 : Nat) : Int)) % 256 = (x / 65536) % 256 := rfl
theorem shr8 (x : Int) : (shr .u32 x ((24 - 8 * 2 : Nat) : Int)) % 256 = (x / 256) % 256 := rfl
theorem shr0 (x : Int) : (shr .u32 x ((24 - 8 * 3 : Nat) : Int)) % 256 = x % 256 := by
  show (x / 2 ^ 0) % 256 = _
  simp
/-- The four bytes of a word. -/
def four (x : Int) : List Int := [(x / 16777216) % 256, (x / 65536) % 256, (x / 256) % 256, x % 256]
def fours (hs : List Int) : Nat → List Int
  | 0 => []
  | i + 1 => fours hs i ++ four (hs[i]?.getD 0)
theorem fours_len (hs : List Int) (i : Nat) : (fours hs i).length = 4 * i := by
  induction i with
  | zero => rfl
  | succ i ih => rw [fours, List.length_append, ih]; rfl
theorem outT_fours (hs : List Int) : ∀ i, i ≤ 8 → outT hs i = fours hs i ++ List.replicate (32 - 4 * i) 0
  | 0, _ => rfl
  | i + 1, h => by
    have ih := outT_fours hs i (by omega)
    rw [outT, ih, fours]
    obtain ⟨x, hx⟩ : ∃ x, x = hs[i]?.getD 0 := ⟨_, rfl⟩
    rw [← hx, outK, outK, outK, outK, outK, shr24, shr16, shr8, shr0]
    have hl := fours_len hs i
    obtain ⟨F, hF⟩ : ∃ F, F = fours hs i := ⟨_, rfl⟩
    rw [← hF] at hl ⊢
    have hr : List.replicate (32 - 4 * i) (0 : Int) = 0 :: 0 :: 0 :: 0 :: List.replicate (32 - 4 * (i + 1)) 0 := by
      rw [show 32 - 4 * i = (32 - 4 * (i + 1)) + 1 + 1 + 1 + 1 by omega, List.replicate_succ, List.replicate_succ, List.replicate_succ, List.replicate_succ]
    rw [hr]
    have hs1 : ∀ (k : Nat) (L : List Int) (y : Int), (F ++ L).set (4 * i + k) y = F ++ L.set k y := fun k L y => by
      rw [List.set_append_right _ _ (by omega), hl, show 4 * i + k - 4 * i = k by omega]
    rw [hs1, hs1, hs1, hs1, List.append_assoc]
    rfl
theorem sum_l1 (hs : List Int) (h8 : hs.length = 8) : ∀ (d i : Nat), i + d = 8 → Ev (fun k => remoraref03_Sum.l1 k hs (fours hs i) (i : Int)) (strOfNums (fours hs 8))
  | 0, i, h => by
    obtain rfl : i = 8 := by omega
    refine Ev.step (f := fun _ => some (strOfNums (fours hs 8))) (fun k => ?_) (Ev.now _)
    rw [remoraref03_Sum.l1, if_neg (by omega)]
  | d + 1, i, h => by
    have ih := sum_l1 hs h8 d (i + 1) (by omega)
    refine Ev.step (fun k => ?_) ih
    have hl := fours_len hs i
    have g0 : (i : Int) < 8 := by omega
    have g1 : (0 : Int) ≤ (i : Int) := by omega
    have g2 : (i : Int) < (hs.length : Int) := by omega
    have e1 : wrap64 ((i : Int) + 1) = ((i + 1 : Nat) : Int) := by unfold wrap64; omega
    rw [remoraref03_Sum.l1, if_pos g0, if_pos g1, if_pos g2, Option.bind_some, rd_nat, if_pos (by rw [hl]; simp only [List.length_cons, List.length_nil]; omega), e1]
    rfl
theorem sum_l0 (all : List Int) (hb : ∀ i : Nat, 0 ≤ all[i]?.getD 0 ∧ all[i]?.getD 0 ≤ 255) (m : Nat) (hm : all.length = 64 * m) (hM : m ≤ 1000000000) : ∀ (d j : Nat), j + d = m → Ev (fun k => remoraref03_Sum.l0 k all (shFull all j) ((64 * j : Nat) : Int)) (strOfNums (fours (shFull all m) 8))
  | 0, j, h => by
    obtain rfl : j = m := by omega
    have h1 := sum_l1 (shFull all j) (shFull_len all j) 8 0 rfl
    refine Ev.step (fun k => ?_) h1
    rw [remoraref03_Sum.l0, if_neg (by omega), if_pos (by omega)]
    rfl
  | d + 1, j, h => by
    have ih := sum_l0 all hb m hm hM d (j + 1) (by omega)
    have hw : Ev (fun k => remoraref03_words.f k ((all.drop (64 * j)).take 64)) (shaWords ((all.drop (64 * j)).take 64)) := by
      refine words_of _ (by rw [List.length_take, List.length_drop]; omega) (fun i => ?_)
      rcases Nat.lt_or_ge i 64 with h64 | h64
      · rw [List.getElem?_take, if_pos h64, List.getElem?_drop]
        exact hb _
      · rw [List.getElem?_take, if_neg (by omega)]
        simp
    have hblk : remoraref03_block.f (shFull all j) (shaWords ((all.drop (64 * j)).take 64)) = some (shFull all (j + 1)) := by
      unfold remoraref03_block.f
      rw [if_pos (shFull_len all j), if_pos (shaWords_len _)]
      rfl
    have g0 : ((64 * j : Nat) : Int) < (all.length : Int) := by omega
    have g1 : (0 : Int) ≤ ((64 * j : Nat) : Int) := by omega
    have g2 : ((64 * j : Nat) : Int) ≤ ((64 * (j + 1) : Nat) : Int) := by omega
    have g3 : ((64 * (j + 1) : Nat) : Int) ≤ (all.length : Int) := by omega
    have e1 : wrap64 (((64 * j : Nat) : Int) + 64) = ((64 * (j + 1) : Nat) : Int) := by unfold wrap64; omega
    have hcut : (all.take (64 * (j + 1))).drop (64 * j) = (all.drop (64 * j)).take 64 := by rw [List.drop_take]; congr 1; omega
    have hfin : Ev (fun k => (remoraref03_words.f k ((all.drop (64 * j)).take 64)).bind fun t153 => (remoraref03_block.f (shFull all j) t153).bind fun t156 => remoraref03_Sum.l0 k all t156 ((64 * (j + 1) : Nat) : Int)) (strOfNums (fours (shFull all m) 8)) := by
      refine Ev.bind hw ?_
      refine Ev.congr (fun k => ?_) ih
      rw [hblk, Option.bind_some]
    refine Ev.step (fun k => ?_) hfin
    rw [remoraref03_Sum.l0, if_pos g0, if_pos g1, e1, if_pos g2, if_pos g3, Int.toNat_natCast, Int.toNat_natCast, hcut]
theorem shaTail_bytes (n : Nat) : ∀ x ∈ shaTail n 8, 0 ≤ x ∧ x ≤ 255 := by
  intro x hx
  unfold shaTail at hx
  obtain ⟨i, _, rfl⟩ := List.mem_map.1 hx
  omega
theorem all_bytes (l0 : List Int) (hb : ∀ x ∈ l0, 0 ≤ x ∧ x ≤ 255) (i : Nat) : 0 ≤ (l0 ++ shaEnd l0.length)[i]?.getD 0 ∧ (l0 ++ shaEnd l0.length)[i]?.getD 0 ≤ 255 := by
  have h : ∀ x ∈ l0 ++ shaEnd l0.length, 0 ≤ x ∧ x ≤ 255 := by
    intro x hx
    rcases List.mem_append.1 hx with h1 | h1
    · exact hb x h1
    · unfold shaEnd at h1
      rcases List.mem_append.1 h1 with h2 | h2
      · rcases List.mem_append.1 h2 with h3 | h3
        · obtain rfl := List.mem_singleton.1 h3; omega
        · obtain rfl := (List.mem_replicate.1 h3).2; omega
      · exact shaTail_bytes _ x h2
  rcases Nat.lt_or_ge i (l0 ++ shaEnd l0.length).length with hi | hi
  · rw [List.getElem?_eq_getElem hi]
    exact h _ (List.getElem_mem hi)
  · rw [List.getElem?_eq_none hi]
    simp
/-- The reference's sum is the program's. -/
theorem rsum_of (l0 : List Int) (hn : l0.length ≤ 1000000000) (hb : ∀ x ∈ l0, 0 ≤ x ∧ x ≤ 255) : Ev (fun k => remoraref03_Sum.f k l0) (strOfNums (shaSum l0)) := by
  have h1 := filled_of l0 hn
  have he := shaEnd_len l0.length
  have hab := all_bytes l0 hb
  have hL : (l0 ++ shaEnd l0.length).length = l0.length + (shaEnd l0.length).length := List.length_append
  obtain ⟨all, hall⟩ : ∃ all, all = l0 ++ shaEnd l0.length := ⟨_, rfl⟩
  rw [← hall] at h1 hab hL
  have h2 := sum_l0 all hab (all.length / 64) (by omega) (by omega) (all.length / 64) 0 (by omega)
  have hs : strOfNums (fours (shFull all (all.length / 64)) 8) = strOfNums (shaSum l0) := by
    rw [shaSum, ← hall, outT_fours _ 8 (by omega)]
    simp
  rw [hs] at h2
  exact Ev.bind h1 h2
theorem light_loop (l : List S44) (hn : l.length ≤ 4000000000000) (d : Nat) : ∀ i : Nat, i + d = l.length → ∃ t, Ev (fun k => remoralaw06_light.l0 k l (l.length : Int) (i : Int)) t := by
  induction d with
  | zero =>
    intro i hi
    refine ⟨true, Ev.step (f := fun _ => some true) (fun k => ?_) (Ev.now _)⟩
    simp only [remoralaw06_light.l0]
    rw [if_neg (by omega)]
  | succ d ih =>
    intro i hi
    have hlt : i < l.length := by omega
    by_cases h : (((rd_T44 l (i : Int)).f1).size : Int) > 100
    · refine ⟨false, Ev.step (f := fun _ => some false) (fun k => ?_) (Ev.now _)⟩
      simp only [remoralaw06_light.l0]
      rw [if_pos (by omega), if_pos (by omega), if_pos (by omega), if_pos h]
    · obtain ⟨t, ht⟩ := ih (i + 1) (by omega)
      refine ⟨t, Ev.step (f := fun k => remoralaw06_light.l0 k l (l.length : Int) ((i + 1 : Nat) : Int)) (fun k => ?_) ht⟩
      simp only [remoralaw06_light.l0]
      rw [if_pos (by omega), if_pos (by omega), if_pos (by omega), if_neg h, inc6 hlt hn]
theorem light_of (s b n : Int) (l : List S44) : ∃ t, Ev (fun k => remoralaw06_light.f k s b n l) t ∧ (t = true → l.length ≤ 60) := by
  unfold remoralaw06_light.f
  by_cases h : (l.length : Int) > 60
  · exact ⟨false, ev_pos h (Ev.now _), fun h => nomatch h⟩
  · obtain ⟨t, ht⟩ := light_loop l (by omega) l.length 0 (by omega)
    exact ⟨t, ev_neg h ht, fun _ => by omega⟩
theorem and16 {a : Int} (h0 : 0 ≤ a) (h1 : a < 4294967296) : Go.bits .and .u32 a 65535 = a % 65536 := by
  have := bits_mask .u32 32 (by decide) (fun n h0 h1 => by rw [IntKind.wrap_u32]; omega) 16 (by decide) a (by omega) (by omega)
  rw [show (65535 : Int) = 2 ^ 16 - 1 by decide, this]
  rfl
theorem or_comm32 (x y : Int) : Go.bits .or .u32 x y = Go.bits .or .u32 y x := by
  unfold Go.bits
  simp only []
  rw [BitVec.or_comm]
def st (a b : Int) : Int := a % 65536 + 65536 * (b % 65536)
theorem st_congr {a b a' b' : Int} (h1 : a % 65536 = a' % 65536) (h2 : b % 65536 = b' % 65536) : st a b = st a' b' := by unfold st; rw [h1, h2]
theorem rin_st (a b c : Int) (h0 : 0 ≤ c) (h1 : c ≤ 255) : rin (st a b) c = st (a + (c + 31)) (b + a + (c + 31)) := by
  show Go.bits .or .u32 (Go.bits .and .u32 ((Go.bits .and .u32 (st a b) 65535 + ((c % 4294967296 + 31) % 4294967296)) % 4294967296) 65535) ((((st a b) / 65536 + ((Go.bits .and .u32 (st a b) 65535 + ((c % 4294967296 + 31) % 4294967296)) % 4294967296)) % 4294967296 * 65536) % 4294967296) = _
  rw [and16 (a := st a b) (by unfold st; omega) (by unfold st; omega)]
  have e1 : st a b % 65536 = a % 65536 := by unfold st; omega
  have e2 : st a b / 65536 = b % 65536 := by unfold st; omega
  rw [e1, e2]
  have e3 : (a % 65536 + ((c % 4294967296 + 31) % 4294967296)) % 4294967296 = a % 65536 + (c + 31) := by omega
  rw [e3, and16 (by omega) (by omega)]
  have e4 : ((b % 65536 + (a % 65536 + (c + 31))) % 4294967296 * 65536) % 4294967296 = ((b + a + (c + 31)) % 65536) * 2 ^ 16 := by
    rw [show (2 : Int) ^ 16 = 65536 by decide]; omega
  have e5 : (a % 65536 + (c + 31)) % 65536 = (a + (c + 31)) % 65536 := by omega
  rw [e4, e5, or_comm32, or_add 16 _ _ (by omega) (by omega) (by omega) (by omega)]
  unfold st
  rw [show (2 : Int) ^ 16 = 65536 by decide]
  omega
def sA : List Int → Int
  | [] => 0
  | c :: l => (c + 31) + sA l
def sB : List Int → Int
  | [] => 0
  | c :: l => ((l.length : Int) + 1) * (c + 31) + sB l
theorem fold_st : ∀ (l : List Int), Bytes l → ∀ a b : Int, l.foldl rin (st a b) = st (a + sA l) (b + (l.length : Int) * a + sB l)
  | [], _, a, b => by
    show st a b = _
    refine st_congr ?_ ?_ <;> simp [sA, sB]
  | c :: l, hb, a, b => by
    have hc := hb c List.mem_cons_self
    rw [List.foldl_cons, rin_st a b c hc.1 hc.2, fold_st l (fun x hx => hb x (List.mem_cons_of_mem _ hx))]
    simp only [sA, sB]
    rw [List.length_cons, Int.natCast_add, Int.natCast_one, Int.add_mul, Int.one_mul, Int.add_mul, Int.one_mul, Int.mul_add (l.length : Int) a (c + 31)]
    refine st_congr ?_ ?_ <;> (congr 1; omega)
theorem rollF_st (l : List Int) (hb : Bytes l) : rollF l = st (sA l) (sB l) := by
  unfold rollF
  rw [show (0 : Int) = st 0 0 from rfl, fold_st l hb]
  refine st_congr ?_ ?_ <;> simp
theorem whole_of (x y : Int) (h0 : 0 ≤ x) (h1 : x < 65536) (h2 : 0 ≤ y) (h3 : y < 65536) : remoraref04_whole.f x y = some (st x y) := by
  have e1 : Int.tmod x 65536 = x := by rw [Int.tmod_eq_emod_of_nonneg h0]; omega
  have e2 : Int.tmod y 65536 = y := by rw [Int.tmod_eq_emod_of_nonneg h2]; omega
  unfold remoraref04_whole.f
  rw [e1, e2, if_neg (by omega), if_neg (by omega)]
  unfold st
  congr 1
  omega
theorem rroll_loop (l : List Int) (hb : Bytes l) (hn : l.length ≤ 1000000000) (d : Nat) : ∀ (i : Nat) (x y : Int), i + d = l.length → 0 ≤ x → x < 65536 → 0 ≤ y → y < 65536 →
    Ev (fun k => remoraref04_Of.l0 k l x y (i : Int)) (st (x + sA (l.drop i)) (y + sB (l.drop i))) := by
  induction d with
  | zero =>
    intro i x y hi h0 h1 h2 h3
    refine Ev.step (f := fun _ => (remoraref04_whole.f x y).bind fun t => some t) (fun k => ?_) ?_
    · simp only [remoraref04_Of.l0]
      rw [if_neg (by omega)]
    · rw [List.drop_eq_nil_of_le (show l.length ≤ i by omega), whole_of x y h0 h1 h2 h3]
      refine ev_some ?_
      unfold sA sB
      rw [Int.add_zero, Int.add_zero]
      rfl
  | succ d ih =>
    intro i x y hi h0 h1 h2 h3
    have hlt : i < l.length := by omega
    obtain ⟨c, hc⟩ : ∃ c, c = l[i] := ⟨_, rfl⟩
    have e : rd l (i : Int) = c := by rw [hc]; unfold rd; rw [Int.toNat_natCast, List.getD_eq_getElem?_getD, List.getElem?_eq_getElem hlt]; rfl
    have hcb := hb c (by rw [hc]; exact List.getElem_mem hlt)
    have hm : (((l.length : Int) - (i : Int)) % 65536) * (c + 31) ≤ 65536 * 286 := Int.le_trans (Int.mul_le_mul_of_nonneg_right (show ((l.length : Int) - (i : Int)) % 65536 ≤ 65536 by omega) (by omega)) (Int.mul_le_mul_of_nonneg_left (by omega) (by omega))
    have hm0 : 0 ≤ (((l.length : Int) - (i : Int)) % 65536) * (c + 31) := Int.mul_nonneg (by omega) (by omega)
    have e1 : Int.tmod (wrap64 (wrap64 (x + wrap64 c) + 31)) 65536 = (x + (c + 31)) % 65536 := by
      rw [w64 c (by omega) (by omega), w64 (x + c) (by omega) (by omega), w64 (x + c + 31) (by omega) (by omega), Int.tmod_eq_emod_of_nonneg (by omega), Int.add_assoc]
    have e2 : Int.tmod (wrap64 ((l.length : Int) - (i : Int))) 65536 = ((l.length : Int) - (i : Int)) % 65536 := by
      rw [w64 _ (by omega) (by omega), Int.tmod_eq_emod_of_nonneg (by omega)]
    have e3 : Int.tmod (wrap64 (y + wrap64 ((Int.tmod (wrap64 ((l.length : Int) - (i : Int))) 65536) * wrap64 (wrap64 c + 31)))) 65536 = (y + (((l.length : Int) - (i : Int)) % 65536) * (c + 31)) % 65536 := by
      rw [e2, w64 c (by omega) (by omega), w64 (c + 31) (by omega) (by omega)]
      generalize (((l.length : Int) - (i : Int)) % 65536) * (c + 31) = p at hm hm0 ⊢
      rw [w64 p (by omega) (by omega), w64 (y + p) (by omega) (by omega), Int.tmod_eq_emod_of_nonneg (by omega)]
    have hnext := ih (i + 1) ((x + (c + 31)) % 65536) ((y + (((l.length : Int) - (i : Int)) % 65536) * (c + 31)) % 65536) (by omega) (by omega) (by omega) (by omega) (by omega)
    have hdrop : l.drop i = c :: l.drop (i + 1) := by rw [hc]; exact List.drop_eq_getElem_cons hlt
    have hst : st ((x + (c + 31)) % 65536 + sA (l.drop (i + 1))) ((y + (((l.length : Int) - (i : Int)) % 65536) * (c + 31)) % 65536 + sB (l.drop (i + 1))) = st (x + sA (l.drop i)) (y + sB (l.drop i)) := by
      rw [hdrop]
      simp only [sA, sB]
      have hl : ((l.drop (i + 1)).length : Int) + 1 = (l.length : Int) - (i : Int) := by rw [List.length_drop]; omega
      rw [hl]
      generalize hM : (l.length : Int) - (i : Int) = M at *
      have hq : M * (c + 31) = 65536 * ((M / 65536) * (c + 31)) + (M % 65536) * (c + 31) := by
        rw [← Int.mul_assoc, ← Int.add_mul]
        congr 1
        omega
      refine st_congr (by omega) ?_
      rw [hq]
      generalize (M / 65536) * (c + 31) = u
      generalize (M % 65536) * (c + 31) = v
      generalize sB (l.drop (i + 1)) = z
      omega
    rw [hst] at hnext
    refine Ev.step (f := fun k => remoraref04_Of.l0 k l ((x + (c + 31)) % 65536) ((y + (((l.length : Int) - (i : Int)) % 65536) * (c + 31)) % 65536) ((i + 1 : Nat) : Int)) (fun k => ?_) hnext
    simp only [remoraref04_Of.l0]
    rw [if_pos (by omega), if_pos (by omega), e, e1, e3, inc6 hlt (by omega)]
theorem rroll_of (l : List Int) (hb : Bytes l) (hn : l.length ≤ 1000000000) : Ev (fun k => remoraref04_Of.f k l) (rollF l) := by
  have := rroll_loop l hb hn l.length 0 0 0 (by omega) (by omega) (by omega) (by omega) (by omega)
  rw [List.drop_zero, Int.zero_add, Int.zero_add, ← rollF_st l hb] at this
  exact this
theorem rrange_no {s b i : Int} (h : i < 0 ∨ Ct s b ≤ i) : Ev (fun k => remoraref05_Range.f k s b i) (0, 0, false) := by
  unfold remoraref05_Range.f
  by_cases h1 : i < 0
  · exact ev_pos h1 (Ev.now _)
  · exact ev_neg h1 (Ev.bind (refcount_ev s b) (ev_pos (by omega) (Ev.now _)))
theorem rrange_yes {s b i : Int} (h0 : 0 ≤ i) (h : i < Ct s b) : Ev (fun k => remoraref05_Range.f k s b i) (i * b, mn s ((i + 1) * b), true) := by
  obtain ⟨r1, r2, r3, r4⟩ := rg_true (ct_right h0 h)
  obtain ⟨b1, b2, b3, b4⟩ := ct_bounds (ct_right h0 h)
  obtain ⟨m1, m2⟩ := mul_bounds h0 (show i ≤ 8192 by omega) r3 r4
  unfold remoraref05_Range.f
  refine ev_neg (by omega) (Ev.bind (refcount_ev s b) (ev_neg (by omega) ?_))
  rw [w64 (i * b) (by omega) (by omega), w64 (i * b + b) (by omega) (by omega), show i * b + b = (i + 1) * b by rw [Int.add_mul, Int.one_mul]]
  refine ev_some ?_
  congr 3
  unfold mn
  split <;> split <;> omega
theorem rfits_no (i : Int) (x : List Int) (s b n : Int) (l : List S44) : Ev (fun k => remoraref06_Fits.j0 k i x true s b n l) false := by
  refine Ev.step (f := fun _ => some false) (fun k => ?_) (Ev.now _)
  simp only [remoraref06_Fits.j0]
  rw [if_pos trivial]
theorem fits_of (s b n : Int) (l : List S44) (i : Int) (x : List Int) (hx : x.length ≤ 1000000) (hb : Bytes x) : ∃ t, Ev (fun k => sig_Fits.f k s b n l i x) t ∧ Ev (fun k => remoraref06_Fits.f k s b n l i x) t := by
  unfold sig_Fits.f remoraref06_Fits.f
  by_cases h : Ck s b n l = 0
  · obtain ⟨h1, h2, h3⟩ := ck_ok h
    have hn := (fr_ok h1).1
    by_cases h4 : i < 0 ∨ Ct s b ≤ i
    · exact ⟨false, Ev.bind (ev_some (check_of s b n l)) (ev_pos h (Ev.bind (ev_some (range_no h4)) (ev_neg (by decide) (Ev.now _)))),
        Ev.bind (rcheck_of s b n l) (ev_pos h (Ev.bind (rrange_no h4) (ev_neg (by decide) (rfits_no _ _ _ _ _ _))))⟩
    · have i0 : 0 ≤ i := by omega
      have i1 : i < Ct s b := by omega
      by_cases h5 : wrap64 (mn s ((i + 1) * b) - i * b) = (x.length : Int)
      · refine ⟨((rd_T44 l i).f0 == (markF x n).f0) && ((rd_T44 l i).f1.toList == (markF x n).f1.toList), ?_, ?_⟩
        · exact Ev.bind (ev_some (check_of s b n l)) (ev_pos h (Ev.bind (ev_some (range_yes i0 i1)) (ev_pos rfl (ev_pos h5 (ev_pos i0 (ev_pos (by omega) (Ev.bind (mark_of x (by omega) n (by omega) (by omega)) (Ev.now _))))))))
        · refine Ev.bind (rcheck_of s b n l) (ev_pos h (Ev.bind (rrange_yes i0 i1) (ev_pos rfl ?_)))
          have e : ((x.length : Int) != wrap64 (mn s ((i + 1) * b) - i * b)) = false := by rw [h5]; simp
          show Ev (fun k => remoraref06_Fits.j0 k i x ((x.length : Int) != wrap64 (mn s ((i + 1) * b) - i * b)) s b n l) _
          rw [e]
          refine Ev.step (f := fun k => (remoraref04_Of.f k x).bind fun t277 => (if 0 ≤ i then (if i < (l.length : Int) then (if t277 = ((rd_T44 l i).f0) then ((remoraref03_Sum.f k x).bind fun t279 => (if 0 ≤ n then (if n ≤ (t279.size : Int) then (some ((t279.extract 0 (n : Int).toNat).toList == ((rd_T44 l i).f1).toList)) else (none)) else (none))) else (some false)) else (none)) else (none))) (fun k => ?_) ?_
          · simp only [remoraref06_Fits.j0]
            rw [if_neg (by decide)]
          · refine Ev.bind (rroll_of x hb (by omega)) (ev_pos i0 (ev_pos (by omega) ?_))
            by_cases h6 : rollF x = (rd_T44 l i).f0
            · refine ev_pos h6 (Ev.bind (rsum_of x (by omega) hb) (ev_pos (by omega) (ev_pos (by rw [sum_size]; omega) (ev_some ?_))))
              have e1 : ((rd_T44 l i).f0 == (markF x n).f0) = true := by rw [← h6]; exact beq_self_eq_true _
              rw [e1, Bool.true_and]
              congr 1
              exact Bool.beq_comm
            · refine ev_neg h6 (ev_some ?_)
              have e1 : ((rd_T44 l i).f0 == (markF x n).f0) = false := by
                rw [beq_eq_false_iff_ne]
                exact fun h7 => h6 h7.symm
              rw [e1, Bool.false_and]
      · refine ⟨false, Ev.bind (ev_some (check_of s b n l)) (ev_pos h (Ev.bind (ev_some (range_yes i0 i1)) (ev_pos rfl (ev_neg h5 (Ev.now _))))), ?_⟩
        refine Ev.bind (rcheck_of s b n l) (ev_pos h (Ev.bind (rrange_yes i0 i1) (ev_pos rfl ?_)))
        have e : ((x.length : Int) != wrap64 (mn s ((i + 1) * b) - i * b)) = true := by rw [bne_iff_ne]; exact fun h7 => h5 h7.symm
        show Ev (fun k => remoraref06_Fits.j0 k i x ((x.length : Int) != wrap64 (mn s ((i + 1) * b) - i * b)) s b n l) _
        rw [e]
        exact rfits_no _ _ _ _ _ _
  · exact ⟨false, Ev.bind (ev_some (check_of s b n l)) (ev_neg h (Ev.now _)), Ev.bind (rcheck_of s b n l) (ev_neg h (Ev.now _))⟩
theorem SigFits : remoralaw06_SigFits.Pure := by
  intro s b n l i x _ _ _ hl _ hx _
  refine Ev.rounds ?_
  unfold remoralaw06_SigFits.f
  have ha : Ev (fun k => (remoralaw06_awake.f k).bind fun t => some t) true := Ev.bind awake6 (Ev.now _)
  have hj : Ev (fun k => remoralaw06_SigFits.j0 k i x true s b n l) true := by
    refine Ev.step (f := fun k => (remoralaw06_awake.f k).bind fun t => some t) (fun k => ?_) ha
    simp only [remoralaw06_SigFits.j0]
    rw [if_pos trivial]
  obtain ⟨t, ht, h60⟩ := light_of s b n l
  refine Ev.bind ht ?_
  by_cases h : t = true
  · refine ev_pos h ?_
    by_cases h5 : (x.length : Int) > 5000
    · rw [decide_eq_true h5]
      exact hj
    · rw [decide_eq_false h5]
      obtain ⟨u, h1, h2⟩ := fits_of s b n l i x (by omega) (fun y hy => byte_wf (hx.2 y hy))
      refine Ev.step (f := fun k => (sig_Fits.f k s b n l i x).bind fun t284 => ((remoraref06_Fits.f k s b n l i x).bind fun t285 => (if (t284 == t285) = true then ((remoralaw06_awake.f k).bind fun t286 => (some t286)) else (none)))) (fun k => ?_) ?_
      · simp only [remoralaw06_SigFits.j0]
        rw [if_neg (by decide)]
      · exact Ev.bind h1 (Ev.bind h2 (ev_pos (by simp) ha))
  · exact ev_neg h hj

end Go.Proofs.YtjhgeppjpofjpaaDoor.Pure
