/- What a signature is as bytes is read as it was, and what is read is put as the same bytes, for at most 60 marks and 3,000 bytes. Conditions: none. -/
import Derived.Test.YtjhgeppjpofjpaaDoorPSigBackx10
namespace Go.Proofs.YtjhgeppjpofjpaaDoor.Pure
open Go.RowKit Go.Proofs.YtjhgeppjpofjpaaDoor.PSigBack Go.Proofs.YtjhgeppjpofjpaaDoorW.PrintWords Go.Proofs.YtjhgeppjpofjpaaDoorW.PrintLast Go.Proofs.YtjhgeppjpofjpaaDoorW.PrintMore
set_option maxRecDepth 100000
set_option linter.unusedVariables false
theorem w64 (n : Int) (h0 : -9223372036854775808 ≤ n) (h1 : n ≤ 9223372036854775807) : wrap64 n = n := by unfold wrap64; omega
/-- The length by cases. -/
def Ln (s : Int) : Int := if s ≤ 256 then 16 else if s ≤ 1024 then 32 else if s ≤ 4096 then 64 else if s ≤ 16384 then 128 else if s ≤ 65536 then 256 else if s ≤ 262144 then 512 else if s ≤ 1048576 then 1024 else if s ≤ 4194304 then 2048 else 4096
theorem length_of (s : Int) (m : Nat) : blocks_Length.f (m + 9) s = some (Ln s) := by
  have e1 : wrap64 (16 * 16) = 256 := by unfold wrap64; decide
  have e2 : wrap64 (32 * 32) = 1024 := by unfold wrap64; decide
  have e3 : wrap64 (64 * 64) = 4096 := by unfold wrap64; decide
  have e4 : wrap64 (128 * 128) = 16384 := by unfold wrap64; decide
  have e5 : wrap64 (256 * 256) = 65536 := by unfold wrap64; decide
  have e6 : wrap64 (512 * 512) = 262144 := by unfold wrap64; decide
  have e7 : wrap64 (1024 * 1024) = 1048576 := by unfold wrap64; decide
  have e8 : wrap64 (2048 * 2048) = 4194304 := by unfold wrap64; decide
  have d1 : wrap64 (16 * 2) = 32 := by unfold wrap64; decide
  have d2 : wrap64 (32 * 2) = 64 := by unfold wrap64; decide
  have d3 : wrap64 (64 * 2) = 128 := by unfold wrap64; decide
  have d4 : wrap64 (128 * 2) = 256 := by unfold wrap64; decide
  have d5 : wrap64 (256 * 2) = 512 := by unfold wrap64; decide
  have d6 : wrap64 (512 * 2) = 1024 := by unfold wrap64; decide
  have d7 : wrap64 (1024 * 2) = 2048 := by unfold wrap64; decide
  have d8 : wrap64 (2048 * 2) = 4096 := by unfold wrap64; decide
  unfold blocks_Length.f Ln
  by_cases c1 : s ≤ 256
  · rw [if_pos c1]; simp only [blocks_Length.l0]; rw [if_pos (by decide), e1, if_neg (by omega)]
  rw [if_neg c1]
  by_cases c2 : s ≤ 1024
  · rw [if_pos c2]; simp only [blocks_Length.l0]; rw [if_pos (by decide), e1, if_pos (by omega), d1, if_pos (by decide), e2, if_neg (by omega)]
  rw [if_neg c2]
  by_cases c3 : s ≤ 4096
  · rw [if_pos c3]; simp only [blocks_Length.l0]; rw [if_pos (by decide), e1, if_pos (by omega), d1, if_pos (by decide), e2, if_pos (by omega), d2, if_pos (by decide), e3, if_neg (by omega)]
  rw [if_neg c3]
  by_cases c4 : s ≤ 16384
  · rw [if_pos c4]; simp only [blocks_Length.l0]; rw [if_pos (by decide), e1, if_pos (by omega), d1, if_pos (by decide), e2, if_pos (by omega), d2, if_pos (by decide), e3, if_pos (by omega), d3, if_pos (by decide), e4, if_neg (by omega)]
  rw [if_neg c4]
  by_cases c5 : s ≤ 65536
  · rw [if_pos c5]; simp only [blocks_Length.l0]; rw [if_pos (by decide), e1, if_pos (by omega), d1, if_pos (by decide), e2, if_pos (by omega), d2, if_pos (by decide), e3, if_pos (by omega), d3, if_pos (by decide), e4, if_pos (by omega), d4, if_pos (by decide), e5, if_neg (by omega)]
  rw [if_neg c5]
  by_cases c6 : s ≤ 262144
  · rw [if_pos c6]; simp only [blocks_Length.l0]; rw [if_pos (by decide), e1, if_pos (by omega), d1, if_pos (by decide), e2, if_pos (by omega), d2, if_pos (by decide), e3, if_pos (by omega), d3, if_pos (by decide), e4, if_pos (by omega), d4, if_pos (by decide), e5, if_pos (by omega), d5, if_pos (by decide), e6, if_neg (by omega)]
  rw [if_neg c6]
  by_cases c7 : s ≤ 1048576
  · rw [if_pos c7]; simp only [blocks_Length.l0]; rw [if_pos (by decide), e1, if_pos (by omega), d1, if_pos (by decide), e2, if_pos (by omega), d2, if_pos (by decide), e3, if_pos (by omega), d3, if_pos (by decide), e4, if_pos (by omega), d4, if_pos (by decide), e5, if_pos (by omega), d5, if_pos (by decide), e6, if_pos (by omega), d6, if_pos (by decide), e7, if_neg (by omega)]
  rw [if_neg c7]
  by_cases c8 : s ≤ 4194304
  · rw [if_pos c8]; simp only [blocks_Length.l0]; rw [if_pos (by decide), e1, if_pos (by omega), d1, if_pos (by decide), e2, if_pos (by omega), d2, if_pos (by decide), e3, if_pos (by omega), d3, if_pos (by decide), e4, if_pos (by omega), d4, if_pos (by decide), e5, if_pos (by omega), d5, if_pos (by decide), e6, if_pos (by omega), d6, if_pos (by decide), e7, if_pos (by omega), d7, if_pos (by decide), e8, if_neg (by omega)]
  rw [if_neg c8]
  simp only [blocks_Length.l0]; rw [if_pos (by decide), e1, if_pos (by omega), d1, if_pos (by decide), e2, if_pos (by omega), d2, if_pos (by decide), e3, if_pos (by omega), d3, if_pos (by decide), e4, if_pos (by omega), d4, if_pos (by decide), e5, if_pos (by omega), d5, if_pos (by decide), e6, if_pos (by omega), d6, if_pos (by decide), e7, if_pos (by omega), d7, if_pos (by decide), e8, if_pos (by omega), d8, if_neg (by decide)]
def Rg (s b : Int) : Bool := decide (0 ≤ s ∧ s ≤ 131072 ∧ 16 ≤ b ∧ b ≤ 4096)
theorem right_of (s b : Int) : blocks_Right.f s b = some (Rg s b) := by
  unfold blocks_Right.f blocks_block.f Rg
  by_cases h1 : s ≥ 0
  · rw [if_pos h1]
    by_cases h2 : s ≤ 131072
    · rw [if_pos h2]
      by_cases h3 : b ≥ 16
      · rw [if_pos h3]; exact congrArg some (decide_eq_decide.2 (by omega))
      · rw [if_neg h3]; exact congrArg some (decide_eq_false (by omega)).symm
    · rw [if_neg h2]; exact congrArg some (decide_eq_false (by omega)).symm
  · rw [if_neg h1]; exact congrArg some (decide_eq_false (by omega)).symm
theorem rg_true {s b : Int} (h : Rg s b = true) : 0 ≤ s ∧ s ≤ 131072 ∧ 16 ≤ b ∧ b ≤ 4096 := of_decide_eq_true h
theorem rg_mk {s b : Int} (h : 0 ≤ s ∧ s ≤ 131072 ∧ 16 ≤ b ∧ b ≤ 4096) : Rg s b = true := decide_eq_true h
/-- How many blocks. -/
def Ct (s b : Int) : Int := if Rg s b = true then (s + b - 1) / b else 0
theorem ct_bounds {s b : Int} (h : Rg s b = true) : Ct s b * b ≤ s + b - 1 ∧ s ≤ Ct s b * b ∧ 0 ≤ Ct s b ∧ Ct s b ≤ 8192 := by
  obtain ⟨h1, h2, h3, h4⟩ := rg_true h
  unfold Ct; rw [if_pos h]
  have a := Int.ediv_mul_le (s + b - 1) (b := b) (by omega)
  have c := Int.lt_ediv_add_one_mul_self (s + b - 1) (b := b) (by omega)
  have d : 0 ≤ (s + b - 1) / b := Int.ediv_nonneg (by omega) (by omega)
  have e : (s + b - 1) / b < 8193 := Int.ediv_lt_of_lt_mul (by omega) (by omega)
  rw [Int.add_mul] at c
  exact ⟨a, by omega, d, by omega⟩
theorem count_of (s b : Int) : blocks_Count.f s b = some (Ct s b) := by
  unfold blocks_Count.f
  rw [right_of]; simp only [Option.bind_some]
  by_cases h : Rg s b = true
  · obtain ⟨h1, h2, h3, h4⟩ := rg_true h
    have hb := ct_bounds h
    unfold Ct at hb ⊢
    rw [if_pos h] at hb
    rw [if_pos h, if_pos h, if_neg (by omega), w64 (s + b) (by omega) (by omega), w64 (s + b - 1) (by omega) (by omega), Int.tdiv_eq_ediv_of_nonneg (by omega), w64 _ (by omega) (by omega)]
  · unfold Ct; rw [if_neg h, if_neg h]
theorem mul_bounds {i b : Int} (h0 : 0 ≤ i) (h1 : i ≤ 8192) (h2 : 16 ≤ b) (h3 : b ≤ 4096) : 0 ≤ i * b ∧ i * b ≤ 8192 * 4096 :=
  ⟨Int.mul_nonneg h0 (by omega), Int.mul_le_mul h1 h3 (by omega) (by omega)⟩
theorem range_no {s b i : Int} (h : i < 0 ∨ Ct s b ≤ i) : blocks_Range.f s b i = some (0, 0, false) := by
  unfold blocks_Range.f
  by_cases h0 : i < 0
  · rw [if_pos h0]
  · rw [if_neg h0, count_of]; simp only [Option.bind_some]; rw [if_pos (by omega)]
theorem ct_right {s b i : Int} (h0 : 0 ≤ i) (h : i < Ct s b) : Rg s b = true := by
  by_cases hr : Rg s b = true
  · exact hr
  · unfold Ct at h; rw [if_neg hr] at h; omega
theorem range_yes {s b i : Int} (h0 : 0 ≤ i) (h : i < Ct s b) : blocks_Range.f s b i = some (i * b, mn s ((i + 1) * b), true) := by
  have hr := ct_right h0 h
  obtain ⟨h1, h2, h3, h4⟩ := rg_true hr
  have hb := ct_bounds hr
  have m1 := mul_bounds (i := i) (b := b) h0 (by omega) h3 h4
  have m2 := mul_bounds (i := i + 1) (b := b) (by omega) (by omega) h3 h4
  unfold blocks_Range.f
  rw [if_neg (by omega), count_of]; simp only [Option.bind_some]
  rw [if_neg (by omega), w64 (i * b) (by omega) (by omega), w64 (i + 1) (by omega) (by omega), w64 ((i + 1) * b) (by omega) (by omega)]
/-- The bytes of a number: seven bits each, the lowest first. -/
def nb (n : Nat) : List Int := if n < 128 then [(n : Int)] else ((128 + n % 128 : Nat) : Int) :: nb (n / 128)
termination_by n
decreasing_by omega
theorem nb_small {n : Nat} (h : n < 128) : nb n = [(n : Int)] := by rw [nb, if_pos h]
theorem nb_more {n : Nat} (h : ¬ n < 128) : nb n = ((128 + n % 128 : Nat) : Int) :: nb (n / 128) := by rw [nb, if_neg h]
theorem nb_pos (n : Nat) : 1 ≤ (nb n).length := by
  by_cases h : n < 128
  · rw [nb_small h]; exact Nat.le_refl _
  · rw [nb_more h]; simp
theorem nb_len (m : Nat) : ∀ n : Nat, n < 128 ^ m → 0 < m → (nb n).length ≤ m := by
  induction m with
  | zero => intro n h h0; omega
  | succ m ih =>
    intro n h _
    by_cases hs : n < 128
    · rw [nb_small hs]; simp
    · rw [nb_more hs, List.length_cons]
      have hm : 0 < m := by
        rcases Nat.eq_zero_or_pos m with rfl | hm
        · simp at h; omega
        · exact hm
      have := ih (n / 128) (by rw [Nat.div_lt_iff_lt_mul (by decide), ← Nat.pow_succ]; exact h) hm
      omega
theorem nb_nine {n : Nat} (h : n ≤ 4611686018427387903) : (nb n).length ≤ 9 := nb_len 9 n (by omega) (by decide)
theorem nb_bytes (n : Nat) : ∀ x ∈ nb n, 0 ≤ x ∧ x ≤ 255 := by
  induction n using Nat.strongRecOn with
  | _ n ih =>
    by_cases h : n < 128
    · rw [nb_small h]; intro x hx; obtain rfl := List.mem_singleton.1 hx; omega
    · rw [nb_more h]
      intro x hx
      rcases List.mem_cons.1 hx with rfl | hx
      · omega
      · exact ih (n / 128) (by omega) x hx
/-- A number within what may be put. -/
def cl (a : Int) : Nat := (mn (mx a 0) 4611686018427387903).toNat
theorem cl_le (a : Int) : cl a ≤ 4611686018427387903 := by unfold cl mn mx; split <;> split <;> omega
theorem cl_eq (a : Int) : mn (mx a 0) 4611686018427387903 = (cl a : Int) := by unfold cl mn mx; split <;> split <;> omega
theorem cl_of {a : Int} (h0 : 0 ≤ a) (h : a ≤ 4611686018427387903) : (cl a : Int) = a := by unfold cl mn mx; split <;> split <;> omega
theorem ev_pos {α : Type} {c : Prop} [Decidable c] (h : c) {f g : Nat → Option α} {r : α} (k : Ev f r) : Ev (fun k => if c then f k else g k) r := Ev.congr (fun _ => if_pos h) k
theorem ev_neg {α : Type} {c : Prop} [Decidable c] (h : ¬ c) {f g : Nat → Option α} {r : α} (k : Ev g r) : Ev (fun k => if c then f k else g k) r := Ev.congr (fun _ => if_neg h) k
theorem ev_some {α : Type} {o : Option α} {r : α} (h : o = some r) : Ev (fun _ => o) r := by subst h; exact Ev.now _
theorem size_loop (d : Nat) : ∀ (n : Nat) (s : Int), (nb n).length ≤ d → n ≤ 4611686018427387903 → 0 ≤ s → s + (d : Int) ≤ 1000 → Ev (fun k => num_Size.l0 k n s) (s + ((nb n).length : Int) - 1) := by
  induction d with
  | zero => intro n s h; have := nb_pos n; omega
  | succ d ih =>
    intro n s h hn h0 h1
    by_cases hs : n < 128
    · refine Ev.step (f := fun _ => some s) (fun k => ?_) ?_
      · simp only [num_Size.l0]; rw [if_neg (by omega)]
      · rw [nb_small hs]
        have e : s + (([(n : Int)] : List Int).length : Int) - 1 = s := by simp
        rw [e]; exact Ev.now _
    · have e1 : wrap64 (s + 1) = s + 1 := by unfold wrap64; omega
      have hl : (nb n).length = (nb (n / 128)).length + 1 := by rw [nb_more hs, List.length_cons]
      refine Ev.step (f := fun k => num_Size.l0 k ((n / 128 : Nat) : Int) (s + 1)) (fun k => ?_) ?_
      · simp only [num_Size.l0]; rw [if_pos (by omega), e1]; rfl
      · have := ih (n / 128) (s + 1) (by omega) (by omega) (by omega) (by omega)
        rw [hl]
        rw [show s + (((nb (n / 128)).length + 1 : Nat) : Int) - 1 = s + 1 + ((nb (n / 128)).length : Int) - 1 by omega]
        exact this
theorem size_of (a : Int) : Ev (fun k => num_Size.f k (mn (mx a 0) 4611686018427387903)) ((nb (cl a)).length : Int) := by
  unfold num_Size.f
  have e : mn (mx (cl a : Int) 0) 4611686018427387903 = (cl a : Int) := by have := cl_le a; unfold mn mx; split <;> split <;> omega
  rw [cl_eq a, e]
  have := size_loop (nb (cl a)).length (cl a) 1 (Nat.le_refl _) (cl_le a) (by decide) (by have := nb_nine (cl_le a); omega)
  rwa [show (1 : Int) + ((nb (cl a)).length : Int) - 1 = ((nb (cl a)).length : Int) by omega] at this
theorem wrap62 (n : Int) (h0 : 0 ≤ n) (h1 : n < 2 ^ 62) : IntKind.i64.wrap n = n := by rw [IntKind.wrap_i64]; omega
theorem low7 {n : Nat} (h : n ≤ 4611686018427387903) : (Go.bits .or .i64 (Go.bits .and .i64 (n : Int) 127) 128) % 256 = ((128 + n % 128 : Nat) : Int) := by
  have h1 : Go.bits .and .i64 (n : Int) 127 = (n : Int) % 128 := bits_mask .i64 62 (by decide) wrap62 7 (by decide) n (by omega) (by omega)
  have e : (n : Int) % 128 = ((n % 128 : Nat) : Int) := by omega
  have h2 := (bits_nat .i64 62 (by decide) wrap62 (n % 128) 128 (by omega) (by decide)).2
  have h3 : n % 128 ||| 128 = 128 + n % 128 := by
    rw [Nat.or_comm]
    have := Nat.two_pow_add_eq_or_of_lt (i := 7) (b := n % 128) (by omega) 1
    rw [Nat.mul_one] at this
    exact this.symm
  rw [h1, e, show (128 : Int) = ((128 : Nat) : Int) from rfl, h2, h3]
  omega
theorem putN_loop (m : Nat) (hm : m ≤ 9) (d : Nat) : ∀ (i n : Nat) (l : List Int), (nb n).length = d + 1 → i + d = m → n ≤ 4611686018427387903 → l.length ≤ 2000000000 + i → Ev (fun k => num_Put.l0 k n l (m : Int) (i : Int)) (l ++ nb n) := by
  induction d with
  | zero =>
    intro i n l hd hi hn hl
    have hs : n < 128 := by
      by_cases hs : n < 128
      · exact hs
      · rw [nb_more hs, List.length_cons] at hd
        have := nb_pos (n / 128)
        omega
    rw [nb_small hs]
    refine Ev.step (f := fun _ => some (l ++ [(n : Int)])) (fun k => ?_) (Ev.now _)
    simp only [num_Put.l0]
    rw [if_neg (by omega), if_pos (by omega), show (n : Int) % 256 = (n : Int) by omega]
  | succ d ih =>
    intro i n l hd hi hn hl
    have hs : ¬ n < 128 := by
      intro hs
      rw [nb_small hs] at hd
      simp at hd
    rw [nb_more hs] at hd ⊢
    have hd' : (nb (n / 128)).length = d + 1 := by rw [List.length_cons] at hd; omega
    have e1 : wrap64 ((i : Int) + 1) = ((i + 1 : Nat) : Int) := by unfold wrap64; omega
    refine Ev.step (f := fun k => num_Put.l0 k ((n / 128 : Nat) : Int) (l ++ [((128 + n % 128 : Nat) : Int)]) (m : Int) ((i + 1 : Nat) : Int)) (fun k => ?_) ?_
    · simp only [num_Put.l0]
      rw [if_pos (by omega), if_pos (by omega), low7 hn, e1]
      rfl
    · have := ih (i + 1) (n / 128) (l ++ [((128 + n % 128 : Nat) : Int)]) hd' (by omega) (by omega) (by rw [List.length_append]; simp; omega)
      rwa [List.append_assoc, List.singleton_append] at this
theorem put_of (l : List Int) (a : Int) (hl : l.length ≤ 2000000000) : Ev (fun k => num_Put.f k l a) (l ++ nb (cl a)) := by
  unfold num_Put.f
  refine Ev.bind (size_of a) ?_
  have h9 := nb_nine (cl_le a)
  have h1 := nb_pos (cl a)
  have e1 : wrap64 ((l.length : Int) + ((nb (cl a)).length : Int)) = (l.length : Int) + ((nb (cl a)).length : Int) := by unfold wrap64; omega
  have e2 : wrap64 (((nb (cl a)).length : Int) - 1) = (((nb (cl a)).length - 1 : Nat) : Int) := by unfold wrap64; omega
  rw [e1]
  refine ev_pos (by omega) (ev_pos (by omega) ?_)
  simp only [Option.bind_some, List.replicate_zero, List.nil_append, List.length_nil, Nat.zero_add]
  refine ev_pos (by omega) (Ev.bind (size_of a) ?_)
  rw [e2, cl_eq]
  exact putN_loop ((nb (cl a)).length - 1) (by omega) ((nb (cl a)).length - 1) 0 (cl a) l (by omega) (by omega) (cl_le a) (by omega)
def Bytes (l : List Int) : Prop := ∀ x ∈ l, 0 ≤ x ∧ x ≤ 255
/-- One bit falls out. -/
def st1 (x : Nat) : Nat := (x >>> 1) ^^^ (if x % 2 = 1 then 3988292384 else 0)
def stN : Nat → Nat → Nat
  | 0, x => x
  | d + 1, x => stN d (st1 x)
theorem st1_lt {x : Nat} (h : x < 4294967296) : st1 x < 4294967296 := by
  unfold st1
  have h1 : x >>> 1 < 2 ^ 32 := by rw [Nat.shiftRight_eq_div_pow]; omega
  refine Nat.xor_lt_two_pow h1 ?_
  split <;> decide
theorem stN_lt (d : Nat) : ∀ {x : Nat}, x < 4294967296 → stN d x < 4294967296 := by
  induction d with
  | zero => intro x h; exact h
  | succ d ih => intro x h; exact ih (st1_lt h)
theorem xor_lc (a b c : Nat) : a ^^^ (b ^^^ c) = b ^^^ (a ^^^ c) := by rw [← Nat.xor_assoc, Nat.xor_comm a b, Nat.xor_assoc]
theorem st1_xor (a b : Nat) : st1 (a ^^^ b) = st1 a ^^^ st1 b := by
  unfold st1
  rw [Nat.shiftRight_xor_distrib]
  have hm : (a ^^^ b) % 2 = (a % 2) ^^^ (b % 2) := by have := Nat.xor_mod_two_pow (a := a) (b := b) (n := 1); simpa using this
  rw [hm]
  rcases Nat.mod_two_eq_zero_or_one a with ha | ha <;> rcases Nat.mod_two_eq_zero_or_one b with hb | hb
  · rw [ha, hb]; simp
  · rw [ha, hb]; simp [Nat.xor_assoc]
  · rw [ha, hb]
    rw [if_pos (by decide), if_pos rfl, if_neg (by decide), Nat.xor_zero, Nat.xor_assoc, Nat.xor_assoc, Nat.xor_comm (b >>> 1)]
  · rw [ha, hb]
    rw [if_neg (by decide), if_pos rfl, Nat.xor_zero, Nat.xor_assoc, xor_lc 3988292384 (b >>> 1), Nat.xor_self, Nat.xor_zero]
theorem stN_xor (d : Nat) : ∀ a b : Nat, stN d (a ^^^ b) = stN d a ^^^ stN d b := by
  induction d with
  | zero => intro a b; rfl
  | succ d ih => intro a b; show stN d (st1 (a ^^^ b)) = _; rw [st1_xor, ih]; rfl
theorem st1_even (q : Nat) : st1 (2 * q) = q := by
  unfold st1
  rw [Nat.shiftRight_eq_div_pow, if_neg (by omega)]
  simp
theorem st4_high (q : Nat) : stN 4 (16 * q) = q := by
  show st1 (st1 (st1 (st1 (16 * q)))) = q
  rw [show 16 * q = 2 * (8 * q) by omega, st1_even, show 8 * q = 2 * (4 * q) by omega, st1_even, show 4 * q = 2 * (2 * q) by omega, st1_even, st1_even]
theorem st4_parts (x : Nat) : stN 4 x = (x / 16) ^^^ stN 4 (x % 16) := by
  have e : x = (16 * (x / 16)) ^^^ (x % 16) := by
    have h := Nat.two_pow_add_eq_or_of_lt (i := 4) (b := x % 16) (by omega) (x / 16)
    have hx : (16 * (x / 16)) ^^^ (x % 16) = 16 * (x / 16) ||| x % 16 := by
      apply Nat.eq_of_testBit_eq
      intro i
      rw [Nat.testBit_xor, Nat.testBit_or]
      by_cases hi : i < 4
      · have : (16 * (x / 16)).testBit i = false := by
          rw [show 16 * (x / 16) = 2 ^ 4 * (x / 16) by omega, Nat.testBit_two_pow_mul]
          simp; omega
        rw [this]; simp
      · have : (x % 16).testBit i = false := Nat.testBit_lt_two_pow (Nat.lt_of_lt_of_le (show x % 16 < 2 ^ 4 by omega) (Nat.pow_le_pow_right (by decide) (by omega)))
        rw [this]; simp
    rw [hx]
    have : (2 ^ 4 : Nat) * (x / 16) = 16 * (x / 16) := by omega
    rw [← this, ← h]
    omega
  conv => lhs; rw [e]
  rw [stN_xor, st4_high]
theorem tab_of : ∀ r : Nat, r < 16 → tab_table[r]? = some ((stN 4 r : Nat) : Int) := by decide
theorem xor_nat {a b : Nat} (ha : a < 4294967296) (hb : b < 4294967296) : Go.bits .xor .u32 (a : Int) (b : Int) = ((a ^^^ b : Nat) : Int) := by
  have h := Nat.xor_lt_two_pow (n := 32) ha hb
  unfold Go.bits
  simp only [BitVec.ofInt_natCast, BitVec.toNat_xor, BitVec.toNat_ofNat]
  rw [IntKind.wrap_u32, show IntKind.u32.bits = 32 from rfl, Nat.mod_eq_of_lt ha, Nat.mod_eq_of_lt hb]
  omega
theorem and15 {a : Nat} (ha : a < 4294967296) : Go.bits .and .u32 (a : Int) 15 = ((a % 16 : Nat) : Int) := by
  have := bits_mask .u32 32 (by decide) (fun n h0 h1 => by rw [IntKind.wrap_u32]; omega) 4 (by decide) (a : Int) (by omega) (by omega)
  rw [show (15 : Int) = 2 ^ 4 - 1 by decide, this]
  omega
theorem half_of {a : Nat} (ha : a < 4294967296) : crcHalf (a : Int) = ((stN 4 a : Nat) : Int) := by
  unfold crcHalf
  rw [and15 ha, Int.toNat_natCast, tab_of _ (Nat.mod_lt _ (by decide)), Option.getD_some, st4_parts a]
  rw [show (a : Int) / 16 = ((a / 16 : Nat) : Int) from rfl]
  exact xor_nat (by omega) (stN_lt 4 (by omega))
/-- The register behind a byte. -/
def cb (x c : Nat) : Nat := stN 8 (x ^^^ c)
theorem cb_lt {x c : Nat} (hx : x < 4294967296) (hc : c < 4294967296) : cb x c < 4294967296 := stN_lt 8 (Nat.xor_lt_two_pow (n := 32) hx hc)
theorem byte_of {x c : Nat} (hx : x < 4294967296) (hc : c < 4294967296) : crcByte (x : Int) (c : Int) = ((cb x c : Nat) : Int) := by
  unfold crcByte
  rw [show (c : Int) % 4294967296 = (c : Int) by omega, xor_nat hx hc]
  have h := Nat.xor_lt_two_pow (n := 32) hx hc
  rw [half_of h, half_of (stN_lt 4 h)]
  rfl
/-- The register behind bytes. -/
def cr (x : Nat) (l : List Int) : Nat := l.foldl (fun x c => cb x c.toNat) x
theorem cr_lt (l : List Int) (hl : Bytes l) : ∀ {x : Nat}, x < 4294967296 → cr x l < 4294967296 := by
  induction l with
  | nil => intro x hx; exact hx
  | cons c l ih =>
    intro x hx
    have := hl c List.mem_cons_self
    exact ih (fun y hy => hl y (List.mem_cons_of_mem _ hy)) (cb_lt hx (by omega))
theorem row_of (l : List Int) (hl : Bytes l) : ∀ {x : Nat}, x < 4294967296 → crcRow (x : Int) l = ((cr x l : Nat) : Int) := by
  induction l with
  | nil => intro x hx; rfl
  | cons c l ih =>
    intro x hx
    have hc := hl c List.mem_cons_self
    have e : c = ((c.toNat : Nat) : Int) := by omega
    show crcRow (crcByte (x : Int) c) l = _
    rw [e, byte_of hx (by omega)]
    exact ih (fun y hy => hl y (List.mem_cons_of_mem _ hy)) (cb_lt hx (by omega))
/-- A text's sum. -/
def cs (l : List Int) : Nat := 4294967295 - cr 4294967295 l
theorem cs_lt (l : List Int) : cs l < 4294967296 := by unfold cs; omega
theorem not_xor {a : Nat} (ha : a < 4294967296) : 4294967295 ^^^ a = 4294967295 - a := by
  have h1 : (BitVec.ofNat 32 a ^^^ BitVec.allOnes 32).toNat = (~~~ BitVec.ofNat 32 a).toNat := by rw [BitVec.xor_allOnes]
  rw [BitVec.toNat_xor, BitVec.toNat_not, BitVec.toNat_ofNat, BitVec.toNat_allOnes, Nat.mod_eq_of_lt ha] at h1
  rw [Nat.xor_comm]
  omega
theorem of_one (l : List Int) (hl : Bytes l) : crc_Of.f [l] = some ((cs l : Nat) : Int) := by
  unfold crc_Of.f cs
  show some (Go.bits .xor .u32 4294967295 (crcRow ((4294967295 : Nat) : Int) l)) = _
  have h := cr_lt l hl (x := 4294967295) (by decide)
  rw [row_of l hl (by decide), show (4294967295 : Int) = ((4294967295 : Nat) : Int) from rfl, xor_nat (by decide) h, not_xor h]
/-- A sum's bytes. -/
def sb (n : Nat) : List Int := [((n % 256 : Nat) : Int), ((n / 256 % 256 : Nat) : Int), ((n / 65536 % 256 : Nat) : Int), ((n / 16777216 : Nat) : Int)]
theorem seal4_of (l : List Int) (hl : Bytes l) : crc_seal.f l = some (((cs l % 256 : Nat) : Int), ((cs l / 256 % 256 : Nat) : Int), ((cs l / 65536 % 256 : Nat) : Int), ((cs l / 16777216 : Nat) : Int)) := by
  unfold crc_seal.f
  rw [of_one l hl]
  rfl
theorem seal_of (l : List Int) (hl : Bytes l) (hn : l.length ≤ 1000000000) : crc_Seal.f l = some (l ++ sb (cs l)) := by
  unfold crc_Seal.f
  rw [seal4_of l hl, Option.bind_some, if_pos hn]
  rfl
theorem inc6 {i n : Nat} (h : i < n) (hn : n ≤ 4000000000000) : wrap64 ((i : Int) + 1) = ((i + 1 : Nat) : Int) := by unfold wrap64; omega
theorem ev_must {α : Type} {c : Prop} [Decidable c] (h : c) {f : Nat → Option α} {r : α} (k : Ev f r) : Ev (fun k => if c then f k else none) r := ev_pos h k
theorem rd44 {l : List S44} {i : Nat} (h : i < l.length) : rd_T44 l (i : Int) = l[i] := by
  unfold rd_T44
  rw [Int.toNat_natCast, List.getD_eq_getElem?_getD, List.getElem?_eq_getElem h, Option.getD_some]
theorem step44 {l : List S44} {i : Nat} (h : i < l.length) : l.drop i = rd_T44 l (i : Int) :: l.drop (i + 1) := by
  rw [rd44 h]
  exact List.drop_eq_getElem_cons h
theorem str_all (s : ByteArray) : Bytes (bytesOf s) := by
  intro x hx
  unfold bytesOf at hx
  obtain ⟨b, _, rfl⟩ := List.mem_map.1 hx
  have := b.toNat_lt
  omega
theorem nb_b (n : Nat) : Bytes (nb n) := nb_bytes n
theorem bytes_app {a b : List Int} (ha : Bytes a) (hb : Bytes b) : Bytes (a ++ b) := fun x hx => by
  rcases List.mem_append.1 hx with h | h
  · exact ha x h
  · exact hb x h
/-- What is wrong with a signature's numbers. -/
def Fr (s b n : Int) : Int := if (1 ≤ n ∧ n ≤ 32) ∧ Rg s b = true then 0 else 2
theorem fr_ok {s b n : Int} (h : Fr s b n = 0) : (1 ≤ n ∧ n ≤ 32) ∧ Rg s b = true := by
  unfold Fr at h
  by_cases h1 : (1 ≤ n ∧ n ≤ 32) ∧ Rg s b = true
  · exact h1
  · rw [if_neg h1] at h; omega
theorem fr_mk {s b n : Int} (h : (1 ≤ n ∧ n ≤ 32) ∧ Rg s b = true) : Fr s b n = 0 := if_pos h
theorem fr_two {s b n : Int} (h : ¬ Fr s b n = 0) : Fr s b n = 2 := by
  unfold Fr at h ⊢
  by_cases h1 : (1 ≤ n ∧ n ≤ 32) ∧ Rg s b = true
  · rw [if_pos h1] at h; omega
  · rw [if_neg h1]
theorem strong_of (n : Int) : sig_strong.f n = some (decide (1 ≤ n ∧ n ≤ 32)) := by
  unfold sig_strong.f
  by_cases h : n ≥ 1
  · rw [if_pos h]; congr 1; by_cases h2 : n ≤ 32
    · rw [decide_eq_true h2, decide_eq_true ⟨h, h2⟩]
    · rw [decide_eq_false h2, decide_eq_false (fun h3 => h2 h3.2)]
  · rw [if_neg h, decide_eq_false (fun h3 => h h3.1)]
theorem front_of (s b n : Int) (l : List S44) : sig_front.f s b n l = some (Fr s b n) := by
  unfold sig_front.f Fr
  rw [strong_of, Option.bind_some]
  by_cases h : 1 ≤ n ∧ n ≤ 32
  · rw [decide_eq_true h, if_pos rfl, right_of, Option.bind_some]
    by_cases h2 : Rg s b = true
    · rw [if_pos h2, if_pos ⟨h, h2⟩]
    · rw [if_neg h2, if_neg (fun h3 => h2 h3.2)]
  · rw [decide_eq_false h, if_neg (by decide), if_neg (fun h3 => h h3.1)]
/-- What is wrong with a signature. -/
def Ck (s b n : Int) (l : List S44) : Int := if Fr s b n = 0 then (if (l.length : Int) = Ct s b then (if anyOff n l 0 = true then 5 else 0) else 5) else 2
theorem check_of (s b n : Int) (l : List S44) : sig_Check.f s b n l = some (Ck s b n l) := by
  unfold sig_Check.f Ck
  rw [front_of, Option.bind_some]
  by_cases h : Fr s b n = 0
  · rw [if_pos h, if_pos h, count_of, Option.bind_some]
    by_cases h2 : (l.length : Int) = Ct s b
    · rw [if_pos h2, if_pos h2, if_pos (by have := (ct_bounds (fr_ok h).2).2.2.2; omega)]
      by_cases h3 : anyOff n l 0 = true
      · rw [if_pos h3, if_pos h3]
      · rw [if_neg h3, if_neg h3]
    · rw [if_neg h2, if_neg h2]
  · rw [if_neg h, if_neg h, fr_two h]
theorem ck_ok {s b n : Int} {l : List S44} (h : Ck s b n l = 0) : Fr s b n = 0 ∧ (l.length : Int) = Ct s b ∧ anyOff n l 0 = false := by
  unfold Ck at h
  by_cases h1 : Fr s b n = 0
  · rw [if_pos h1] at h
    by_cases h2 : (l.length : Int) = Ct s b
    · rw [if_pos h2] at h
      by_cases h3 : anyOff n l 0 = true
      · rw [if_pos h3] at h; omega
      · exact ⟨h1, h2, by simpa using h3⟩
    · rw [if_neg h2] at h; omega
  · rw [if_neg h1] at h; omega
theorem ck_mk {s b n : Int} {l : List S44} (h1 : Fr s b n = 0) (h2 : (l.length : Int) = Ct s b) (h3 : ∀ m ∈ l, (m.f1.size : Int) = n) : Ck s b n l = 0 := by
  unfold Ck
  rw [if_pos h1, if_pos h2, if_neg]
  unfold anyOff
  rw [List.drop_zero, Bool.not_eq_true, List.any_eq_false]
  intro m hm
  have := h3 m hm
  simp [this]
theorem any_not {n : Int} {l : List S44} (h : anyOff n l 0 = false) : ∀ m ∈ l, (m.f1.size : Int) = n := by
  intro m hm
  unfold anyOff at h
  rw [List.drop_zero, List.any_eq_false] at h
  have := h m hm
  simpa using this
/-- A signature's numbers as bytes. -/
def hd3 (s b n : Int) : List Int := nb (cl s) ++ nb (cl b) ++ nb (cl n)
theorem hd3_b (s b n : Int) : Bytes (hd3 s b n) := bytes_app (bytes_app (nb_b _) (nb_b _)) (nb_b _)
theorem hd3_len (s b n : Int) : (hd3 s b n).length ≤ 27 := by
  unfold hd3
  rw [List.length_append, List.length_append]
  have h1 := nb_nine (cl_le s)
  have h2 := nb_nine (cl_le b)
  have h3 := nb_nine (cl_le n)
  omega
theorem numbers_of (s b n : Int) : Ev (fun k => sig_numbers.f k [s, b, n]) (hd3 s b n) := by
  have h1 := nb_nine (cl_le s)
  have h2 := nb_nine (cl_le b)
  have h3 := nb_nine (cl_le n)
  unfold sig_numbers.f hd3
  show Ev (fun k => sig_numbers.l0 k [] [s, b, n] 3 0) _
  have r0 : rd [s, b, n] 0 = s := rfl
  have r1 : rd [s, b, n] 1 = b := rfl
  have r2 : rd [s, b, n] 2 = n := rfl
  have e1 : wrap64 (0 + 1) = 1 := w64 _ (by decide) (by decide)
  have e2 : wrap64 (1 + 1) = 2 := w64 _ (by decide) (by decide)
  have e3 : wrap64 (2 + 1) = 3 := w64 _ (by decide) (by decide)
  refine Ev.step (f := fun k => (num_Put.f k [] s).bind fun t => sig_numbers.l0 k t [s, b, n] 3 1) (fun k => ?_) ?_
  · simp only [sig_numbers.l0]
    rw [if_pos (show (0 : Int) < 3 by decide), if_pos (show (0 : Int) ≤ 0 by decide), if_pos (show (0 : Int) < (([s, b, n] : List Int).length : Int) by simp), r0, e1]
  refine Ev.bind (put_of [] s (by simp)) ?_
  rw [List.nil_append]
  refine Ev.step (f := fun k => (num_Put.f k (nb (cl s)) b).bind fun t => sig_numbers.l0 k t [s, b, n] 3 2) (fun k => ?_) ?_
  · simp only [sig_numbers.l0]
    rw [if_pos (show (1 : Int) < 3 by decide), if_pos (show (0 : Int) ≤ 1 by decide), if_pos (show (1 : Int) < (([s, b, n] : List Int).length : Int) by simp), r1, e2]
  refine Ev.bind (put_of _ b (by omega)) ?_
  refine Ev.step (f := fun k => (num_Put.f k (nb (cl s) ++ nb (cl b)) n).bind fun t => sig_numbers.l0 k t [s, b, n] 3 3) (fun k => ?_) ?_
  · simp only [sig_numbers.l0]
    rw [if_pos (show (2 : Int) < 3 by decide), if_pos (show (0 : Int) ≤ 2 by decide), if_pos (show (2 : Int) < (([s, b, n] : List Int).length : Int) by simp), r2, e3]
  refine Ev.bind (put_of _ n (by rw [List.length_append]; omega)) ?_
  refine Ev.step (f := fun _ => some (nb (cl s) ++ nb (cl b) ++ nb (cl n))) (fun k => ?_) (Ev.now _)
  simp only [sig_numbers.l0]
  rw [if_neg (by decide)]
/-- The bytes of a rolling sum. -/
def w4 (x : Int) : List Int := [x % 256, (x / 256) % 256, (x / 65536) % 256, (x / 16777216) % 256]
theorem w4_b (x : Int) : Bytes (w4 x) := by
  intro y hy
  simp only [w4, List.mem_cons, List.not_mem_nil, or_false] at hy
  omega
def mB (m : S44) : List Int := w4 m.f0 ++ bytesOf m.f1
def mBs : List S44 → List Int
  | [] => []
  | m :: l => mB m ++ mBs l
theorem mB_b (m : S44) : Bytes (mB m) := bytes_app (w4_b _) (str_all _)
theorem mB_len (m : S44) : (mB m).length = 4 + m.f1.size := by
  unfold mB
  rw [List.length_append, bytesOf_length]
  rfl
theorem mBs_b : ∀ l : List S44, Bytes (mBs l)
  | [] => fun x hx => absurd hx List.not_mem_nil
  | m :: l => bytes_app (mB_b m) (mBs_b l)
theorem k8 : wrap64 (8 * 0) = 0 ∧ wrap64 (8 * 1) = 8 ∧ wrap64 (8 * 2) = 16 ∧ wrap64 (8 * 3) = 24 ∧ wrap64 (0 + 1) = 1 ∧ wrap64 (1 + 1) = 2 ∧ wrap64 (2 + 1) = 3 ∧ wrap64 (3 + 1) = 4 := ⟨w64 _ (by decide) (by decide), w64 _ (by decide) (by decide), w64 _ (by decide) (by decide), w64 _ (by decide) (by decide), w64 _ (by decide) (by decide), w64 _ (by decide) (by decide), w64 _ (by decide) (by decide), w64 _ (by decide) (by decide)⟩
theorem shr_at (x : Int) : (shr .u32 x 0) % 256 = x % 256 ∧ (shr .u32 x 8) % 256 = (x / 256) % 256 ∧ (shr .u32 x 16) % 256 = (x / 65536) % 256 ∧ (shr .u32 x 24) % 256 = (x / 16777216) % 256 := by
  refine ⟨?_, rfl, rfl, rfl⟩
  show (x / 2 ^ 0) % 256 = _
  rw [show (2 : Int) ^ 0 = 1 from rfl, Int.ediv_one]
theorem weak_bytes (x : List Int) (l : List S44) (c i w : Int) (st : ByteArray) (r : List Int × Int) (hx : x.length ≤ 1000000000) (hs : st.size ≤ 1000000000) (h : Ev (fun k => sig_Bytes.l0 k (x ++ (w4 w ++ bytesOf st)) l c (wrap64 (i + 1))) r) :
    Ev (fun k => sig_Bytes.l1 k x l c i 0 w st) r := by
  obtain ⟨e0, e1, e2, e3⟩ := shr_at w
  obtain ⟨q0, q1, q2, q3, p1, p2, p3, p4⟩ := k8
  refine Ev.step (f := fun k => sig_Bytes.l1 k (x ++ [w % 256]) l c i 1 w st) (fun k => ?_) ?_
  · simp only [sig_Bytes.l1]
    rw [if_pos (show (0 : Int) < 4 by decide), q0, if_pos (show (0 : Int) ≤ 0 by decide), if_pos (by omega), e0, p1]
  refine Ev.step (f := fun k => sig_Bytes.l1 k (x ++ [w % 256] ++ [(w / 256) % 256]) l c i 2 w st) (fun k => ?_) ?_
  · simp only [sig_Bytes.l1]
    rw [if_pos (show (1 : Int) < 4 by decide), q1, if_pos (show (0 : Int) ≤ 8 by decide), if_pos (by rw [List.length_append]; simp only [List.length_cons, List.length_nil]; omega), e1, p2]
  refine Ev.step (f := fun k => sig_Bytes.l1 k (x ++ [w % 256] ++ [(w / 256) % 256] ++ [(w / 65536) % 256]) l c i 3 w st) (fun k => ?_) ?_
  · simp only [sig_Bytes.l1]
    rw [if_pos (show (2 : Int) < 4 by decide), q2, if_pos (show (0 : Int) ≤ 16 by decide), if_pos (by simp only [List.length_append, List.length_cons, List.length_nil]; omega), e2, p3]
  refine Ev.step (f := fun k => sig_Bytes.l1 k (x ++ [w % 256] ++ [(w / 256) % 256] ++ [(w / 65536) % 256] ++ [(w / 16777216) % 256]) l c i 4 w st) (fun k => ?_) ?_
  · simp only [sig_Bytes.l1]
    rw [if_pos (show (3 : Int) < 4 by decide), q3, if_pos (show (0 : Int) ≤ 24 by decide), if_pos (by simp only [List.length_append, List.length_cons, List.length_nil]; omega), e3, p4]
  refine Ev.step (f := fun k => sig_Bytes.l0 k (x ++ (w4 w ++ bytesOf st)) l c (wrap64 (i + 1))) (fun k => ?_) h
  simp only [sig_Bytes.l1]
  rw [if_neg (by decide), if_pos (by simp only [List.length_append, List.length_cons, List.length_nil]; omega)]
  simp only [w4, List.append_assoc, List.cons_append, List.nil_append]
theorem bytes_loop (l : List S44) (hn : l.length ≤ 10000) (hs : ∀ m ∈ l, m.f1.size ≤ 1000) (d : Nat) : ∀ (i : Nat) (x : List Int), i + d = l.length → Bytes x → x.length ≤ 100 + 1004 * i →
    Ev (fun k => sig_Bytes.l0 k x l (l.length : Int) (i : Int)) (x ++ mBs (l.drop i) ++ sb (cs (x ++ mBs (l.drop i))), 0) := by
  induction d with
  | zero =>
    intro i x hi hx hl
    refine Ev.step (f := fun _ => (crc_Seal.f x).bind fun t => some (t, 0)) (fun k => ?_) ?_
    · simp only [sig_Bytes.l0]
      rw [if_neg (by omega)]
    · rw [List.drop_eq_nil_of_le (show l.length ≤ i by omega)]
      unfold mBs
      rw [List.append_nil, seal_of x hx (by omega)]
      exact ev_some rfl
  | succ d ih =>
    intro i x hi hx hl
    have hlt : i < l.length := by omega
    have hm : rd_T44 l (i : Int) ∈ l := by rw [rd44 hlt]; exact List.getElem_mem hlt
    have h4 := hs _ hm
    rw [step44 hlt]
    generalize ho : rd_T44 l (i : Int) = o at h4 hm ⊢
    have hnext := ih (i + 1) (x ++ mB o) (by omega) (bytes_app hx (mB_b o)) (by rw [List.length_append, mB_len]; omega)
    rw [show x ++ mB o ++ mBs (l.drop (i + 1)) = x ++ mBs (o :: l.drop (i + 1)) by rw [List.append_assoc]; rfl] at hnext
    refine Ev.step (f := fun k => sig_Bytes.l1 k x l (l.length : Int) (i : Int) 0 o.f0 o.f1) (fun k => ?_) ?_
    · simp only [sig_Bytes.l0]
      rw [ho, if_pos (by omega), if_pos (by omega), if_pos (by omega)]
    · refine weak_bytes x l _ _ _ _ _ (by omega) (by omega) ?_
      rw [inc6 hlt (by omega)]
      exact hnext
/-- A signature as bytes, or why not. -/
def bytesF (s b n : Int) (l : List S44) : List Int × Int := if Ck s b n l = 0 then (hd3 s b n ++ mBs l ++ sb (cs (hd3 s b n ++ mBs l)), 0) else ([], Ck s b n l)
theorem ck_small {s b n : Int} {l : List S44} (h : Ck s b n l = 0) : l.length ≤ 10000 ∧ ∀ m ∈ l, m.f1.size ≤ 1000 := by
  obtain ⟨h1, h2, h3⟩ := ck_ok h
  have := (ct_bounds (fr_ok h1).2).2.2.2
  refine ⟨by omega, fun m hm => ?_⟩
  have h4 := any_not h3 m hm
  have h5 := (fr_ok h1).1
  omega
theorem bytes_of (s b n : Int) (l : List S44) : Ev (fun k => sig_Bytes.f k s b n l) (bytesF s b n l) := by
  unfold sig_Bytes.f bytesF
  refine Ev.bind (ev_some (check_of s b n l)) ?_
  by_cases h : Ck s b n l = 0
  · rw [if_pos h]
    refine ev_pos h (Ev.bind (numbers_of s b n) ?_)
    obtain ⟨h1, h2⟩ := ck_small h
    have := bytes_loop l h1 h2 l.length 0 (hd3 s b n) (by omega) (hd3_b _ _ _) (by have := hd3_len s b n; omega)
    rwa [List.drop_zero] at this
  · rw [if_neg h]
    exact ev_neg h (Ev.now _)
/-- One round of a rolling sum. -/
def rin (x c : Int) : Int := ((roll_In.f x 0 c).getD 0)
theorem rin_of (x c : Int) : roll_In.f x 0 c = some (rin x c) := rfl
def rollF (l : List Int) : Int := l.foldl rin 0
theorem roll_loop (l : List Int) (hn : l.length ≤ 4000000000000) (d : Nat) : ∀ (i : Nat) (x : Int), i + d = l.length → Ev (fun k => roll_Of.l0 k x l (l.length : Int) (i : Int)) ((l.drop i).foldl rin x) := by
  induction d with
  | zero =>
    intro i x hi
    refine Ev.step (f := fun _ => some x) (fun k => ?_) ?_
    · simp only [roll_Of.l0]
      rw [if_neg (by omega)]
    · rw [List.drop_eq_nil_of_le (show l.length ≤ i by omega)]
      exact Ev.now _
  | succ d ih =>
    intro i x hi
    have hlt : i < l.length := by omega
    refine Ev.step (f := fun k => roll_Of.l0 k (rin x (rd l (i : Int))) l (l.length : Int) ((i + 1 : Nat) : Int)) (fun k => ?_) ?_
    · simp only [roll_Of.l0]
      rw [if_pos (by omega), if_pos (by omega), if_pos (by omega), rin_of, Option.bind_some, inc6 hlt hn]
    · rw [List.drop_eq_getElem_cons hlt, List.foldl_cons]
      have e : rd l (i : Int) = l[i] := by unfold rd; rw [Int.toNat_natCast, List.getD_eq_getElem?_getD, List.getElem?_eq_getElem hlt]; rfl
      rw [e]
      exact ih (i + 1) _ (by omega)
theorem roll_of (l : List Int) (hn : l.length ≤ 4000000000000) : Ev (fun k => roll_Of.f k l) (rollF l) := roll_loop l hn l.length 0 0 (by omega)
/-- A text's mark. -/
def markF (l : List Int) (n : Int) : S44 := ⟨rollF l, (strOfNums (shaSum l)).extract 0 n.toNat⟩
theorem sum_size (l : List Int) : (strOfNums (shaSum l)).size = 32 := by rw [strOfNums_size, shaSum_len]
theorem mark_size (l : List Int) (n : Int) (h0 : 0 ≤ n) (h1 : n ≤ 32) : ((markF l n).f1.size : Int) = n := by
  unfold markF
  rw [ByteArray.size_extract, sum_size]
  omega
theorem cut_of (l : List Int) (hn : l.length ≤ 1000000000) (n : Int) (h0 : 0 ≤ n) (h1 : n ≤ 32) : sha_Cut.f l n = some ((markF l n).f1, 0) := by
  unfold sha_Cut.f sha_Sum.f
  rw [if_neg (by omega), if_neg (by omega), if_pos (by omega), Option.bind_some, if_pos h0, if_pos (by rw [sum_size]; exact h1)]
  rfl
theorem mark_of (l : List Int) (hn : l.length ≤ 1000000000) (n : Int) (h0 : 0 ≤ n) (h1 : n ≤ 32) : Ev (fun k => sig_mark.f k l n) ((markF l n).f0, (markF l n).f1) := by
  unfold sig_mark.f
  refine Ev.bind (ev_some (cut_of l hn n h0 h1)) (Ev.bind (roll_of l (by omega)) (Ev.now _))
/-- The marks of a text's blocks. -/
def marksF (l : List Int) (B n : Int) (m : Nat) : List S44 := (List.range m).map fun i => markF (cutRow l B i) n
theorem marks_len (l : List Int) (B n : Int) (m : Nat) : (marksF l B n m).length = m := by unfold marksF; rw [List.length_map, List.length_range]
theorem row_len (l : List Int) (B : Int) (i : Nat) : (cutRow l B i).length ≤ l.length := by
  unfold cutRow
  rw [List.length_drop, List.length_take]
  omega
theorem marks_of (l : List Int) (hn : l.length ≤ 1000000000) (B n : Int) (h0 : 0 ≤ n) (h1 : n ≤ 32) : ∀ m : Nat, Ev (fun k => sigMs k l B n m) (marksF l B n m)
  | 0 => Ev.now _
  | m + 1 => by
    refine Ev.bind (marks_of l hn B n h0 h1 m) (Ev.bind (mark_of _ (Nat.le_trans (row_len l B m) hn) n h0 h1) ?_)
    refine ev_some ?_
    unfold marksF
    rw [List.range_succ, List.map_append]
    rfl
/-- A text's signature, or why there is none. -/
def OfB (l : List Int) (b : Int) : Int := if b = 0 then Ln (l.length : Int) else b
def OfOk (b n : Int) : Prop := (1 ≤ n ∧ n ≤ 32) ∧ (b = 0 ∨ (16 ≤ b ∧ b ≤ 4096))
theorem ln_in (s : Int) : 16 ≤ Ln s ∧ Ln s ≤ 4096 := by
  unfold Ln
  repeat' split
  all_goals omega
theorem ofB_in (l : List Int) {b n : Int} (h : OfOk b n) : 16 ≤ OfB l b ∧ OfB l b ≤ 4096 := by
  unfold OfB
  split
  · exact ln_in _
  · next h0 => exact h.2.resolve_left h0
theorem of_ok (l : List Int) (hn : l.length ≤ 131072) (b n : Int) (h : OfOk b n) : Ev (fun k => sig_Of.f k l b n) ((l.length : Int), OfB l b, n, marksF l (OfB l b) n (cutNum l (OfB l b)), 0) := by
  unfold sig_Of.f
  refine ev_pos (show (1 ≤ n ∧ n ≤ 32) ∧ (b = 0 ∨ (16 ≤ b ∧ b ≤ 4096)) from h) (ev_pos hn ?_)
  refine Ev.bind (a := OfB l b) ?_ (ev_pos (ofB_in l h) (Ev.bind (marks_of l (by omega) _ n (by have := h.1; omega) h.1.2 _) (Ev.now _)))
  unfold OfB
  by_cases h0 : b = 0
  · rw [if_pos h0]
    refine ev_pos h0 ⟨9, fun k hk => ?_⟩
    obtain ⟨m, rfl⟩ : ∃ m, k = m + 9 := ⟨k - 9, by omega⟩
    exact length_of _ m
  · rw [if_neg h0]
    exact ev_neg h0 (Ev.now _)
theorem of_bad (l : List Int) (b n : Int) (h : ¬ OfOk b n) (k : Nat) : sig_Of.f k l b n = some (0, 0, 0, [], 2) := by
  unfold sig_Of.f
  rw [if_neg (show ¬ ((1 ≤ n ∧ n ≤ 32) ∧ (b = 0 ∨ (16 ≤ b ∧ b ≤ 4096))) from h)]
theorem cutNum_ct {l : List Int} (hl : l.length ≤ 131072) {b : Int} (h0 : 16 ≤ b) (h1 : b ≤ 4096) : ((cutNum l b : Nat) : Int) = Ct (l.length : Int) b := by
  have := (cut_facts h0 h1 hl).1
  rw [count_of] at this
  exact (Option.some.inj this).symm
theorem marks_ck (l : List Int) (hl : l.length ≤ 131072) (b n : Int) (h : OfOk b n) : Ck (l.length : Int) (OfB l b) n (marksF l (OfB l b) n (cutNum l (OfB l b))) = 0 := by
  obtain ⟨h0, h1⟩ := ofB_in l h
  refine ck_mk (fr_mk ⟨h.1, rg_mk ⟨by omega, by omega, h0, h1⟩⟩) ?_ ?_
  · rw [marks_len]
    exact cutNum_ct hl h0 h1
  · intro m hm
    obtain ⟨i, _, rfl⟩ := List.mem_map.1 hm
    exact mark_size _ n (by have := h.1; omega) h.1.2
theorem mBs_len (n : Nat) : ∀ l : List S44, (∀ m ∈ l, (m.f1.size : Int) = n) → (mBs l).length = l.length * (4 + n)
  | [], _ => by simp [mBs]
  | m :: l, h => by
    have h1 := h m List.mem_cons_self
    have h2 := mBs_len n l (fun m' hm => h m' (List.mem_cons_of_mem _ hm))
    unfold mBs
    rw [List.length_append, mB_len, h2, List.length_cons, Nat.add_mul, Nat.one_mul]
    omega
theorem awake6 : Ev (fun k => remoralaw06_awake.f k) true := by
  have o1 : OfOk 16 2 := by unfold OfOk; omega
  have o2 : OfOk 0 1 := by unfold OfOk; omega
  have h1 := of_ok (List.replicate 40 0) (by decide) 16 2 o1
  have h2 := of_ok [] (by decide) 0 1 o2
  have hc := marks_ck (List.replicate 40 0) (by decide) 16 2 o1
  have hl := marks_len (List.replicate 40 0) (OfB (List.replicate 40 0) 16) 2 (cutNum (List.replicate 40 0) (OfB (List.replicate 40 0) 16))
  have hb := bytes_of ((List.replicate 40 (0 : Int)).length : Int) (OfB (List.replicate 40 0) 16) 2 (marksF (List.replicate 40 0) (OfB (List.replicate 40 0) 16) 2 (cutNum (List.replicate 40 0) (OfB (List.replicate 40 0) 16)))
  have hz := mBs_len 2 (marksF (List.replicate 40 0) (OfB (List.replicate 40 0) 16) 2 (cutNum (List.replicate 40 0) (OfB (List.replicate 40 0) 16))) (any_not (ck_ok hc).2.2)
  have n1 : cutNum (List.replicate 40 0) (OfB (List.replicate 40 0) 16) = 3 := by decide
  have hm0 := marks_len [] (OfB [] 0) 1 (cutNum [] (OfB [] 0))
  have n2 : cutNum [] (OfB [] 0) = 0 := by decide
  unfold remoralaw06_awake.f
  refine ev_pos (by decide) (Ev.bind h1 ?_)
  refine Ev.bind hb (Ev.bind h2 ?_)
  unfold bytesF
  rw [if_pos hc]
  refine ev_pos rfl (ev_pos rfl (ev_pos rfl (ev_pos ?_ (ev_pos ?_ (ev_pos ?_ ?_)))))
  · show ((marksF _ _ _ _).length : Int) = 3
    rw [hl, n1]
    rfl
  · show ((hd3 _ _ _ ++ _ ++ sb _).length : Int) = 25
    have e3 : (hd3 ((List.replicate 40 (0 : Int)).length : Int) (OfB (List.replicate 40 0) 16) 2).length = 3 := by
      rw [show ((List.replicate 40 (0 : Int)).length : Int) = 40 from rfl, show OfB (List.replicate 40 0) 16 = 16 from rfl]
      unfold hd3
      rw [nb_small (show cl 40 < 128 by decide), nb_small (show cl 16 < 128 by decide), nb_small (show cl 2 < 128 by decide)]
      rfl
    rw [List.length_append, List.length_append, e3, hz, hl, n1]
    rfl
  · show ((marksF _ _ _ _).length : Int) = 0
    rw [hm0, n2]
    rfl
  · exact ev_some rfl
theorem wf8 {n : Int} (h : (Lit.int .u8 n).wf = true) : 0 ≤ n ∧ n < 256 := by
  have e0 : IntKind.u8.min = 0 := by decide
  have e1 : IntKind.u8.max = 255 := by decide
  simp [Lit.wf, e0, e1] at h
  omega
theorem byte_wf {n : Int} (h : (Lit.int .u8 n).wf = true) : 0 ≤ n ∧ n ≤ 255 := by have := wf8 h; omega
set_option maxRecDepth 10000 in
theorem or_add (i : Nat) (x y : Int) (h0 : 0 ≤ x) (h1 : 0 ≤ y) (h2 : y < 2 ^ i) (h3 : x * 2 ^ i + y < 4294967296) : Go.bits .or .u32 (x * 2 ^ i) y = x * 2 ^ i + y := by
  obtain ⟨a, rfl⟩ := Int.eq_ofNat_of_zero_le h0
  obtain ⟨b, rfl⟩ := Int.eq_ofNat_of_zero_le h1
  have e1 : ((a : Int) * 2 ^ i) = ((a * 2 ^ i : Nat) : Int) := by simp
  rw [e1] at h3 ⊢
  have hb : b < 2 ^ i := by exact_mod_cast h2
  obtain ⟨c, hc⟩ : ∃ c, c = a * 2 ^ i := ⟨_, rfl⟩
  have hor : c ||| b = c + b := by
    rw [hc, ← Nat.shiftLeft_eq, Nat.shiftLeft_add_eq_or_of_lt hb]
  rw [← hc] at h3 ⊢
  have hs : c + b < 4294967296 := by omega
  unfold Go.bits
  simp only [IntKind.wrap_u32]
  have e2 : IntKind.u32.bits = 32 := rfl
  have ht : (BitVec.ofInt 32 (c : Int) ||| BitVec.ofInt 32 (b : Int)).toNat = c + b := by
    rw [BitVec.toNat_or, BitVec.ofInt_natCast, BitVec.ofInt_natCast, BitVec.toNat_ofNat, BitVec.toNat_ofNat, Nat.mod_eq_of_lt (by omega), Nat.mod_eq_of_lt (by omega), hor]
  rw [e2, ht]
  omega
theorem nw64 (n : Int) (h0 : -9223372036854775808 ≤ n) (h1 : n ≤ 9223372036854775807) : wrap64 n = n := by unfold wrap64; omega
/-- How many bytes ahead go on, at most d. -/
def rl : Nat → List Int → Nat
  | 0, _ => 0
  | _ + 1, [] => 0
  | d + 1, c :: r => if c > 127 then rl d r + 1 else 0
/-- The number of groups of seven bits. -/
def gv : List Int → Nat
  | [] => 0
  | c :: r => (c % 128).toNat + 128 * gv r
theorem gv_lt (l : List Int) : gv l < 128 ^ l.length := by
  induction l with
  | nil => decide
  | cons c r ih =>
    show (c % 128).toNat + 128 * gv r < 128 ^ (r.length + 1)
    rw [Nat.pow_succ]
    omega
theorem gv_snoc (l : List Int) (c : Int) : gv (l ++ [c]) = gv l + 128 ^ l.length * (c % 128).toNat := by
  induction l with
  | nil => simp [gv]
  | cons d r ih =>
    show (d % 128).toNat + 128 * gv (r ++ [c]) = (d % 128).toNat + 128 * gv r + 128 ^ (r.length + 1) * (c % 128).toNat
    rw [ih, Nat.pow_succ, Nat.mul_add, ← Nat.add_assoc, ← Nat.mul_assoc, Nat.mul_comm 128 (128 ^ r.length)]
theorem gv_app (a b : List Int) : gv (a ++ b) = gv a + 128 ^ a.length * gv b := by
  induction a with
  | nil => simp [gv]
  | cons d r ih =>
    show (d % 128).toNat + 128 * gv (r ++ b) = (d % 128).toNat + 128 * gv r + 128 ^ (r.length + 1) * gv b
    rw [ih, Nat.pow_succ, Nat.mul_add, ← Nat.add_assoc, ← Nat.mul_assoc, Nat.mul_comm 128 (128 ^ r.length)]
theorem rl_le (d : Nat) : ∀ r : List Int, rl d r ≤ d ∧ rl d r ≤ r.length := by
  induction d with
  | zero => intro r; exact ⟨Nat.le_refl _, Nat.zero_le _⟩
  | succ d ih =>
    intro r
    cases r with
    | nil => exact ⟨Nat.zero_le _, Nat.le_refl _⟩
    | cons c r =>
      have := ih r
      unfold rl
      split
      · rw [List.length_cons]; omega
      · exact ⟨Nat.zero_le _, Nat.zero_le _⟩
theorem rl_more (d : Nat) : ∀ (r : List Int) (j : Nat), j < rl d r → r.getD j 0 > 127 := by
  induction d with
  | zero => intro r j h; exact absurd h (Nat.not_lt_zero _)
  | succ d ih =>
    intro r j h
    cases r with
    | nil => exact absurd h (Nat.not_lt_zero _)
    | cons c r =>
      unfold rl at h
      by_cases hc : c > 127
      · rw [if_pos hc] at h
        cases j with
        | zero => exact hc
        | succ j => exact ih r j (by omega)
      · rw [if_neg hc] at h
        exact absurd h (Nat.not_lt_zero _)
theorem rl_end (d : Nat) : ∀ (r : List Int), rl d r < d → rl d r < r.length → r.getD (rl d r) 0 ≤ 127 := by
  induction d with
  | zero => intro r h; exact absurd h (Nat.not_lt_zero _)
  | succ d ih =>
    intro r h h2
    cases r with
    | nil => exact absurd h2 (Nat.not_lt_zero _)
    | cons c r =>
      unfold rl at h h2 ⊢
      by_cases hc : c > 127
      · rw [if_pos hc] at h h2 ⊢
        rw [List.length_cons] at h2
        exact ih r (by omega) (by omega)
      · rw [if_neg hc]
        show c ≤ 127
        omega
/-- The number at a place, and the place behind; or what is wrong. -/
def getF (l : List Int) (a : Int) : Int × Int × Int :=
  if a < 0 ∨ a > (l.length : Int) then (0, 0, 3) else
  let r := l.drop a.toNat
  if rl 9 r = 9 then (0, 0, 5) else if rl 9 r = r.length then (0, 0, 4) else if r.getD (rl 9 r) 0 = 0 ∧ 0 < rl 9 r then (0, 0, 5) else
  if gv (r.take (rl 9 r + 1)) > 4611686018427387903 then (0, 0, 7) else (((gv (r.take (rl 9 r + 1)) : Nat) : Int), a + ((rl 9 r : Nat) : Int) + 1, 0)
theorem rd_drop (l : List Int) (a i : Nat) : rd l ((a : Int) + (i : Int)) = (l.drop a).getD i 0 := by
  unfold rd
  rw [show ((a : Int) + (i : Int)).toNat = a + i by omega, List.getD_eq_getElem?_getD, List.getD_eq_getElem?_getD, List.getElem?_drop]
theorem take_one (r : List Int) (i : Nat) (h : i < r.length) : r.take (i + 1) = r.take i ++ [r.getD i 0] := by
  rw [List.take_succ_eq_append_getElem h, List.getD_eq_getElem?_getD, List.getElem?_eq_getElem h]
  rfl
theorem wrap63 (n : Int) (h0 : 0 ≤ n) (h1 : n < 2 ^ 63) : IntKind.i64.wrap n = n := by rw [IntKind.wrap_i64]; omega
theorem and127 {c : Int} (h0 : 0 ≤ c) (h1 : c ≤ 255) : wrap64 (Go.bits .and .u8 c 127) = ((c % 128).toNat : Int) := by
  have := bits_mask .u8 8 (by decide) wraps_u8 7 (by decide) c h0 (by omega)
  rw [show (127 : Int) = 2 ^ 7 - 1 by decide, this]
  unfold wrap64
  omega
/-- One more group. -/
theorem group_in {acc i : Nat} {c : Int} (hi : i ≤ 8) (ha : acc < 128 ^ i) (h0 : 0 ≤ c) (h1 : c ≤ 255) :
    Go.bits .or .i64 (acc : Int) (shl .i64 (wrap64 (Go.bits .and .u8 c 127)) (wrap64 (7 * (i : Int)))) = ((acc + 128 ^ i * (c % 128).toNat : Nat) : Int) := by
  rw [and127 h0 h1]
  generalize hd : (c % 128).toNat = d
  have hd1 : d < 128 := by omega
  have hw : wrap64 (7 * (i : Int)) = ((7 * i : Nat) : Int) := by unfold wrap64; omega
  rw [hw]
  have hp : (128 : Nat) ^ i = 2 ^ (7 * i) := by rw [show (128 : Nat) = 2 ^ 7 by decide, ← Nat.pow_mul]
  have hp8 : (2 : Nat) ^ (7 * i) ≤ 2 ^ 56 := Nat.pow_le_pow_right (by decide) (by omega)
  have hs : shl .i64 (d : Int) ((7 * i : Nat) : Int) = ((2 ^ (7 * i) * d : Nat) : Int) := by
    unfold shl
    rw [Int.toNat_natCast, Nat.min_eq_left (show 7 * i ≤ IntKind.i64.bits by show 7 * i ≤ 64; omega)]
    have e : (d : Int) * 2 ^ (7 * i) = ((2 ^ (7 * i) * d : Nat) : Int) := by push_cast; rw [Int.mul_comm]
    rw [e]
    have hlt : 2 ^ (7 * i) * d < 2 ^ 63 := by
      have : 2 ^ (7 * i) * d ≤ 2 ^ 56 * 127 := Nat.mul_le_mul hp8 (by omega)
      omega
    exact wrap63 _ (by omega) (by exact_mod_cast hlt)
  have hlt : 2 ^ (7 * i) * d < 2 ^ 63 := by
    have : 2 ^ (7 * i) * d ≤ 2 ^ 56 * 127 := Nat.mul_le_mul hp8 (by omega)
    omega
  rw [hs, (bits_nat .i64 63 (by decide) wrap63 acc (2 ^ (7 * i) * d) (by omega) hlt).2, hp]
  congr 1
  rw [Nat.or_comm, ← Nat.two_pow_add_eq_or_of_lt (by omega) d]
  omega
theorem get_loop (l : List Int) (hb : ∀ x ∈ l, 0 ≤ x ∧ x ≤ 255) (hn : l.length ≤ 1000000000) (a : Nat) (ha : a ≤ l.length) (d : Nat) : ∀ i : Nat, i + d = rl 9 (l.drop a) →
    Ev (fun k => num_Get.l0 k l (a : Int) ((gv ((l.drop a).take i) : Nat) : Int) (i : Int)) (getF l (a : Int)) := by
  have hF : getF l (a : Int) = (let r := l.drop a
    if rl 9 r = 9 then ((0 : Int), (0 : Int), (5 : Int)) else if rl 9 r = r.length then (0, 0, 4) else if r.getD (rl 9 r) 0 = 0 ∧ 0 < rl 9 r then (0, 0, 5) else
    if gv (r.take (rl 9 r + 1)) > 4611686018427387903 then (0, 0, 7) else (((gv (r.take (rl 9 r + 1)) : Nat) : Int), (a : Int) + ((rl 9 r : Nat) : Int) + 1, 0)) := by
    unfold getF
    rw [if_neg (by omega), Int.toNat_natCast]
  have hm := rl_le 9 (l.drop a)
  have hlen : (l.drop a).length = l.length - a := List.length_drop
  have hbr : ∀ i, i < (l.drop a).length → 0 ≤ (l.drop a).getD i 0 ∧ (l.drop a).getD i 0 ≤ 255 := fun i hi => by
    rw [List.getD_eq_getElem?_getD, List.getElem?_eq_getElem hi]
    exact hb _ (List.drop_subset _ _ (List.getElem_mem hi))
  induction d with
  | zero =>
    intro i hi
    have hi' : i = rl 9 (l.drop a) := by omega
    have hie : ∀ h1 : rl 9 (l.drop a) < 9, ∀ h2 : rl 9 (l.drop a) < (l.drop a).length, (l.drop a).getD i 0 ≤ 127 := fun h1 h2 => by rw [hi']; exact rl_end 9 _ h1 h2
    rw [hF]
    simp only
    rw [← hi'] at hm hie ⊢
    clear hi' hF
    have HW := Aside0.mk (nw64 ((a : Int) + (i : Int)) (by omega) (by omega))
    by_cases h9 : i = 9
    · rw [if_pos h9]
      refine Ev.step (f := fun _ => some (0, 0, 5)) (fun k => ?_) (Ev.now _)
      simp only [num_Get.l0]
      rw [if_neg (by omega)]
    · rw [if_neg h9]
      by_cases he : i = (l.drop a).length
      · rw [if_pos he]
        refine Ev.step (f := fun _ => some (0, 0, 4)) (fun k => ?_) (Ev.now _)
        simp only [num_Get.l0]
        rw [if_pos (by omega), HW.out, if_pos (by omega)]
      · rw [if_neg he]
        have hlt : i < (l.drop a).length := by omega
        have hc := hbr i hlt
        have hc2 := hie (by omega) hlt
        have hgv := gv_lt ((l.drop a).take i)
        rw [List.length_take, Nat.min_eq_left (by omega)] at hgv
        have hg := group_in (by omega) hgv hc.1 hc.2
        have hsn : gv ((l.drop a).take i) + 128 ^ i * ((l.drop a).getD i 0 % 128).toNat = gv ((l.drop a).take (i + 1)) := by
          rw [take_one _ _ hlt, gv_snoc, List.length_take, Nat.min_eq_left (by omega)]
        rw [hsn] at hg
        have HG := Aside0.mk hg
        have H7 := Aside0.mk (nw64 (7 * (i : Int)) (by omega) (by omega))
        have HW2 := Aside0.mk (show wrap64 (wrap64 ((a : Int) + (i : Int)) + 1) = (a : Int) + (i : Int) + 1 by rw [HW.out]; exact nw64 _ (by omega) (by omega))
        have HSN := Aside0.mk hsn
        clear hg hsn hgv
        have step : ∀ (z : Bool) (res : Int × Int × Int), (z = true ↔ ((l.drop a).getD i 0 = 0 ∧ 0 < i)) → res = (if (l.drop a).getD i 0 = 0 ∧ 0 < i then (0, 0, 5) else if gv ((l.drop a).take (i + 1)) > 4611686018427387903 then (0, 0, 7) else (((gv ((l.drop a).take (i + 1)) : Nat) : Int), (a : Int) + (i : Int) + 1, 0)) →
            Ev (fun k => num_Get.j2 k (a : Int) ((gv ((l.drop a).take (i + 1)) : Nat) : Int) (i : Int) z) res := fun z res hz hres => by
          refine Ev.step (f := fun _ => some res) (fun k => ?_) (Ev.now _)
          simp only [num_Get.j2]
          rw [HW2.out, hres]
          by_cases hz1 : z = true
          · rw [if_pos hz1, if_pos (hz.1 hz1)]
          · rw [if_neg hz1, if_neg (fun h => hz1 (hz.2 h))]
            by_cases hb : gv ((l.drop a).take (i + 1)) > 4611686018427387903
            · rw [if_pos (by omega), if_pos hb]
            · rw [if_neg (by omega), if_neg hb]
        by_cases hz : (l.drop a).getD i 0 = 0
        · refine Ev.step (f := fun k => num_Get.j2 k (a : Int) ((gv ((l.drop a).take (i + 1)) : Nat) : Int) (i : Int) (decide ((i : Int) > 0))) (fun k => ?_) (step _ _ ⟨fun h => ⟨hz, by have := of_decide_eq_true h; omega⟩, fun h => decide_eq_true (by omega)⟩ rfl)
          simp only [num_Get.l0]
          rw [HW.out, H7.out, rd_drop, if_pos (by omega), if_neg (by omega), if_pos (by omega), if_pos (by omega), if_pos (by omega), if_neg (by omega), if_pos hz]
          have := HG.out
          rw [H7.out] at this
          rw [this]
        · refine Ev.step (f := fun k => num_Get.j2 k (a : Int) ((gv ((l.drop a).take (i + 1)) : Nat) : Int) (i : Int) false) (fun k => ?_) (step _ _ ⟨(fun h => (by cases h)), fun h => absurd h.1 hz⟩ rfl)
          simp only [num_Get.l0]
          rw [HW.out, H7.out, rd_drop, if_pos (by omega), if_neg (by omega), if_pos (by omega), if_pos (by omega), if_pos (by omega), if_neg (by omega), if_neg hz]
          have := HG.out
          rw [H7.out] at this
          rw [this]
  | succ d ih =>
    intro i hi
    have hlt : i < (l.drop a).length := by omega
    have hmore := rl_more 9 (l.drop a) i (by omega)
    have hc := hbr i hlt
    have hgv := gv_lt ((l.drop a).take i)
    rw [List.length_take, Nat.min_eq_left (by omega)] at hgv
    have hg := group_in (by omega) hgv hc.1 hc.2
    have hsn : gv ((l.drop a).take i) + 128 ^ i * ((l.drop a).getD i 0 % 128).toNat = gv ((l.drop a).take (i + 1)) := by
      rw [take_one _ _ hlt, gv_snoc, List.length_take, Nat.min_eq_left (by omega)]
    rw [hsn] at hg
    have HG := Aside0.mk hg
    have H7 := Aside0.mk (show wrap64 (7 * (i : Int)) = 7 * (i : Int) by unfold wrap64; omega)
    have HW := Aside0.mk (show wrap64 ((a : Int) + (i : Int)) = (a : Int) + (i : Int) by unfold wrap64; omega)
    have HI := Aside0.mk (show wrap64 ((i : Int) + 1) = ((i + 1 : Nat) : Int) by unfold wrap64; omega)
    clear hg hsn
    refine Ev.step (f := fun k => num_Get.l0 k l (a : Int) ((gv ((l.drop a).take (i + 1)) : Nat) : Int) ((i + 1 : Nat) : Int)) (fun k => ?_) (ih (i + 1) (by omega))
    simp only [num_Get.l0]
    rw [HW.out, H7.out, HI.out, rd_drop, if_pos (by omega), if_neg (by omega), if_pos (by omega), if_pos (by omega), if_pos (by omega), if_pos hmore]
    have := HG.out
    rw [H7.out] at this
    rw [this]
theorem get_of (l : List Int) (hb : ∀ x ∈ l, 0 ≤ x ∧ x ≤ 255) (hn : l.length ≤ 1000000000) (a : Int) : Ev (fun k => num_Get.f k l a) (getF l a) := by
  unfold num_Get.f
  by_cases h0 : a < 0
  · refine ev_pos h0 (Ev.step (f := fun _ => some (0, 0, 3)) (fun k => ?_) ?_)
    · simp only [num_Get.j0]; rw [if_pos trivial]
    · unfold getF; rw [if_pos (.inl h0)]; exact Ev.now _
  · refine ev_neg h0 ?_
    by_cases h1 : a > (l.length : Int)
    · rw [decide_eq_true h1]
      refine Ev.step (f := fun _ => some (0, 0, 3)) (fun k => ?_) ?_
      · simp only [num_Get.j0]; rw [if_pos trivial]
      · unfold getF; rw [if_pos (.inr h1)]; exact Ev.now _
    · rw [decide_eq_false h1]
      obtain ⟨n, rfl⟩ : ∃ n : Nat, a = (n : Int) := ⟨a.toNat, by omega⟩
      refine Ev.step (f := fun k => num_Get.l0 k l (n : Int) ((gv ((l.drop n).take 0) : Nat) : Int) ((0 : Nat) : Int)) (fun k => ?_) (get_loop l hb hn n (by omega) (rl 9 (l.drop n)) 0 (by omega))
      simp only [num_Get.j0]
      rw [if_neg (by simp)]
      rfl
theorem gv_nb (n : Nat) : gv (nb n) = n := by
  induction n using Nat.strongRecOn with
  | _ n ih =>
    by_cases h : n < 128
    · rw [nb_small h]
      show ((n : Int) % 128).toNat + 128 * 0 = n
      omega
    · rw [nb_more h]
      show (((128 + n % 128 : Nat) : Int) % 128).toNat + 128 * gv (nb (n / 128)) = n
      rw [ih (n / 128) (by omega)]
      omega
theorem rl_nb (n : Nat) : ∀ (d : Nat) (rest : List Int), (nb n).length ≤ d → rl d (nb n ++ rest) = (nb n).length - 1 := by
  induction n using Nat.strongRecOn with
  | _ n ih =>
    intro d rest hd
    obtain ⟨d, rfl⟩ : ∃ e, d = e + 1 := ⟨d - 1, by have := nb_pos n; omega⟩
    by_cases h : n < 128
    · rw [nb_small h]
      show (if (n : Int) > 127 then _ else 0) = 0
      rw [if_neg (by omega)]
    · rw [nb_more h] at hd ⊢
      rw [List.length_cons] at hd
      show (if ((128 + n % 128 : Nat) : Int) > 127 then rl d (nb (n / 128) ++ rest) + 1 else 0) = _
      rw [if_pos (by omega), ih (n / 128) (by omega) d rest (by omega), List.length_cons]
      have := nb_pos (n / 128)
      omega
theorem nb_last (n : Nat) : 128 ≤ n → (nb n).getD ((nb n).length - 1) 0 ≠ 0 := by
  have key : ∀ n : Nat, 1 ≤ n → (nb n).getD ((nb n).length - 1) 0 ≠ 0 := by
    intro n
    induction n using Nat.strongRecOn with
    | _ n ih =>
      intro h1
      by_cases h : n < 128
      · rw [nb_small h]
        show (n : Int) ≠ 0
        omega
      · have hp := nb_pos (n / 128)
        rw [nb_more h, List.length_cons]
        have e : (nb (n / 128)).length + 1 - 1 = ((nb (n / 128)).length - 1) + 1 := by omega
        rw [e]
        exact ih (n / 128) (by omega) (by omega)
  exact fun h => key n (by omega)
/-- A number that was put is got. -/
theorem getF_nb (pre rest : List Int) (n : Nat) (hn : n ≤ 4611686018427387903) : getF (pre ++ (nb n ++ rest)) (pre.length : Int) = ((n : Int), (pre.length : Int) + ((nb n).length : Int), 0) := by
  have hp := nb_pos n
  have h9 := nb_nine hn
  have hd : (pre ++ (nb n ++ rest)).drop pre.length = nb n ++ rest := List.drop_left
  unfold getF
  rw [if_neg (by rw [List.length_append, List.length_append]; omega), Int.toNat_natCast, hd]
  simp only
  rw [rl_nb n 9 rest h9, if_neg (by omega), if_neg (by rw [List.length_append]; omega)]
  have hg : (nb n ++ rest).getD ((nb n).length - 1) 0 = (nb n).getD ((nb n).length - 1) 0 := by
    rw [List.getD_eq_getElem?_getD, List.getD_eq_getElem?_getD, List.getElem?_append_left (by omega)]
  have hz : ¬ ((nb n ++ rest).getD ((nb n).length - 1) 0 = 0 ∧ 0 < (nb n).length - 1) := by
    rintro ⟨h1, h2⟩
    rw [hg] at h1
    refine nb_last n ?_ h1
    by_cases h : n < 128
    · rw [nb_small h] at h2
      simp at h2
    · omega
  rw [if_neg hz]
  have ht : (nb n ++ rest).take ((nb n).length - 1 + 1) = nb n := by
    rw [show (nb n).length - 1 + 1 = (nb n).length by omega]
    exact List.take_left
  rw [ht, gv_nb, if_neg (by omega)]
  congr 2
  omega
theorem str_inj {a b : List Int} (ha : Bytes a) (hb : Bytes b) (h : (strOfNums a).toList = (strOfNums b).toList) : a = b := by
  rw [ByteArray.toList_eq, ByteArray.toList_eq, strOfNums_data, strOfNums_data] at h
  have hl : a.length = b.length := by have := congrArg List.length h; simpa using this
  apply List.ext_getElem hl
  intro i h1 h2
  have hx := congrArg (fun l => l[i]?) h
  simp only [List.getElem?_map, List.getElem?_eq_getElem h1, List.getElem?_eq_getElem h2, Option.map_some, Option.some.injEq] at hx
  have p := ha _ (List.getElem_mem h1)
  have q := hb _ (List.getElem_mem h2)
  have := congrArg UInt8.toNat hx
  simp only [UInt8.toNat_ofNat'] at this
  omega
theorem bytes_take {l : List Int} (h : Bytes l) (n : Nat) : Bytes (l.take n) := fun x hx => h x (List.take_subset _ _ hx)
theorem bytes_drop {l : List Int} (h : Bytes l) (n : Nat) : Bytes (l.drop n) := fun x hx => h x (List.drop_subset _ _ hx)
/-- A text without its sum, or what is wrong. -/
def openF (l : List Int) : List Int × Int := if l.length < 4 then ([], 4) else if sb (cs (l.take (l.length - 4))) = l.drop (l.length - 4) then (l.take (l.length - 4), 0) else ([], 6)
theorem sb_b {n : Nat} (h : n < 4294967296) : Bytes (sb n) := by
  intro x hx
  unfold sb at hx
  simp only [List.mem_cons, List.not_mem_nil, or_false] at hx
  rcases hx with rfl | rfl | rfl | rfl <;> omega
theorem open_of (l : List Int) (hl : Bytes l) (hn : l.length ≤ 1000000000) : crc_Open.f l = some (openF l) := by
  unfold crc_Open.f openF
  by_cases h : l.length < 4
  · rw [if_pos h, if_pos h]
  · rw [if_neg h, if_neg h, seal4_of _ (bytes_take hl _), Option.bind_some, if_pos hn]
    by_cases h2 : sb (cs (l.take (l.length - 4))) = l.drop (l.length - 4)
    · rw [if_pos h2]
      exact if_pos h2
    · rw [if_neg h2]
      exact if_neg h2
theorem open_bytes (l : List Int) (hl : Bytes l) : Bytes (openF l).1 ∧ (openF l).1.length ≤ l.length := by
  unfold openF
  by_cases h : l.length < 4
  · rw [if_pos h]; exact ⟨fun x hx => (by cases hx), Nat.zero_le _⟩
  · rw [if_neg h]
    by_cases h2 : sb (cs (l.take (l.length - 4))) = l.drop (l.length - 4)
    · rw [if_pos h2]; exact ⟨bytes_take hl _, by rw [List.length_take]; exact Nat.min_le_right _ _⟩
    · rw [if_neg h2]; exact ⟨fun x hx => (by cases hx), Nat.zero_le _⟩
theorem open_sealed (p : List Int) : openF (p ++ sb (cs p)) = (p, 0) := by
  unfold openF
  have hl : (p ++ sb (cs p)).length = p.length + 4 := by rw [List.length_append]; rfl
  rw [if_neg (by omega), hl, show p.length + 4 - 4 = p.length by omega, List.take_left, List.drop_left, if_pos rfl]
/-- Whether two rows' marks differ at a place. -/
def df (l m : List S44) (i : Nat) : Bool := !(((rd_T44 l (i : Int)).f0) == ((rd_T44 m (i : Int)).f0)) || (!((((rd_T44 l (i : Int)).f1).toList) == (((rd_T44 m (i : Int)).f1).toList)))
def eqD (l m : List S44) : Nat → Nat → Bool
  | 0, _ => true
  | d + 1, i => if df l m i = true then false else eqD l m d (i + 1)
theorem same_loop (l m : List S44) (hn : l.length ≤ 4000000000000) (he : l.length = m.length) (d : Nat) : ∀ i : Nat, i + d = l.length → Ev (fun k => api_Mark_50.l0 k l m (l.length : Int) (i : Int)) (eqD l m d i) := by
  induction d with
  | zero =>
    intro i hi
    refine Ev.step (f := fun _ => some true) (fun k => ?_) (Ev.now _)
    simp only [api_Mark_50.l0]
    rw [if_neg (by omega)]
  | succ d ih =>
    intro i hi
    have hlt : i < l.length := by omega
    unfold eqD
    by_cases h : df l m i = true
    · rw [if_pos h]
      refine Ev.step (f := fun _ => some false) (fun k => ?_) (Ev.now _)
      simp only [api_Mark_50.l0]
      rw [if_pos (by omega), if_pos (by omega), if_pos (by omega), if_pos (by omega), if_pos (show (!(((rd_T44 l (i : Int)).f0) == ((rd_T44 m (i : Int)).f0)) || (!((((rd_T44 l (i : Int)).f1).toList) == (((rd_T44 m (i : Int)).f1).toList)))) = true from h)]
    · rw [if_neg h]
      refine Ev.step (f := fun k => api_Mark_50.l0 k l m (l.length : Int) ((i + 1 : Nat) : Int)) (fun k => ?_) (ih (i + 1) (by omega))
      simp only [api_Mark_50.l0]
      rw [if_pos (by omega), if_pos (by omega), if_pos (by omega), if_pos (by omega), if_neg (show ¬ ((!(((rd_T44 l (i : Int)).f0) == ((rd_T44 m (i : Int)).f0)) || (!((((rd_T44 l (i : Int)).f1).toList) == (((rd_T44 m (i : Int)).f1).toList)))) = true) from h), inc6 hlt hn]
theorem eqD_self (l : List S44) : ∀ d i, eqD l l d i = true
  | 0, _ => rfl
  | d + 1, i => by
    unfold eqD
    rw [if_neg (by unfold df; simp)]
    exact eqD_self l d (i + 1)
/-- Whether two signatures are the same. -/
def smF (s b n : Int) (l : List S44) (s' b' n' : Int) (m : List S44) : Bool := if s = s' then (if b = b' then (if n = n' then (if l.length = m.length then eqD l m l.length 0 else false) else false) else false) else false
theorem smF_self (s b n : Int) (l : List S44) : smF s b n l s b n l = true := by
  unfold smF
  rw [if_pos rfl, if_pos rfl, if_pos rfl, if_pos rfl, eqD_self]
theorem same_of (s b n : Int) (l : List S44) (s' b' n' : Int) (m : List S44) (hn : l.length ≤ 4000000000000) : Ev (fun k => sig_Same.f k s b n l s' b' n' m) (smF s b n l s' b' n' m) := by
  unfold sig_Same.f smF
  by_cases h1 : s = s'
  · rw [if_pos h1]
    refine ev_pos h1 ?_
    by_cases h2 : b = b'
    · rw [if_pos h2]
      refine ev_pos h2 ?_
      by_cases h3 : n = n'
      · rw [if_pos h3]
        refine ev_pos h3 (Ev.bind (a := if l.length = m.length then eqD l m l.length 0 else false) ?_ (Ev.now _))
        unfold api_Mark_50.f
        by_cases h4 : l.length = m.length
        · rw [if_pos h4]
          exact ev_pos (by omega) (same_loop l m hn h4 l.length 0 (by omega))
        · rw [if_neg h4]
          exact ev_neg (by omega) (Ev.now _)
      · rw [if_neg h3]
        exact ev_neg h3 (Ev.now _)
    · rw [if_neg h2]
      exact ev_neg h2 (Ev.now _)
  · rw [if_neg h1]
    exact ev_neg h1 (Ev.now _)
theorem rsame_loop (l m : List S44) (s b n : Int) (hn : l.length ≤ 4000000000000) (he : l.length = m.length) (d : Nat) : ∀ i : Nat, i + d = l.length → Ev (fun k => remoraref06_Same.l0 k l (l.length : Int) (i : Int) s b n m) (eqD l m d i) := by
  induction d with
  | zero =>
    intro i hi
    refine Ev.step (f := fun _ => some true) (fun k => ?_) (Ev.now _)
    simp only [remoraref06_Same.l0]
    rw [if_neg (by omega)]
  | succ d ih =>
    intro i hi
    have hlt : i < l.length := by omega
    unfold eqD
    by_cases h : df l m i = true
    · rw [if_pos h]
      refine Ev.step (f := fun _ => some false) (fun k => ?_) (Ev.now _)
      simp only [remoraref06_Same.l0]
      rw [if_pos (by omega), if_pos (by omega), if_pos (by omega), if_pos (by omega), if_pos (show (!(((rd_T44 l (i : Int)).f0) == ((rd_T44 m (i : Int)).f0)) || (!((((rd_T44 l (i : Int)).f1).toList) == (((rd_T44 m (i : Int)).f1).toList)))) = true from h)]
    · rw [if_neg h]
      refine Ev.step (f := fun k => remoraref06_Same.l0 k l (l.length : Int) ((i + 1 : Nat) : Int) s b n m) (fun k => ?_) (ih (i + 1) (by omega))
      simp only [remoraref06_Same.l0]
      rw [if_pos (by omega), if_pos (by omega), if_pos (by omega), if_pos (by omega), if_neg (show ¬ ((!(((rd_T44 l (i : Int)).f0) == ((rd_T44 m (i : Int)).f0)) || (!((((rd_T44 l (i : Int)).f1).toList) == (((rd_T44 m (i : Int)).f1).toList)))) = true) from h), inc6 hlt hn]
theorem rsame_no (s b n : Int) (l : List S44) (s' b' n' : Int) (m : List S44) : Ev (fun k => remoraref06_Same.j0 k true s b n l s' b' n' m) false := by
  refine Ev.step (f := fun _ => some false) (fun k => ?_) (Ev.now _)
  simp only [remoraref06_Same.j0]
  rw [if_pos trivial]
theorem rsame_of (s b n : Int) (l : List S44) (s' b' n' : Int) (m : List S44) (hn : l.length ≤ 4000000000000) : Ev (fun k => remoraref06_Same.f k s b n l s' b' n' m) (smF s b n l s' b' n' m) := by
  unfold remoraref06_Same.f smF
  by_cases h1 : s = s'
  · rw [if_pos h1]
    refine ev_pos h1 ?_
    by_cases h2 : b = b'
    · rw [if_pos h2]
      refine ev_pos h2 ?_
      by_cases h3 : n = n'
      · rw [if_pos h3]
        refine ev_pos h3 ?_
        by_cases h4 : l.length = m.length
        · rw [if_pos h4]
          have e : ((l.length : Int) != (m.length : Int)) = false := by simp [h4]
          rw [e]
          refine Ev.step (f := fun k => remoraref06_Same.l0 k l (l.length : Int) 0 s' b' n' m) (fun k => ?_) (rsame_loop l m s' b' n' hn h4 l.length 0 (by omega))
          simp only [remoraref06_Same.j0]
          rw [if_neg (by decide)]
        · rw [if_neg h4]
          have e : ((l.length : Int) != (m.length : Int)) = true := by simp; omega
          rw [e]
          exact rsame_no _ _ _ _ _ _ _ _
      · rw [if_neg h3]
        exact ev_neg h3 (rsame_no _ _ _ _ _ _ _ _)
    · rw [if_neg h2]
      exact ev_neg h2 (rsame_no _ _ _ _ _ _ _ _)
  · rw [if_neg h1]
    exact ev_neg h1 (rsame_no _ _ _ _ _ _ _ _)
theorem light_loop (l : List S44) (hn : l.length ≤ 4000000000000) (d : Nat) : ∀ i : Nat, i + d = l.length → ∃ t, Ev (fun k => remoralaw06_light.l0 k l (l.length : Int) (i : Int)) t := by
  induction d with
  | zero =>
    intro i hi
    refine ⟨true, Ev.step (f := fun _ => some true) (fun k => ?_) (Ev.now _)⟩
    simp only [remoralaw06_light.l0]
    rw [if_neg (by omega)]
  | succ d ih =>
    intro i hi
    have hlt : i < l.length := by omega
    by_cases h : (((rd_T44 l (i : Int)).f1).size : Int) > 100
    · refine ⟨false, Ev.step (f := fun _ => some false) (fun k => ?_) (Ev.now _)⟩
      simp only [remoralaw06_light.l0]
      rw [if_pos (by omega), if_pos (by omega), if_pos (by omega), if_pos h]
    · obtain ⟨t, ht⟩ := ih (i + 1) (by omega)
      refine ⟨t, Ev.step (f := fun k => remoralaw06_light.l0 k l (l.length : Int) ((i + 1 : Nat) : Int)) (fun k => ?_) ht⟩
      simp only [remoralaw06_light.l0]
      rw [if_pos (by omega), if_pos (by omega), if_pos (by omega), if_neg h, inc6 hlt hn]
theorem light_of (s b n : Int) (l : List S44) : ∃ t, Ev (fun k => remoralaw06_light.f k s b n l) t ∧ (t = true → l.length ≤ 60) := by
  unfold remoralaw06_light.f
  by_cases h : (l.length : Int) > 60
  · exact ⟨false, ev_pos h (Ev.now _), fun h => nomatch h⟩
  · obtain ⟨t, ht⟩ := light_loop l (by omega) l.length 0 (by omega)
    exact ⟨t, ev_neg h ht, fun _ => by omega⟩
theorem or_comm32 (x y : Int) : Go.bits .or .u32 x y = Go.bits .or .u32 y x := by
  unfold Go.bits
  simp only []
  rw [BitVec.or_comm]
theorem getF_bd (l : List Int) (a : Int) : 0 ≤ (getF l a).1 ∧ (getF l a).1 ≤ 4611686018427387903 ∧ 0 ≤ (getF l a).2.1 ∧ (getF l a).2.1 ≤ (l.length : Int) := by
  unfold getF
  by_cases h : a < 0 ∨ a > (l.length : Int)
  · rw [if_pos h]
    exact ⟨by decide, by decide, by decide, by simp⟩
  · rw [if_neg h]
    simp only
    have hm := rl_le 9 (l.drop a.toNat)
    have hlen : (l.drop a.toNat).length = l.length - a.toNat := List.length_drop
    by_cases h9 : rl 9 (l.drop a.toNat) = 9
    · rw [if_pos h9]; exact ⟨by decide, by decide, by decide, by simp⟩
    · rw [if_neg h9]
      by_cases he : rl 9 (l.drop a.toNat) = (l.drop a.toNat).length
      · rw [if_pos he]; exact ⟨by decide, by decide, by decide, by simp⟩
      · rw [if_neg he]
        split
        · exact ⟨by decide, by decide, by decide, by simp⟩
        · split
          · exact ⟨by decide, by decide, by decide, by simp⟩
          · exact ⟨by simp, by simp; omega, by simp; omega, by simp; omega⟩
/-- Four bytes as a rolling sum. -/
def wk (b : List Int) (p : Nat) : Int := b.getD p 0 + 256 * b.getD (p + 1) 0 + 65536 * b.getD (p + 2) 0 + 16777216 * b.getD (p + 3) 0
def mkM (b : List Int) (p n : Nat) : S44 := ⟨wk b p, strOfNums ((b.take (p + (4 + n))).drop (p + 4))⟩
def mkMs (b : List Int) (n : Nat) : Nat → Nat → List S44
  | 0, _ => []
  | d + 1, p => mkM b p n :: mkMs b n d (p + (4 + n))
theorem mkMs_len (b : List Int) (n : Nat) : ∀ d p, (mkMs b n d p).length = d
  | 0, _ => rfl
  | d + 1, p => by
    unfold mkMs
    rw [List.length_cons, mkMs_len b n d]
theorem rd_nat6 (l : List Int) (i : Nat) : rd l (i : Int) = l.getD i 0 := by
  unfold rd
  rw [Int.toNat_natCast]
theorem byte_at {b : List Int} (hb : Bytes b) (i : Nat) : 0 ≤ b.getD i 0 ∧ b.getD i 0 ≤ 255 := by
  by_cases h : i < b.length
  · rw [List.getD_eq_getElem?_getD, List.getElem?_eq_getElem h]
    exact hb _ (List.getElem_mem h)
  · rw [List.getD_eq_getElem?_getD, List.getElem?_eq_none (by omega)]
    exact ⟨by decide, by decide⟩
theorem shl_at {x : Int} (h0 : 0 ≤ x) (h1 : x ≤ 255) : shl .u32 (x % 4294967296) 0 = x ∧ shl .u32 (x % 4294967296) 8 = x * 2 ^ 8 ∧ shl .u32 (x % 4294967296) 16 = x * 2 ^ 16 ∧ shl .u32 (x % 4294967296) 24 = x * 2 ^ 24 := by
  have e : x % 4294967296 = x := by omega
  rw [e]
  refine ⟨?_, ?_, ?_, ?_⟩
  · show IntKind.u32.wrap (x * 2 ^ 0) = x
    rw [IntKind.wrap_u32, show (2 : Int) ^ 0 = 1 from rfl]; omega
  · show IntKind.u32.wrap (x * 2 ^ 8) = x * 2 ^ 8
    rw [IntKind.wrap_u32, show (2 : Int) ^ 8 = 256 from rfl]; omega
  · show IntKind.u32.wrap (x * 2 ^ 16) = x * 2 ^ 16
    rw [IntKind.wrap_u32, show (2 : Int) ^ 16 = 65536 from rfl]; omega
  · show IntKind.u32.wrap (x * 2 ^ 24) = x * 2 ^ 24
    rw [IntKind.wrap_u32, show (2 : Int) ^ 24 = 16777216 from rfl]; omega
theorem or_low (i : Nat) (x y : Int) (h0 : 0 ≤ x) (h1 : 0 ≤ y) (h2 : y < 2 ^ i) (h3 : x * 2 ^ i + y < 4294967296) : Go.bits .or .u32 y (x * 2 ^ i) = x * 2 ^ i + y := by
  rw [or_comm32, or_add i x y h0 h1 h2 h3]
theorem or_four {a b c d : Int} (ha : 0 ≤ a ∧ a ≤ 255) (hb : 0 ≤ b ∧ b ≤ 255) (hc : 0 ≤ c ∧ c ≤ 255) (hd : 0 ≤ d ∧ d ≤ 255) :
    Go.bits .or .u32 (Go.bits .or .u32 (Go.bits .or .u32 a (b * 2 ^ 8)) (c * 2 ^ 16)) (d * 2 ^ 24) = a + 256 * b + 65536 * c + 16777216 * d := by
  have p8 : (2 : Int) ^ 8 = 256 := rfl
  have p16 : (2 : Int) ^ 16 = 65536 := rfl
  have p24 : (2 : Int) ^ 24 = 16777216 := rfl
  rw [or_low 8 b a hb.1 ha.1 (by rw [p8]; omega) (by rw [p8]; omega), or_low 16 c _ hc.1 (by rw [p8]; omega) (by rw [p8, p16]; omega) (by rw [p8, p16]; omega),
    or_low 24 d _ hd.1 (by rw [p8, p16]; omega) (by rw [p8, p16, p24]; omega) (by rw [p8, p16, p24]; omega), p8, p16, p24]
  omega
/-- The signature that bytes hold, or what is wrong. -/
def readF (l : List Int) : Int × Int × Int × List S44 × Int :=
  if (openF l).2 = 0 then
    (if (getF (openF l).1 0).2.2 = 0 then
      (if (getF (openF l).1 (getF (openF l).1 0).2.1).2.2 = 0 then
        (if (getF (openF l).1 (getF (openF l).1 (getF (openF l).1 0).2.1).2.1).2.2 = 0 then
          tailF (openF l).1 (getF (openF l).1 0).1 (getF (openF l).1 (getF (openF l).1 0).2.1).1 (getF (openF l).1 (getF (openF l).1 (getF (openF l).1 0).2.1).2.1).1 (getF (openF l).1 (getF (openF l).1 (getF (openF l).1 0).2.1).2.1).2.1
        else (0, 0, 0, [], (getF (openF l).1 (getF (openF l).1 (getF (openF l).1 0).2.1).2.1).2.2))
      else (0, 0, 0, [], (getF (openF l).1 (getF (openF l).1 0).2.1).2.2))
    else (0, 0, 0, [], (getF (openF l).1 0).2.2))
  else (0, 0, 0, [], (openF l).2)
where tailF (b : List Int) (s bl n at_ : Int) : Int × Int × Int × List S44 × Int :=
  if Fr s bl n = 0 then (if (b.length : Int) - at_ < Ct s bl * (4 + n) then (0, 0, 0, [], 4) else if (b.length : Int) - at_ > Ct s bl * (4 + n) then (0, 0, 0, [], 5) else (s, bl, n, mkMs b n.toNat (Ct s bl).toNat at_.toNat, 0)) else (0, 0, 0, [], 2)
theorem readF_len (l : List Int) : (readF l).2.2.2.1.length ≤ 8192 := by
  unfold readF
  repeat' split
  all_goals first
    | exact Nat.zero_le _
    | skip
  unfold readF.tailF
  split
  · next h =>
    repeat' split
    all_goals first
      | exact Nat.zero_le _
      | skip
    show (mkMs _ _ _ _).length ≤ 8192
    rw [mkMs_len]
    have := (ct_bounds (fr_ok h).2).2.2.2
    omega
  · exact Nat.zero_le _
theorem wr_add (p j : Nat) (h : p + j ≤ 4000000000) : wrap64 ((p : Int) + (j : Int)) = ((p + j : Nat) : Int) := by unfold wrap64; omega
theorem wr_add4 (p n : Nat) (h : p + (4 + n) ≤ 4000000000) : wrap64 ((p : Int) + (4 + (n : Int))) = ((p + (4 + n) : Nat) : Int) := by unfold wrap64; omega
theorem sread_loop (b : List Int) (hb : Bytes b) (hn : b.length ≤ 1000000000) (n : Nat) (h32 : n ≤ 32) (s bl : Int) (d : Nat) : ∀ (p : Nat) (ms : List S44), p + d * (4 + n) = b.length → ms.length + d ≤ 10000 →
    Ev (fun k => sig_Read.l0 k b (p : Int) (4 + (n : Int)) s bl (n : Int) ms) (s, bl, (n : Int), ms ++ mkMs b n d p, 0) := by
  induction d with
  | zero =>
    intro p ms hp hm
    refine Ev.step (f := fun _ => some (s, bl, (n : Int), ms, 0)) (fun k => ?_) ?_
    · simp only [sig_Read.l0]
      rw [if_neg (by omega)]
    · unfold mkMs
      rw [List.append_nil]
      exact Ev.now _
  | succ d ih =>
    intro p ms hp hm
    rw [Nat.add_mul, Nat.one_mul] at hp
    have hnext := ih (p + (4 + n)) (ms ++ [mkM b p n]) (by omega) (by rw [List.length_append, List.length_cons, List.length_nil]; omega)
    rw [List.append_assoc, List.cons_append, List.nil_append] at hnext
    have i0 := byte_at hb p
    have i1 := byte_at hb (p + 1)
    have i2 := byte_at hb (p + 2)
    have i3 := byte_at hb (p + 3)
    have K8 := Aside0.mk k8
    have hp2 : p + (4 + n) ≤ 1000000000 := by omega
    have A0 := Aside0.mk (show wrap64 ((p : Int) + 0) = ((p : Nat) : Int) from wr_add p 0 (by omega))
    have A1 := Aside0.mk (show wrap64 ((p : Int) + 1) = ((p + 1 : Nat) : Int) from wr_add p 1 (by omega))
    have A2 := Aside0.mk (show wrap64 ((p : Int) + 2) = ((p + 2 : Nat) : Int) from wr_add p 2 (by omega))
    have A3 := Aside0.mk (show wrap64 ((p : Int) + 3) = ((p + 3 : Nat) : Int) from wr_add p 3 (by omega))
    have A4 := Aside0.mk (show wrap64 ((p : Int) + 4) = ((p + 4 : Nat) : Int) from wr_add p 4 (by omega))
    have A5 := Aside0.mk (wr_add4 p n (by omega))
    have z0 : Go.bits .or .u32 0 (b.getD p 0) = b.getD p 0 := by
      rw [or_comm32]
      have := or_add 0 (b.getD p 0) 0 i0.1 (by decide) (by decide) (by rw [show (2 : Int) ^ 0 = 1 from rfl]; omega)
      rw [show (2 : Int) ^ 0 = 1 from rfl, Int.mul_one, Int.add_zero] at this
      exact this
    refine Ev.step (f := fun k => sig_Read.l1 k b (p : Int) (4 + (n : Int)) 0 s bl (n : Int) ms 0 ⟨#[]⟩) (fun k => ?_) ?_
    · simp only [sig_Read.l0]
      rw [if_pos (by omega)]
    refine Ev.step (f := fun k => sig_Read.l1 k b (p : Int) (4 + (n : Int)) 1 s bl (n : Int) ms (b.getD p 0) ⟨#[]⟩) (fun k => ?_) ?_
    · simp only [sig_Read.l1]
      rw [if_pos (show (0 : Int) < 4 by decide), A0.out, if_pos (by omega), if_pos (by omega), K8.out.1, if_pos (by decide), K8.out.2.2.2.2.1, rd_nat6, (shl_at i0.1 i0.2).1, z0]
    refine Ev.step (f := fun k => sig_Read.l1 k b (p : Int) (4 + (n : Int)) 2 s bl (n : Int) ms (Go.bits .or .u32 (b.getD p 0) (b.getD (p + 1) 0 * 2 ^ 8)) ⟨#[]⟩) (fun k => ?_) ?_
    · simp only [sig_Read.l1]
      rw [if_pos (show (1 : Int) < 4 by decide), A1.out, if_pos (by omega), if_pos (by omega), K8.out.2.1, if_pos (by decide), K8.out.2.2.2.2.2.1, rd_nat6, (shl_at i1.1 i1.2).2.1]
    refine Ev.step (f := fun k => sig_Read.l1 k b (p : Int) (4 + (n : Int)) 3 s bl (n : Int) ms (Go.bits .or .u32 (Go.bits .or .u32 (b.getD p 0) (b.getD (p + 1) 0 * 2 ^ 8)) (b.getD (p + 2) 0 * 2 ^ 16)) ⟨#[]⟩) (fun k => ?_) ?_
    · simp only [sig_Read.l1]
      rw [if_pos (show (2 : Int) < 4 by decide), A2.out, if_pos (by omega), if_pos (by omega), K8.out.2.2.1, if_pos (by decide), K8.out.2.2.2.2.2.2.1, rd_nat6, (shl_at i2.1 i2.2).2.2.1]
    refine Ev.step (f := fun k => sig_Read.l1 k b (p : Int) (4 + (n : Int)) 4 s bl (n : Int) ms (wk b p) ⟨#[]⟩) (fun k => ?_) ?_
    · simp only [sig_Read.l1]
      rw [if_pos (show (3 : Int) < 4 by decide), A3.out, if_pos (by omega), if_pos (by omega), K8.out.2.2.2.1, if_pos (by decide), K8.out.2.2.2.2.2.2.2, rd_nat6, (shl_at i3.1 i3.2).2.2.2, or_four i0 i1 i2 i3]
      rfl
    refine Ev.step (f := fun k => sig_Read.l0 k b ((p + (4 + n) : Nat) : Int) (4 + (n : Int)) s bl (n : Int) (ms ++ [mkM b p n])) (fun k => ?_) hnext
    simp only [sig_Read.l1]
    rw [if_neg (by decide), A4.out, A5.out, if_pos (by omega), if_pos (by omega), if_pos (by omega), if_pos (by omega), Int.toNat_natCast, Int.toNat_natCast]
    rfl
theorem get_at (l : List Int) (hb : Bytes l) (hn : l.length ≤ 1000000000) (a : Int) : Ev (fun k => num_Get.f k l a) ((getF l a).1, (getF l a).2.1, (getF l a).2.2) := get_of l hb hn a
theorem sread_of (l : List Int) (hb : Bytes l) (hn : l.length ≤ 1000000000) : Ev (fun k => sig_Read.f k l) (readF l) := by
  obtain ⟨ob, on⟩ := open_bytes l hb
  unfold sig_Read.f readF
  refine Ev.bind (a := ((openF l).1, (openF l).2)) (ev_some (open_of l hb hn)) ?_
  generalize (openF l).2 = e0
  generalize (openF l).1 = b at ob on ⊢
  have hbn : b.length ≤ 1000000000 := by omega
  by_cases h0 : e0 = 0
  · rw [if_pos h0]
    refine ev_pos h0 (Ev.bind (get_at b ob hbn 0) ?_)
    by_cases h1 : (getF b 0).2.2 = 0
    · rw [if_pos h1]
      refine ev_pos h1 (Ev.bind (get_at b ob hbn (getF b 0).2.1) ?_)
      by_cases h2 : (getF b (getF b 0).2.1).2.2 = 0
      · rw [if_pos h2]
        refine ev_pos h2 (Ev.bind (get_at b ob hbn (getF b (getF b 0).2.1).2.1) ?_)
        by_cases h3 : (getF b (getF b (getF b 0).2.1).2.1).2.2 = 0
        · rw [if_pos h3]
          refine ev_pos h3 ?_
          have b1 := getF_bd b 0
          have b2 := getF_bd b (getF b 0).2.1
          have b3 := getF_bd b (getF b (getF b 0).2.1).2.1
          clear h0 h1 h2 h3
          show Ev (fun k => (sig_front.f (getF b 0).1 (getF b (getF b 0).2.1).1 (getF b (getF b (getF b 0).2.1).2.1).1 ([] : List S44)).bind fun t208 => (if t208 = 0 then ((blocks_Count.f (getF b 0).1 (getF b (getF b 0).2.1).1).bind fun t209 => (if (wrap64 ((b.length : Int) - (getF b (getF b (getF b 0).2.1).2.1).2.1)) < (wrap64 (t209 * (wrap64 (4 + (getF b (getF b (getF b 0).2.1).2.1).1)))) then (some (0, 0, 0, ([] : List (S44)), 4)) else (if (wrap64 ((b.length : Int) - (getF b (getF b (getF b 0).2.1).2.1).2.1)) > (wrap64 (t209 * (wrap64 (4 + (getF b (getF b (getF b 0).2.1).2.1).1)))) then (some (0, 0, 0, ([] : List (S44)), 5)) else (sig_Read.l0 k b (getF b (getF b (getF b 0).2.1).2.1).2.1 (wrap64 (4 + (getF b (getF b (getF b 0).2.1).2.1).1)) (getF b 0).1 (getF b (getF b 0).2.1).1 (getF b (getF b (getF b 0).2.1).2.1).1 ([] : List (S44)))))) else (some (0, 0, 0, ([] : List (S44)), t208)))) _
          generalize (getF b 0).1 = s at *
          generalize (getF b (getF b 0).2.1).1 = bl at *
          generalize (getF b (getF b (getF b 0).2.1).2.1).1 = n at *
          generalize (getF b (getF b (getF b 0).2.1).2.1).2.1 = p at *
          unfold readF.tailF
          refine Ev.bind (ev_some (front_of s bl n [])) ?_
          by_cases hf : Fr s bl n = 0
          · rw [if_pos hf]
            have hn32 := (fr_ok hf).1
            obtain ⟨c1, c2, c3, c4⟩ := ct_bounds (fr_ok hf).2
            have hmul : 0 ≤ Ct s bl * (4 + n) ∧ Ct s bl * (4 + n) ≤ 8192 * 36 := ⟨Int.mul_nonneg c3 (by omega), Int.le_trans (Int.mul_le_mul_of_nonneg_right c4 (by omega)) (Int.mul_le_mul_of_nonneg_left (by omega) (by decide))⟩
            refine ev_pos hf (Ev.bind (ev_some (count_of s bl)) ?_)
            rw [w64 (4 + n) (by omega) (by omega), w64 (Ct s bl * (4 + n)) (by omega) (by omega), w64 ((b.length : Int) - p) (by omega) (by omega)]
            by_cases l1 : (b.length : Int) - p < Ct s bl * (4 + n)
            · rw [if_pos l1]
              exact ev_pos l1 (Ev.now _)
            · rw [if_neg l1]
              refine ev_neg l1 ?_
              by_cases l2 : (b.length : Int) - p > Ct s bl * (4 + n)
              · rw [if_pos l2]
                exact ev_pos l2 (Ev.now _)
              · rw [if_neg l2]
                refine ev_neg l2 ?_
                obtain ⟨n', rfl⟩ : ∃ n' : Nat, n = (n' : Int) := ⟨n.toNat, by omega⟩
                obtain ⟨p', rfl⟩ : ∃ p' : Nat, p = (p' : Int) := ⟨p.toNat, by omega⟩
                obtain ⟨c', hc'⟩ : ∃ c' : Nat, Ct s bl = (c' : Int) := ⟨(Ct s bl).toNat, by omega⟩
                rw [hc'] at l1 l2 hmul c4 ⊢
                rw [Int.toNat_natCast, Int.toNat_natCast, Int.toNat_natCast]
                have e4 : (c' : Int) * (4 + (n' : Int)) = ((c' * (4 + n') : Nat) : Int) := by push_cast; rfl
                rw [e4] at l1 l2
                have := sread_loop b ob hbn n' (by omega) s bl c' p' [] (by omega) (by simp; omega)
                rw [List.nil_append] at this
                exact this
          · rw [if_neg hf, fr_two hf]
            exact ev_neg (by decide) (Ev.now _)
        · rw [if_neg h3]
          exact ev_neg h3 (Ev.now _)
      · rw [if_neg h2]
        exact ev_neg h2 (Ev.now _)
    · rw [if_neg h1]
      exact ev_neg h1 (Ev.now _)
  · rw [if_neg h0]
    exact ev_neg h0 (Ev.now _)
theorem bytes_back (l : List Int) (h : ∀ x ∈ l, 0 ≤ x ∧ x ≤ 255) : bytesOf (strOfNums l) = l := by
  unfold bytesOf
  rw [strOfNums_data, List.map_map]
  refine (List.map_congr_left (g := id) (fun x hx => ?_)).trans (List.map_id l)
  obtain ⟨h0, h1⟩ := h x hx
  show ((UInt8.ofNat x.toNat).toNat : Int) = x
  rw [UInt8.toNat_ofNat']
  omega
theorem str_back (s : ByteArray) : strOfNums (bytesOf s) = s := by
  obtain ⟨⟨l⟩⟩ := s
  unfold strOfNums bytesOf
  congr 1
  congr 1
  rw [List.map_map]
  refine (List.map_congr_left (g := id) (fun x _ => ?_)).trans (List.map_id l)
  show UInt8.ofNat ((x.toNat : Int)).toNat = x
  simp
theorem wf32 {n : Int} (h : (Lit.int .u32 n).wf = true) : 0 ≤ n ∧ n < 4294967296 := by
  have e0 : IntKind.u32.min = 0 := by decide
  have e1 : IntKind.u32.max = 4294967295 := by decide
  simp [Lit.wf, e0, e1] at h
  omega
theorem getD_app (pre x : List Int) (j : Nat) : (pre ++ x).getD (pre.length + j) 0 = x.getD j 0 := by
  rw [List.getD_eq_getElem?_getD, List.getD_eq_getElem?_getD, List.getElem?_append_right (by omega), Nat.add_sub_cancel_left]
theorem w4_sum (x : Int) (h0 : 0 ≤ x) (h1 : x < 4294967296) : x % 256 + 256 * ((x / 256) % 256) + 65536 * ((x / 65536) % 256) + 16777216 * ((x / 16777216) % 256) = x := by omega
theorem mkMs_back (n : Nat) : ∀ (l : List S44) (pre rest : List Int), (∀ m ∈ l, m.f1.size = n ∧ 0 ≤ m.f0 ∧ m.f0 < 4294967296) → mkMs (pre ++ (mBs l ++ rest)) n l.length pre.length = l
  | [], _, _, _ => rfl
  | m :: l, pre, rest, h => by
    obtain ⟨hs, h0, h1⟩ := h m List.mem_cons_self
    have hm : mkM (pre ++ (mBs (m :: l) ++ rest)) pre.length n = m := by
      have e : mBs (m :: l) ++ rest = w4 m.f0 ++ (bytesOf m.f1 ++ (mBs l ++ rest)) := by
        show (w4 m.f0 ++ bytesOf m.f1 ++ mBs l) ++ rest = _
        rw [List.append_assoc, List.append_assoc]
      rw [e]
      unfold mkM wk
      have g0 := getD_app pre (w4 m.f0 ++ (bytesOf m.f1 ++ (mBs l ++ rest))) 0
      have g1 := getD_app pre (w4 m.f0 ++ (bytesOf m.f1 ++ (mBs l ++ rest))) 1
      have g2 := getD_app pre (w4 m.f0 ++ (bytesOf m.f1 ++ (mBs l ++ rest))) 2
      have g3 := getD_app pre (w4 m.f0 ++ (bytesOf m.f1 ++ (mBs l ++ rest))) 3
      rw [Nat.add_zero] at g0
      rw [g0, g1, g2, g3]
      have e1 : ((pre ++ (w4 m.f0 ++ (bytesOf m.f1 ++ (mBs l ++ rest)))).take (pre.length + (4 + n))).drop (pre.length + 4) = bytesOf m.f1 := by
        have hp : pre ++ (w4 m.f0 ++ (bytesOf m.f1 ++ (mBs l ++ rest))) = (pre ++ w4 m.f0) ++ (bytesOf m.f1 ++ (mBs l ++ rest)) := by rw [List.append_assoc]
        have hl : (pre ++ w4 m.f0).length = pre.length + 4 := by rw [List.length_append]; rfl
        rw [List.drop_take, hp, ← hl, List.drop_left, show pre.length + (4 + n) - (pre ++ w4 m.f0).length = (bytesOf m.f1).length by rw [hl, bytesOf_length]; omega, List.take_left]
      rw [e1, str_back]
      show (⟨m.f0 % 256 + 256 * ((m.f0 / 256) % 256) + 65536 * ((m.f0 / 65536) % 256) + 16777216 * ((m.f0 / 16777216) % 256), m.f1⟩ : S44) = m
      rw [w4_sum m.f0 h0 h1]
    show mkM _ _ _ :: mkMs _ n l.length (pre.length + (4 + n)) = m :: l
    rw [hm]
    have hi := mkMs_back n l (pre ++ mB m) rest (fun m' hm' => h m' (List.mem_cons_of_mem _ hm'))
    have e2 : (pre ++ mB m) ++ (mBs l ++ rest) = pre ++ (mBs (m :: l) ++ rest) := by
      show _ = pre ++ ((mB m ++ mBs l) ++ rest)
      rw [List.append_assoc, List.append_assoc]
    rw [e2, List.length_append, mB_len, hs] at hi
    rw [hi]
theorem gets3 (s b n : Int) (hs : 0 ≤ s ∧ s ≤ 1000000) (hb : 0 ≤ b ∧ b ≤ 1000000) (hn : 0 ≤ n ∧ n ≤ 1000000) (r : List Int) :
    getF (hd3 s b n ++ r) 0 = (s, ((nb (cl s)).length : Int), 0) ∧ getF (hd3 s b n ++ r) ((nb (cl s)).length : Int) = (b, ((nb (cl s)).length : Int) + ((nb (cl b)).length : Int), 0) ∧
    getF (hd3 s b n ++ r) (((nb (cl s)).length : Int) + ((nb (cl b)).length : Int)) = (n, ((nb (cl s)).length : Int) + ((nb (cl b)).length : Int) + ((nb (cl n)).length : Int), 0) := by
  have i1 : ((cl s : Nat) : Int) = s := cl_of (by omega) (by omega)
  have i2 : ((cl b : Nat) : Int) = b := cl_of (by omega) (by omega)
  have i3 : ((cl n : Nat) : Int) = n := cl_of (by omega) (by omega)
  unfold hd3
  refine ⟨?_, ?_, ?_⟩
  · have := getF_nb [] (nb (cl b) ++ nb (cl n) ++ r) (cl s) (cl_le s)
    simp only [List.nil_append, List.length_nil, List.append_assoc] at this ⊢
    rw [show ((0 : Nat) : Int) = 0 from rfl, i1] at this
    rw [this, Int.zero_add]
  · have := getF_nb (nb (cl s)) (nb (cl n) ++ r) (cl b) (cl_le b)
    rw [i2] at this
    simp only [List.append_assoc] at this ⊢
    exact this
  · have := getF_nb (nb (cl s) ++ nb (cl b)) r (cl n) (cl_le n)
    rw [List.length_append, Int.natCast_add, i3] at this
    simp only [List.append_assoc] at this ⊢
    exact this
theorem read_back (s b n : Int) (l : List S44) (h : Ck s b n l = 0) (hw : ∀ m ∈ l, 0 ≤ m.f0 ∧ m.f0 < 4294967296) : readF (bytesF s b n l).1 = (s, b, n, l, 0) := by
  obtain ⟨h1, h2, h3⟩ := ck_ok h
  have hn := (fr_ok h1).1
  obtain ⟨r1, r2, r3, r4⟩ := rg_true (fr_ok h1).2
  obtain ⟨c1, c2, c3, c4⟩ := ct_bounds (fr_ok h1).2
  obtain ⟨g1, g2, g3⟩ := gets3 s b n (by omega) (by omega) (by omega) (mBs l)
  obtain ⟨n', rfl⟩ : ∃ n' : Nat, n = (n' : Int) := ⟨n.toNat, by omega⟩
  have hsz := any_not h3
  have hm := mBs_len n' l hsz
  unfold bytesF
  rw [if_pos h]
  unfold readF
  rw [open_sealed]
  show (if (0 : Int) = 0 then _ else _) = _
  rw [if_pos rfl]
  simp only [g1, g2, g3, if_true]
  unfold readF.tailF
  have hlen : ((hd3 s b n' ++ mBs l).length : Int) - (((nb (cl s)).length : Int) + ((nb (cl b)).length : Int) + ((nb (cl (n' : Int))).length : Int)) = Ct s b * (4 + (n' : Int)) := by
    rw [List.length_append, hm, ← h2]
    unfold hd3
    rw [List.length_append, List.length_append]
    have : ((l.length * (4 + n') : Nat) : Int) = (l.length : Int) * (4 + (n' : Int)) := by push_cast; rfl
    omega
  rw [if_pos h1, hlen, if_neg (by omega), if_neg (by omega), ← h2, Int.toNat_natCast, Int.toNat_natCast]
  have e1 : (((nb (cl s)).length : Int) + ((nb (cl b)).length : Int) + ((nb (cl (n' : Int))).length : Int)).toNat = (hd3 s b n').length := by
    unfold hd3
    rw [List.length_append, List.length_append]
    omega
  have hb := mkMs_back n' l (hd3 s b n') [] (fun m hm' => ⟨by have := hsz m hm'; omega, hw m hm'⟩)
  rw [List.append_nil] at hb
  rw [e1, hb]
/-! What is read is put as the same bytes. -/
theorem gv_pos : ∀ r : List Int, 0 < r.length → 0 < r.getD (r.length - 1) 0 → r.getD (r.length - 1) 0 ≤ 127 → 1 ≤ gv r
  | [], h, _, _ => absurd h (by decide)
  | [c], _, h1, h2 => by
    show 1 ≤ (c % 128).toNat + 128 * 0
    have h1' : 0 < c := h1
    have h2' : c ≤ 127 := h2
    omega
  | c :: d :: r, _, h1, h2 => by
    have := gv_pos (d :: r) (by simp) h1 h2
    show 1 ≤ (c % 128).toNat + 128 * gv (d :: r)
    omega
theorem nb_gv : ∀ D : List Int, 0 < D.length → Bytes D → (∀ j, j + 1 < D.length → D.getD j 0 > 127) → D.getD (D.length - 1) 0 ≤ 127 → (1 < D.length → D.getD (D.length - 1) 0 ≠ 0) → nb (gv D) = D
  | [], h, _, _, _, _ => absurd h (by decide)
  | [c], _, hb, _, h2, _ => by
    have hc := hb c List.mem_cons_self
    have h2' : c ≤ 127 := h2
    have e : gv [c] = c.toNat := by
      show (c % 128).toNat + 128 * 0 = c.toNat
      omega
    rw [e, nb_small (by omega)]
    congr 1
    omega
  | c :: d :: r, _, hb, h1, h2, h3 => by
    have hc := hb c List.mem_cons_self
    have hc1 : c > 127 := h1 0 (by simp)
    have hz := h3 (by simp)
    have hlast : 0 ≤ (d :: r).getD ((d :: r).length - 1) 0 := (byte_at (fun x hx => hb x (List.mem_cons_of_mem _ hx)) _).1
    have hz' : (d :: r).getD ((d :: r).length - 1) 0 ≠ 0 := hz
    have hg := gv_pos (d :: r) (by simp) (by omega) h2
    have ih := nb_gv (d :: r) (by simp) (fun x hx => hb x (List.mem_cons_of_mem _ hx)) (fun j hj => h1 (j + 1) (by simp only [List.length_cons] at hj ⊢; omega)) h2 (fun _ => hz')
    have e : gv (c :: d :: r) = (c % 128).toNat + 128 * gv (d :: r) := rfl
    rw [e, nb_more (by omega)]
    have e1 : ((128 + ((c % 128).toNat + 128 * gv (d :: r)) % 128 : Nat) : Int) = c := by omega
    have e2 : ((c % 128).toNat + 128 * gv (d :: r)) / 128 = gv (d :: r) := by omega
    rw [e1, e2, ih]
theorem getF_canon (l : List Int) (hb : Bytes l) (a : Nat) (h : (getF l (a : Int)).2.2 = 0) :
    ∃ e : Nat, (getF l (a : Int)).2.1 = (e : Int) ∧ e ≤ l.length ∧ l.drop a = nb (cl (getF l (a : Int)).1) ++ l.drop e := by
  unfold getF at h ⊢
  by_cases h0 : (a : Int) < 0 ∨ (a : Int) > (l.length : Int)
  · rw [if_pos h0] at h; exact absurd h (by decide)
  rw [if_neg h0] at h ⊢
  rw [Int.toNat_natCast] at h ⊢
  simp only at h ⊢
  have hlen : (l.drop a).length = l.length - a := List.length_drop
  have hbd : Bytes (l.drop a) := fun x hx => hb x (List.drop_subset _ _ hx)
  generalize hr : l.drop a = r at h hlen hbd ⊢
  have hm := rl_le 9 r
  by_cases h9 : rl 9 r = 9
  · rw [if_pos h9] at h; exact absurd h (by decide)
  rw [if_neg h9] at h ⊢
  by_cases he : rl 9 r = r.length
  · rw [if_pos he] at h; exact absurd h (by decide)
  rw [if_neg he] at h ⊢
  by_cases hz : r.getD (rl 9 r) 0 = 0 ∧ 0 < rl 9 r
  · rw [if_pos hz] at h; exact absurd h (by decide)
  rw [if_neg hz] at h ⊢
  by_cases hg : gv (r.take (rl 9 r + 1)) > 4611686018427387903
  · rw [if_pos hg] at h; exact absurd h (by decide)
  rw [if_neg hg] at h ⊢
  have hlt : rl 9 r < r.length := by omega
  have htl : (r.take (rl 9 r + 1)).length = rl 9 r + 1 := by rw [List.length_take]; omega
  have hget : ∀ j, j < rl 9 r + 1 → (r.take (rl 9 r + 1)).getD j 0 = r.getD j 0 := fun j hj => by
    rw [List.getD_eq_getElem?_getD, List.getD_eq_getElem?_getD, List.getElem?_take, if_pos hj]
  have hend := rl_end 9 r (by omega) hlt
  have hc := nb_gv (r.take (rl 9 r + 1)) (by omega) (fun x hx => hbd x (List.take_subset _ _ hx)) (fun j hj => by rw [hget j (by omega)]; exact rl_more 9 r j (by omega)) (by rw [htl, Nat.add_sub_cancel, hget _ (by omega)]; exact hend)
    (fun h1 => by rw [htl, Nat.add_sub_cancel, hget _ (by omega)]; exact fun h2 => hz ⟨h2, by omega⟩)
  refine ⟨a + (rl 9 r + 1), by show (a : Int) + ((rl 9 r : Nat) : Int) + 1 = _; omega, by omega, ?_⟩
  have hcl : cl ((gv (r.take (rl 9 r + 1)) : Nat) : Int) = gv (r.take (rl 9 r + 1)) := by
    have := cl_of (show (0 : Int) ≤ ((gv (r.take (rl 9 r + 1)) : Nat) : Int) by omega) (by omega)
    omega
  show r = nb (cl ((gv (r.take (rl 9 r + 1)) : Nat) : Int)) ++ _
  rw [hcl, hc, ← List.drop_drop, hr, List.take_append_drop]
theorem mBs_mk (b : List Int) (hb : Bytes b) (n : Nat) : ∀ d p : Nat, p + d * (4 + n) = b.length → mBs (mkMs b n d p) = b.drop p
  | 0, p, h => by
    rw [List.drop_eq_nil_of_le (by omega)]
    rfl
  | d + 1, p, h => by
    rw [Nat.add_mul, Nat.one_mul] at h
    have ih := mBs_mk b hb n d (p + (4 + n)) (by omega)
    show mB (mkM b p n) ++ mBs (mkMs b n d (p + (4 + n))) = _
    rw [ih]
    have i0 := byte_at hb p
    have i1 := byte_at hb (p + 1)
    have i2 := byte_at hb (p + 2)
    have i3 := byte_at hb (p + 3)
    have hx : ∀ j, j < b.length → b.drop j = b.getD j 0 :: b.drop (j + 1) := fun j hj => by
      rw [List.getD_eq_getElem?_getD, List.getElem?_eq_getElem hj]
      exact List.drop_eq_getElem_cons hj
    have e : b.drop p = b.getD p 0 :: b.getD (p + 1) 0 :: b.getD (p + 2) 0 :: b.getD (p + 3) 0 :: b.drop (p + 4) := by
      rw [hx p (by omega), hx (p + 1) (by omega), hx (p + 2) (by omega), hx (p + 3) (by omega)]
    have e4 : w4 (wk b p) = [b.getD p 0, b.getD (p + 1) 0, b.getD (p + 2) 0, b.getD (p + 3) 0] := by
      unfold w4 wk
      rw [show (b.getD p 0 + 256 * b.getD (p + 1) 0 + 65536 * b.getD (p + 2) 0 + 16777216 * b.getD (p + 3) 0) % 256 = b.getD p 0 by omega,
        show ((b.getD p 0 + 256 * b.getD (p + 1) 0 + 65536 * b.getD (p + 2) 0 + 16777216 * b.getD (p + 3) 0) / 256) % 256 = b.getD (p + 1) 0 by omega,
        show ((b.getD p 0 + 256 * b.getD (p + 1) 0 + 65536 * b.getD (p + 2) 0 + 16777216 * b.getD (p + 3) 0) / 65536) % 256 = b.getD (p + 2) 0 by omega,
        show ((b.getD p 0 + 256 * b.getD (p + 1) 0 + 65536 * b.getD (p + 2) 0 + 16777216 * b.getD (p + 3) 0) / 16777216) % 256 = b.getD (p + 3) 0 by omega]
    have e5 : (b.take (p + (4 + n))).drop (p + 4) = (b.drop (p + 4)).take n := by
      rw [List.drop_take]
      congr 1
      omega
    have hbt : Bytes ((b.drop (p + 4)).take n) := fun x hx => hb x (List.drop_subset _ _ (List.take_subset _ _ hx))
    show (w4 (wk b p) ++ bytesOf (strOfNums ((b.take (p + (4 + n))).drop (p + 4)))) ++ _ = _
    rw [e4, e5, bytes_back _ hbt, e]
    show b.getD p 0 :: b.getD (p + 1) 0 :: b.getD (p + 2) 0 :: b.getD (p + 3) 0 :: ((b.drop (p + 4)).take n ++ b.drop (p + (4 + n))) = _
    have e6 : b.drop (p + (4 + n)) = (b.drop (p + 4)).drop n := by rw [List.drop_drop]; congr 1; omega
    rw [e6, List.take_append_drop]
theorem mk_size (b : List Int) (n : Nat) : ∀ d p : Nat, p + d * (4 + n) = b.length → ∀ m ∈ mkMs b n d p, (m.f1.size : Int) = n
  | 0, p, _, m, hm => absurd hm List.not_mem_nil
  | d + 1, p, h, m, hm => by
    rw [Nat.add_mul, Nat.one_mul] at h
    rcases List.mem_cons.1 (show m ∈ mkM b p n :: mkMs b n d (p + (4 + n)) from hm) with rfl | hm'
    · show ((strOfNums ((b.take (p + (4 + n))).drop (p + 4))).size : Int) = n
      rw [strOfNums_size, List.length_drop, List.length_take]
      omega
    · exact mk_size b n d (p + (4 + n)) (by omega) m hm'
theorem reread (l : List Int) (hb : Bytes l) (h : (readF l).2.2.2.2 = 0) : bytesF (readF l).1 (readF l).2.1 (readF l).2.2.1 (readF l).2.2.2.1 = (l, 0) := by
  have ho : (openF l).2 = 0 := by
    by_cases ho : (openF l).2 = 0
    · exact ho
    · unfold readF at h; rw [if_neg ho] at h; exact absurd h ho
  have hl : l = (openF l).1 ++ sb (cs (openF l).1) := by
    unfold openF at ho ⊢
    by_cases h4 : l.length < 4
    · rw [if_pos h4] at ho; exact absurd ho (by decide)
    · rw [if_neg h4] at ho ⊢
      by_cases h5 : sb (cs (l.take (l.length - 4))) = l.drop (l.length - 4)
      · rw [if_pos h5]
        show l = l.take (l.length - 4) ++ sb (cs (l.take (l.length - 4)))
        rw [h5, List.take_append_drop]
      · rw [if_neg h5] at ho; exact absurd ho (by decide)
  obtain ⟨ob, on⟩ := open_bytes l hb
  unfold readF at h ⊢
  rw [if_pos ho] at h ⊢
  generalize hbb : (openF l).1 = b at *
  by_cases h1 : (getF b 0).2.2 = 0
  · rw [if_pos h1] at h ⊢
    obtain ⟨a1, q1, z1, d1⟩ := getF_canon b ob 0 h1
    rw [show ((0 : Nat) : Int) = 0 from rfl] at q1 d1
    by_cases h2 : (getF b (getF b 0).2.1).2.2 = 0
    · rw [if_pos h2] at h ⊢
      rw [q1] at h2 h ⊢
      obtain ⟨a2, q2, z2, d2⟩ := getF_canon b ob a1 h2
      rw [q2] at h ⊢
      by_cases h3 : (getF b (a2 : Int)).2.2 = 0
      · rw [if_pos h3] at h ⊢
        obtain ⟨a3, q3, z3, d3⟩ := getF_canon b ob a2 h3
        rw [q3] at h ⊢
        rw [d2, d3, List.drop_zero] at d1
        generalize (getF b 0).1 = s at *
        generalize (getF b (a1 : Int)).1 = bl at *
        generalize (getF b (a2 : Int)).1 = n at *
        unfold readF.tailF at h ⊢
        by_cases hf : Fr s bl n = 0
        · rw [if_pos hf] at h ⊢
          by_cases l1 : (b.length : Int) - (a3 : Int) < Ct s bl * (4 + n)
          · rw [if_pos l1] at h; exact absurd h (by decide)
          rw [if_neg l1] at h ⊢
          by_cases l2 : (b.length : Int) - (a3 : Int) > Ct s bl * (4 + n)
          · rw [if_pos l2] at h; exact absurd h (by decide)
          rw [if_neg l2]
          have hn := (fr_ok hf).1
          obtain ⟨c1, c2, c3, c4⟩ := ct_bounds (fr_ok hf).2
          obtain ⟨n', rfl⟩ : ∃ n' : Nat, n = (n' : Int) := ⟨n.toNat, by omega⟩
          obtain ⟨c', hc'⟩ : ∃ c' : Nat, Ct s bl = (c' : Int) := ⟨(Ct s bl).toNat, by omega⟩
          rw [hc'] at l1 l2
          have e4 : (c' : Int) * (4 + (n' : Int)) = ((c' * (4 + n') : Nat) : Int) := by push_cast; rfl
          rw [e4] at l1 l2
          have hp : a3 + c' * (4 + n') = b.length := by omega
          have hck : Ck s bl n' (mkMs b n' c' a3) = 0 := ck_mk hf (by rw [mkMs_len, hc']) (mk_size b n' c' a3 hp)
          show bytesF s bl n' (mkMs b (n' : Int).toNat (Ct s bl).toNat (a3 : Int).toNat) = (l, 0)
          rw [hc', Int.toNat_natCast, Int.toNat_natCast, Int.toNat_natCast]
          unfold bytesF
          rw [if_pos hck, mBs_mk b ob n' c' a3 hp]
          have e5 : hd3 s bl n' ++ b.drop a3 = b := by
            unfold hd3
            rw [List.append_assoc, List.append_assoc]
            exact d1.symm
          rw [e5, ← hl]
        · rw [if_neg hf] at h; exact absurd h (by decide)
      · rw [if_neg h3] at h; exact absurd h h3
    · rw [if_neg h2] at h; exact absurd h h2
  · rw [if_neg h1] at h; exact absurd h h1
theorem SigBack : remoralaw06_SigBack.Pure := by
  intro s b n l x _ _ _ hl hx _
  refine Ev.rounds ?_
  unfold remoralaw06_SigBack.f
  have ha : Ev (fun k => (remoralaw06_awake.f k).bind fun t => some t) true := Ev.bind awake6 (Ev.now _)
  have hj : Ev (fun k => remoralaw06_SigBack.j0 k x true s b n l) true := by
    refine Ev.step (f := fun k => (remoralaw06_awake.f k).bind fun t => some t) (fun k => ?_) ha
    simp only [remoralaw06_SigBack.j0]
    rw [if_pos trivial]
  obtain ⟨t, ht, h60⟩ := light_of s b n l
  refine Ev.bind ht ?_
  by_cases h : t = true
  · refine ev_pos h ?_
    by_cases h3 : (x.length : Int) > 3000
    · rw [decide_eq_true h3]
      exact hj
    · rw [decide_eq_false h3]
      have hn := h60 h
      have hb : Bytes x := fun y hy => byte_wf (hx.2 y hy)
      have hw : ∀ m ∈ l, 0 ≤ m.f0 ∧ m.f0 < 4294967296 := fun m hm => wf32 (hl.2 m hm).1
      have h1 : Ev (fun k => remoralaw06_SigBack.j1 k x) true := by
        refine Ev.step (f := fun k => (sig_Read.f k x).bind fun bt244 => (if bt244.2.2.2.2 = 0 then ((sig_Bytes.f k bt244.1 bt244.2.1 bt244.2.2.1 bt244.2.2.2.1).bind fun bt252 => (if bt252.2 = 0 then (if (strOfNums bt252.1).toList = (strOfNums x).toList then ((remoralaw06_awake.f k).bind fun t256 => (some t256)) else (none)) else (none))) else ((remoralaw06_awake.f k).bind fun t257 => (some t257)))) (fun k => ?_) ?_
        · simp only [remoralaw06_SigBack.j1]
        · refine Ev.bind (sread_of x hb (by omega)) ?_
          by_cases h0 : (readF x).2.2.2.2 = 0
          · have hy := bytes_of (readF x).1 (readF x).2.1 (readF x).2.2.1 (readF x).2.2.2.1
            rw [reread x hb h0] at hy
            exact ev_pos h0 (Ev.bind hy (ev_pos rfl (ev_pos rfl ha)))
          · exact ev_neg h0 ha
      refine Ev.step (f := fun k => (sig_Bytes.f k s b n l).bind fun bt230 => (if bt230.2 = 0 then ((sig_Read.f k bt230.1).bind fun bt234 => (if bt234.2.2.2.2 = 0 then ((sig_Same.f k s b n l bt234.1 bt234.2.1 bt234.2.2.1 bt234.2.2.2.1).bind fun t242 => (if t242 = true then ((remoraref06_Same.f k s b n l bt234.1 bt234.2.1 bt234.2.2.1 bt234.2.2.2.1).bind fun t243 => (if t243 = true then (remoralaw06_SigBack.j1 k x) else (none))) else (none))) else (none))) else (remoralaw06_SigBack.j1 k x))) (fun k => ?_) ?_
      · simp only [remoralaw06_SigBack.j0]
        rw [if_neg (by decide)]
      · refine Ev.bind (bytes_of s b n l) ?_
        by_cases hc : Ck s b n l = 0
        · obtain ⟨s1, s2⟩ := ck_small hc
          have hn32 := (fr_ok (ck_ok hc).1).1
          have hbf : bytesF s b n l = (hd3 s b n ++ mBs l ++ sb (cs (hd3 s b n ++ mBs l)), 0) := by unfold bytesF; rw [if_pos hc]
          obtain ⟨n', hn'⟩ : ∃ n' : Nat, n = (n' : Int) := ⟨n.toNat, by omega⟩
          have hm := mBs_len n' l (by rw [← hn']; exact any_not (ck_ok hc).2.2)
          have hmul : l.length * (4 + n') ≤ 60 * 36 := Nat.mul_le_mul hn (by omega)
          have hB : Bytes (hd3 s b n ++ mBs l ++ sb (cs (hd3 s b n ++ mBs l))) := bytes_app (bytes_app (hd3_b _ _ _) (mBs_b _)) (sb_b (cs_lt _))
          have hL : (hd3 s b n ++ mBs l ++ sb (cs (hd3 s b n ++ mBs l))).length ≤ 1000000000 := by
            rw [List.length_append, List.length_append, hm]
            have := hd3_len s b n
            show _ + _ + 4 ≤ _
            omega
          have hr := sread_of _ hB hL
          have hrb := read_back s b n l hc hw
          rw [hbf] at hrb
          have hrb' : readF (hd3 s b n ++ mBs l ++ sb (cs (hd3 s b n ++ mBs l))) = (s, b, n, l, 0) := hrb
          rw [hrb'] at hr
          rw [hbf]
          have e1 := same_of s b n l s b n l (by omega)
          have e2 := rsame_of s b n l s b n l (by omega)
          rw [smF_self] at e1 e2
          exact ev_pos rfl (Ev.bind hr (ev_pos rfl (Ev.bind e1 (ev_pos rfl (Ev.bind e2 (ev_pos rfl h1))))))
        · have hbf : bytesF s b n l = ([], Ck s b n l) := by unfold bytesF; rw [if_neg hc]
          rw [hbf]
          exact ev_neg hc h1
  · exact ev_neg h hj

end Go.Proofs.YtjhgeppjpofjpaaDoor.Pure
