/- The program and the reference agree on whether a signature may be, on its bytes, and on whether two are the same, for at most 60 marks. Conditions: none. -/
import Derived.Test.YtjhgeppjpofjpaaDoorPSigMaysx10
namespace Go.Proofs.YtjhgeppjpofjpaaDoor.Pure
open Go.RowKit Go.Proofs.YtjhgeppjpofjpaaDoor.PSigMays Go.Proofs.YtjhgeppjpofjpaaDoorW.PrintWords Go.Proofs.YtjhgeppjpofjpaaDoorW.PrintLast Go.Proofs.YtjhgeppjpofjpaaDoorW.PrintMore
set_option maxRecDepth 100000
set_option linter.unusedVariables false
theorem w64 (n : Int) (h0 : -9223372036854775808 ≤ n) (h1 : n ≤ 9223372036854775807) : wrap64 n = n := by unfold wrap64; omega
/-- The length by cases. -/
def Ln (s : Int) : Int := if s ≤ 256 then 16 else if s ≤ 1024 then 32 else if s ≤ 4096 then 64 else if s ≤ 16384 then 128 else if s ≤ 65536 then 256 else if s ≤ 262144 then 512 else if s ≤ 1048576 then 1024 else if s ≤ 4194304 then 2048 else 4096
theorem length_of (s : Int) (m : Nat) : blocks_Length.f (m + 9) s = some (Ln s) := by
  have e1 : wrap64 (16 * 16) = 256 := by unfold wrap64; decide
  have e2 : wrap64 (32 * 32) = 1024 := by unfold wrap64; decide
  have e3 : wrap64 (64 * 64) = 4096 := by unfold wrap64; decide
  have e4 : wrap64 (128 * 128) = 16384 := by unfold wrap64; decide
  have e5 : wrap64 (256 * 256) = 65536 := by unfold wrap64; decide
  have e6 : wrap64 (512 * 512) = 262144 := by unfold wrap64; decide
  have e7 : wrap64 (1024 * 1024) = 1048576 := by unfold wrap64; decide
  have e8 : wrap64 (2048 * 2048) = 4194304 := by unfold wrap64; decide
  have d1 : wrap64 (16 * 2) = 32 := by unfold wrap64; decide
  have d2 : wrap64 (32 * 2) = 64 := by unfold wrap64; decide
  have d3 : wrap64 (64 * 2) = 128 := by unfold wrap64; decide
  have d4 : wrap64 (128 * 2) = 256 := by unfold wrap64; decide
  have d5 : wrap64 (256 * 2) = 512 := by unfold wrap64; decide
  have d6 : wrap64 (512 * 2) = 1024 := by unfold wrap64; decide
  have d7 : wrap64 (1024 * 2) = 2048 := by unfold wrap64; decide
  have d8 : wrap64 (2048 * 2) = 4096 := by unfold wrap64; decide
  unfold blocks_Length.f Ln
  by_cases c1 : s ≤ 256
  · rw [if_pos c1]; simp only [blocks_Length.l0]; rw [if_pos (by decide), e1, if_neg (by omega)]
  rw [if_neg c1]
  by_cases c2 : s ≤ 1024
  · rw [if_pos c2]; simp only [blocks_Length.l0]; rw [if_pos (by decide), e1, if_pos (by omega), d1, if_pos (by decide), e2, if_neg (by omega)]
  rw [if_neg c2]
  by_cases c3 : s ≤ 4096
  · rw [if_pos c3]; simp only [blocks_Length.l0]; rw [if_pos (by decide), e1, if_pos (by omega), d1, if_pos (by decide), e2, if_pos (by omega), d2, if_pos (by decide), e3, if_neg (by omega)]
  rw [if_neg c3]
  by_cases c4 : s ≤ 16384
  · rw [if_pos c4]; simp only [blocks_Length.l0]; rw [if_pos (by decide), e1, if_pos (by omega), d1, if_pos (by decide), e2, if_pos (by omega), d2, if_pos (by decide), e3, if_pos (by omega), d3, if_pos (by decide), e4, if_neg (by omega)]
  rw [if_neg c4]
  by_cases c5 : s ≤ 65536
  · rw [if_pos c5]; simp only [blocks_Length.l0]; rw [if_pos (by decide), e1, if_pos (by omega), d1, if_pos (by decide), e2, if_pos (by omega), d2, if_pos (by decide), e3, if_pos (by omega), d3, if_pos (by decide), e4, if_pos (by omega), d4, if_pos (by decide), e5, if_neg (by omega)]
  rw [if_neg c5]
  by_cases c6 : s ≤ 262144
  · rw [if_pos c6]; simp only [blocks_Length.l0]; rw [if_pos (by decide), e1, if_pos (by omega), d1, if_pos (by decide), e2, if_pos (by omega), d2, if_pos (by decide), e3, if_pos (by omega), d3, if_pos (by decide), e4, if_pos (by omega), d4, if_pos (by decide), e5, if_pos (by omega), d5, if_pos (by decide), e6, if_neg (by omega)]
  rw [if_neg c6]
  by_cases c7 : s ≤ 1048576
  · rw [if_pos c7]; simp only [blocks_Length.l0]; rw [if_pos (by decide), e1, if_pos (by omega), d1, if_pos (by decide), e2, if_pos (by omega), d2, if_pos (by decide), e3, if_pos (by omega), d3, if_pos (by decide), e4, if_pos (by omega), d4, if_pos (by decide), e5, if_pos (by omega), d5, if_pos (by decide), e6, if_pos (by omega), d6, if_pos (by decide), e7, if_neg (by omega)]
  rw [if_neg c7]
  by_cases c8 : s ≤ 4194304
  · rw [if_pos c8]; simp only [blocks_Length.l0]; rw [if_pos (by decide), e1, if_pos (by omega), d1, if_pos (by decide), e2, if_pos (by omega), d2, if_pos (by decide), e3, if_pos (by omega), d3, if_pos (by decide), e4, if_pos (by omega), d4, if_pos (by decide), e5, if_pos (by omega), d5, if_pos (by decide), e6, if_pos (by omega), d6, if_pos (by decide), e7, if_pos (by omega), d7, if_pos (by decide), e8, if_neg (by omega)]
  rw [if_neg c8]
  simp only [blocks_Length.l0]; rw [if_pos (by decide), e1, if_pos (by omega), d1, if_pos (by decide), e2, if_pos (by omega), d2, if_pos (by decide), e3, if_pos (by omega), d3, if_pos (by decide), e4, if_pos (by omega), d4, if_pos (by decide), e5, if_pos (by omega), d5, if_pos (by decide), e6, if_pos (by omega), d6, if_pos (by decide), e7, if_pos (by omega), d7, if_pos (by decide), e8, if_pos (by omega), d8, if_neg (by decide)]
def Rg (s b : Int) : Bool := decide (0 ≤ s ∧ s ≤ 131072 ∧ 16 ≤ b ∧ b ≤ 4096)
theorem right_of (s b : Int) : blocks_Right.f s b = some (Rg s b) := by
  unfold blocks_Right.f blocks_block.f Rg
  by_cases h1 : s ≥ 0
  · rw [if_pos h1]
    by_cases h2 : s ≤ 131072
    · rw [if_pos h2]
      by_cases h3 : b ≥ 16
      · rw [if_pos h3]; exact congrArg some (decide_eq_decide.2 (by omega))
      · rw [if_neg h3]; exact congrArg some (decide_eq_false (by omega)).symm
    · rw [if_neg h2]; exact congrArg some (decide_eq_false (by omega)).symm
  · rw [if_neg h1]; exact congrArg some (decide_eq_false (by omega)).symm
theorem rg_true {s b : Int} (h : Rg s b = true) : 0 ≤ s ∧ s ≤ 131072 ∧ 16 ≤ b ∧ b ≤ 4096 := of_decide_eq_true h
theorem rg_mk {s b : Int} (h : 0 ≤ s ∧ s ≤ 131072 ∧ 16 ≤ b ∧ b ≤ 4096) : Rg s b = true := decide_eq_true h
/-- How many blocks. -/
def Ct (s b : Int) : Int := if Rg s b = true then (s + b - 1) / b else 0
theorem ct_bounds {s b : Int} (h : Rg s b = true) : Ct s b * b ≤ s + b - 1 ∧ s ≤ Ct s b * b ∧ 0 ≤ Ct s b ∧ Ct s b ≤ 8192 := by
  obtain ⟨h1, h2, h3, h4⟩ := rg_true h
  unfold Ct; rw [if_pos h]
  have a := Int.ediv_mul_le (s + b - 1) (b := b) (by omega)
  have c := Int.lt_ediv_add_one_mul_self (s + b - 1) (b := b) (by omega)
  have d : 0 ≤ (s + b - 1) / b := Int.ediv_nonneg (by omega) (by omega)
  have e : (s + b - 1) / b < 8193 := Int.ediv_lt_of_lt_mul (by omega) (by omega)
  rw [Int.add_mul] at c
  exact ⟨a, by omega, d, by omega⟩
theorem count_of (s b : Int) : blocks_Count.f s b = some (Ct s b) := by
  unfold blocks_Count.f
  rw [right_of]; simp only [Option.bind_some]
  by_cases h : Rg s b = true
  · obtain ⟨h1, h2, h3, h4⟩ := rg_true h
    have hb := ct_bounds h
    unfold Ct at hb ⊢
    rw [if_pos h] at hb
    rw [if_pos h, if_pos h, if_neg (by omega), w64 (s + b) (by omega) (by omega), w64 (s + b - 1) (by omega) (by omega), Int.tdiv_eq_ediv_of_nonneg (by omega), w64 _ (by omega) (by omega)]
  · unfold Ct; rw [if_neg h, if_neg h]
theorem mul_bounds {i b : Int} (h0 : 0 ≤ i) (h1 : i ≤ 8192) (h2 : 16 ≤ b) (h3 : b ≤ 4096) : 0 ≤ i * b ∧ i * b ≤ 8192 * 4096 :=
  ⟨Int.mul_nonneg h0 (by omega), Int.mul_le_mul h1 h3 (by omega) (by omega)⟩
theorem range_no {s b i : Int} (h : i < 0 ∨ Ct s b ≤ i) : blocks_Range.f s b i = some (0, 0, false) := by
  unfold blocks_Range.f
  by_cases h0 : i < 0
  · rw [if_pos h0]
  · rw [if_neg h0, count_of]; simp only [Option.bind_some]; rw [if_pos (by omega)]
theorem ct_right {s b i : Int} (h0 : 0 ≤ i) (h : i < Ct s b) : Rg s b = true := by
  by_cases hr : Rg s b = true
  · exact hr
  · unfold Ct at h; rw [if_neg hr] at h; omega
theorem range_yes {s b i : Int} (h0 : 0 ≤ i) (h : i < Ct s b) : blocks_Range.f s b i = some (i * b, mn s ((i + 1) * b), true) := by
  have hr := ct_right h0 h
  obtain ⟨h1, h2, h3, h4⟩ := rg_true hr
  have hb := ct_bounds hr
  have m1 := mul_bounds (i := i) (b := b) h0 (by omega) h3 h4
  have m2 := mul_bounds (i := i + 1) (b := b) (by omega) (by omega) h3 h4
  unfold blocks_Range.f
  rw [if_neg (by omega), count_of]; simp only [Option.bind_some]
  rw [if_neg (by omega), w64 (i * b) (by omega) (by omega), w64 (i + 1) (by omega) (by omega), w64 ((i + 1) * b) (by omega) (by omega)]
/-- The bytes of a number: seven bits each, the lowest first. -/
def nb (n : Nat) : List Int := if n < 128 then [(n : Int)] else ((128 + n % 128 : Nat) : Int) :: nb (n / 128)
termination_by n
decreasing_by omega
theorem nb_small {n : Nat} (h : n < 128) : nb n = [(n : Int)] := by rw [nb, if_pos h]
theorem nb_more {n : Nat} (h : ¬ n < 128) : nb n = ((128 + n % 128 : Nat) : Int) :: nb (n / 128) := by rw [nb, if_neg h]
theorem nb_pos (n : Nat) : 1 ≤ (nb n).length := by
  by_cases h : n < 128
  · rw [nb_small h]; exact Nat.le_refl _
  · rw [nb_more h]; simp
theorem nb_len (m : Nat) : ∀ n : Nat, n < 128 ^ m → 0 < m → (nb n).length ≤ m := by
  induction m with
  | zero => intro n h h0; omega
  | succ m ih =>
    intro n h _
    by_cases hs : n < 128
    · rw [nb_small hs]; simp
    · rw [nb_more hs, List.length_cons]
      have hm : 0 < m := by
        rcases Nat.eq_zero_or_pos m with rfl | hm
        · simp at h; omega
        · exact hm
      have := ih (n / 128) (by rw [Nat.div_lt_iff_lt_mul (by decide), ← Nat.pow_succ]; exact h) hm
      omega
theorem nb_nine {n : Nat} (h : n ≤ 4611686018427387903) : (nb n).length ≤ 9 := nb_len 9 n (by omega) (by decide)
theorem nb_bytes (n : Nat) : ∀ x ∈ nb n, 0 ≤ x ∧ x ≤ 255 := by
  induction n using Nat.strongRecOn with
  | _ n ih =>
    by_cases h : n < 128
    · rw [nb_small h]; intro x hx; obtain rfl := List.mem_singleton.1 hx; omega
    · rw [nb_more h]
      intro x hx
      rcases List.mem_cons.1 hx with rfl | hx
      · omega
      · exact ih (n / 128) (by omega) x hx
/-- A number within what may be put. -/
def cl (a : Int) : Nat := (mn (mx a 0) 4611686018427387903).toNat
theorem cl_le (a : Int) : cl a ≤ 4611686018427387903 := by unfold cl mn mx; split <;> split <;> omega
theorem cl_eq (a : Int) : mn (mx a 0) 4611686018427387903 = (cl a : Int) := by unfold cl mn mx; split <;> split <;> omega
theorem cl_of {a : Int} (h0 : 0 ≤ a) (h : a ≤ 4611686018427387903) : (cl a : Int) = a := by unfold cl mn mx; split <;> split <;> omega
theorem ev_pos {α : Type} {c : Prop} [Decidable c] (h : c) {f g : Nat → Option α} {r : α} (k : Ev f r) : Ev (fun k => if c then f k else g k) r := Ev.congr (fun _ => if_pos h) k
theorem ev_neg {α : Type} {c : Prop} [Decidable c] (h : ¬ c) {f g : Nat → Option α} {r : α} (k : Ev g r) : Ev (fun k => if c then f k else g k) r := Ev.congr (fun _ => if_neg h) k
theorem ev_some {α : Type} {o : Option α} {r : α} (h : o = some r) : Ev (fun _ => o) r := by subst h; exact Ev.now _
theorem size_loop (d : Nat) : ∀ (n : Nat) (s : Int), (nb n).length ≤ d → n ≤ 4611686018427387903 → 0 ≤ s → s + (d : Int) ≤ 1000 → Ev (fun k => num_Size.l0 k n s) (s + ((nb n).length : Int) - 1) := by
  induction d with
  | zero => intro n s h; have := nb_pos n; omega
  | succ d ih =>
    intro n s h hn h0 h1
    by_cases hs : n < 128
    · refine Ev.step (f := fun _ => some s) (fun k => ?_) ?_
      · simp only [num_Size.l0]; rw [if_neg (by omega)]
      · rw [nb_small hs]
        have e : s + (([(n : Int)] : List Int).length : Int) - 1 = s := by simp
        rw [e]; exact Ev.now _
    · have e1 : wrap64 (s + 1) = s + 1 := by unfold wrap64; omega
      have hl : (nb n).length = (nb (n / 128)).length + 1 := by rw [nb_more hs, List.length_cons]
      refine Ev.step (f := fun k => num_Size.l0 k ((n / 128 : Nat) : Int) (s + 1)) (fun k => ?_) ?_
      · simp only [num_Size.l0]; rw [if_pos (by omega), e1]; rfl
      · have := ih (n / 128) (s + 1) (by omega) (by omega) (by omega) (by omega)
        rw [hl]
        rw [show s + (((nb (n / 128)).length + 1 : Nat) : Int) - 1 = s + 1 + ((nb (n / 128)).length : Int) - 1 by omega]
        exact this
theorem size_of (a : Int) : Ev (fun k => num_Size.f k (mn (mx a 0) 4611686018427387903)) ((nb (cl a)).length : Int) := by
  unfold num_Size.f
  have e : mn (mx (cl a : Int) 0) 4611686018427387903 = (cl a : Int) := by have := cl_le a; unfold mn mx; split <;> split <;> omega
  rw [cl_eq a, e]
  have := size_loop (nb (cl a)).length (cl a) 1 (Nat.le_refl _) (cl_le a) (by decide) (by have := nb_nine (cl_le a); omega)
  rwa [show (1 : Int) + ((nb (cl a)).length : Int) - 1 = ((nb (cl a)).length : Int) by omega] at this
theorem wrap62 (n : Int) (h0 : 0 ≤ n) (h1 : n < 2 ^ 62) : IntKind.i64.wrap n = n := by rw [IntKind.wrap_i64]; omega
theorem low7 {n : Nat} (h : n ≤ 4611686018427387903) : (Go.bits .or .i64 (Go.bits .and .i64 (n : Int) 127) 128) % 256 = ((128 + n % 128 : Nat) : Int) := by
  have h1 : Go.bits .and .i64 (n : Int) 127 = (n : Int) % 128 := bits_mask .i64 62 (by decide) wrap62 7 (by decide) n (by omega) (by omega)
  have e : (n : Int) % 128 = ((n % 128 : Nat) : Int) := by omega
  have h2 := (bits_nat .i64 62 (by decide) wrap62 (n % 128) 128 (by omega) (by decide)).2
  have h3 : n % 128 ||| 128 = 128 + n % 128 := by
    rw [Nat.or_comm]
    have := Nat.two_pow_add_eq_or_of_lt (i := 7) (b := n % 128) (by omega) 1
    rw [Nat.mul_one] at this
    exact this.symm
  rw [h1, e, show (128 : Int) = ((128 : Nat) : Int) from rfl, h2, h3]
  omega
theorem putN_loop (m : Nat) (hm : m ≤ 9) (d : Nat) : ∀ (i n : Nat) (l : List Int), (nb n).length = d + 1 → i + d = m → n ≤ 4611686018427387903 → l.length ≤ 2000000000 + i → Ev (fun k => num_Put.l0 k n l (m : Int) (i : Int)) (l ++ nb n) := by
  induction d with
  | zero =>
    intro i n l hd hi hn hl
    have hs : n < 128 := by
      by_cases hs : n < 128
      · exact hs
      · rw [nb_more hs, List.length_cons] at hd
        have := nb_pos (n / 128)
        omega
    rw [nb_small hs]
    refine Ev.step (f := fun _ => some (l ++ [(n : Int)])) (fun k => ?_) (Ev.now _)
    simp only [num_Put.l0]
    rw [if_neg (by omega), if_pos (by omega), show (n : Int) % 256 = (n : Int) by omega]
  | succ d ih =>
    intro i n l hd hi hn hl
    have hs : ¬ n < 128 := by
      intro hs
      rw [nb_small hs] at hd
      simp at hd
    rw [nb_more hs] at hd ⊢
    have hd' : (nb (n / 128)).length = d + 1 := by rw [List.length_cons] at hd; omega
    have e1 : wrap64 ((i : Int) + 1) = ((i + 1 : Nat) : Int) := by unfold wrap64; omega
    refine Ev.step (f := fun k => num_Put.l0 k ((n / 128 : Nat) : Int) (l ++ [((128 + n % 128 : Nat) : Int)]) (m : Int) ((i + 1 : Nat) : Int)) (fun k => ?_) ?_
    · simp only [num_Put.l0]
      rw [if_pos (by omega), if_pos (by omega), low7 hn, e1]
      rfl
    · have := ih (i + 1) (n / 128) (l ++ [((128 + n % 128 : Nat) : Int)]) hd' (by omega) (by omega) (by rw [List.length_append]; simp; omega)
      rwa [List.append_assoc, List.singleton_append] at this
theorem put_of (l : List Int) (a : Int) (hl : l.length ≤ 2000000000) : Ev (fun k => num_Put.f k l a) (l ++ nb (cl a)) := by
  unfold num_Put.f
  refine Ev.bind (size_of a) ?_
  have h9 := nb_nine (cl_le a)
  have h1 := nb_pos (cl a)
  have e1 : wrap64 ((l.length : Int) + ((nb (cl a)).length : Int)) = (l.length : Int) + ((nb (cl a)).length : Int) := by unfold wrap64; omega
  have e2 : wrap64 (((nb (cl a)).length : Int) - 1) = (((nb (cl a)).length - 1 : Nat) : Int) := by unfold wrap64; omega
  rw [e1]
  refine ev_pos (by omega) (ev_pos (by omega) ?_)
  simp only [Option.bind_some, List.replicate_zero, List.nil_append, List.length_nil, Nat.zero_add]
  refine ev_pos (by omega) (Ev.bind (size_of a) ?_)
  rw [e2, cl_eq]
  exact putN_loop ((nb (cl a)).length - 1) (by omega) ((nb (cl a)).length - 1) 0 (cl a) l (by omega) (by omega) (cl_le a) (by omega)
def Bytes (l : List Int) : Prop := ∀ x ∈ l, 0 ≤ x ∧ x ≤ 255
/-- One bit falls out. -/
def st1 (x : Nat) : Nat := (x >>> 1) ^^^ (if x % 2 = 1 then 3988292384 else 0)
def stN : Nat → Nat → Nat
  | 0, x => x
  | d + 1, x => stN d (st1 x)
theorem st1_lt {x : Nat} (h : x < 4294967296) : st1 x < 4294967296 := by
  unfold st1
  have h1 : x >>> 1 < 2 ^ 32 := by rw [Nat.shiftRight_eq_div_pow]; omega
  refine Nat.xor_lt_two_pow h1 ?_
  split <;> decide
theorem stN_lt (d : Nat) : ∀ {x : Nat}, x < 4294967296 → stN d x < 4294967296 := by
  induction d with
  | zero => intro x h; exact h
  | succ d ih => intro x h; exact ih (st1_lt h)
theorem xor_lc (a b c : Nat) : a ^^^ (b ^^^ c) = b ^^^ (a ^^^ c) := by rw [← Nat.xor_assoc, Nat.xor_comm a b, Nat.xor_assoc]
theorem st1_xor (a b : Nat) : st1 (a ^^^ b) = st1 a ^^^ st1 b := by
  unfold st1
  rw [Nat.shiftRight_xor_distrib]
  have hm : (a ^^^ b) % 2 = (a % 2) ^^^ (b % 2) := by have := Nat.xor_mod_two_pow (a := a) (b := b) (n := 1); simpa using this
  rw [hm]
  rcases Nat.mod_two_eq_zero_or_one a with ha | ha <;> rcases Nat.mod_two_eq_zero_or_one b with hb | hb
  · rw [ha, hb]; simp
  · rw [ha, hb]; simp [Nat.xor_assoc]
  · rw [ha, hb]
    rw [if_pos (by decide), if_pos rfl, if_neg (by decide), Nat.xor_zero, Nat.xor_assoc, Nat.xor_assoc, Nat.xor_comm (b >>> 1)]
  · rw [ha, hb]
    rw [if_neg (by decide), if_pos rfl, Nat.xor_zero, Nat.xor_assoc, xor_lc 3988292384 (b >>> 1), Nat.xor_self, Nat.xor_zero]
theorem stN_xor (d : Nat) : ∀ a b : Nat, stN d (a ^^^ b) = stN d a ^^^ stN d b := by
  induction d with
  | zero => intro a b; rfl
  | succ d ih => intro a b; show stN d (st1 (a ^^^ b)) = _; rw [st1_xor, ih]; rfl
theorem st1_even (q : Nat) : st1 (2 * q) = q := by
  unfold st1
  rw [Nat.shiftRight_eq_div_pow, if_neg (by omega)]
  simp
theorem st4_high (q : Nat) : stN 4 (16 * q) = q := by
  show st1 (st1 (st1 (st1 (16 * q)))) = q
  rw [show 16 * q = 2 * (8 * q) by omega, st1_even, show 8 * q = 2 * (4 * q) by omega, st1_even, show 4 * q = 2 * (2 * q) by omega, st1_even, st1_even]
theorem st4_parts (x : Nat) : stN 4 x = (x / 16) ^^^ stN 4 (x % 16) := by
  have e : x = (16 * (x / 16)) ^^^ (x % 16) := by
    have h := Nat.two_pow_add_eq_or_of_lt (i := 4) (b := x % 16) (by omega) (x / 16)
    have hx : (16 * (x / 16)) ^^^ (x % 16) = 16 * (x / 16) ||| x % 16 := by
      apply Nat.eq_of_testBit_eq
      intro i
      rw [Nat.testBit_xor, Nat.testBit_or]
      by_cases hi : i < 4
      · have : (16 * (x / 16)).testBit i = false := by
          rw [show 16 * (x / 16) = 2 ^ 4 * (x / 16) by omega, Nat.testBit_two_pow_mul]
          simp; omega
        rw [this]; simp
      · have : (x % 16).testBit i = false := Nat.testBit_lt_two_pow (Nat.lt_of_lt_of_le (show x % 16 < 2 ^ 4 by omega) (Nat.pow_le_pow_right (by decide) (by omega)))
        rw [this]; simp
    rw [hx]
    have : (2 ^ 4 : Nat) * (x / 16) = 16 * (x / 16) := by omega
    rw [← this, ← h]
    omega
  conv => lhs; rw [e]
  rw [stN_xor, st4_high]
theorem tab_of : ∀ r : Nat, r < 16 → tab_table[r]? = some ((stN 4 r : Nat) : Int) := by decide
theorem xor_nat {a b : Nat} (ha : a < 4294967296) (hb : b < 4294967296) : Go.bits .xor .u32 (a : Int) (b : Int) = ((a ^^^ b : Nat) : Int) := by
  have h := Nat.xor_lt_two_pow (n := 32) ha hb
  unfold Go.bits
  simp only [BitVec.ofInt_natCast, BitVec.toNat_xor, BitVec.toNat_ofNat]
  rw [IntKind.wrap_u32, show IntKind.u32.bits = 32 from rfl, Nat.mod_eq_of_lt ha, Nat.mod_eq_of_lt hb]
  omega
theorem and15 {a : Nat} (ha : a < 4294967296) : Go.bits .and .u32 (a : Int) 15 = ((a % 16 : Nat) : Int) := by
  have := bits_mask .u32 32 (by decide) (fun n h0 h1 => by rw [IntKind.wrap_u32]; omega) 4 (by decide) (a : Int) (by omega) (by omega)
  rw [show (15 : Int) = 2 ^ 4 - 1 by decide, this]
  omega
theorem half_of {a : Nat} (ha : a < 4294967296) : crcHalf (a : Int) = ((stN 4 a : Nat) : Int) := by
  unfold crcHalf
  rw [and15 ha, Int.toNat_natCast, tab_of _ (Nat.mod_lt _ (by decide)), Option.getD_some, st4_parts a]
  rw [show (a : Int) / 16 = ((a / 16 : Nat) : Int) from rfl]
  exact xor_nat (by omega) (stN_lt 4 (by omega))
/-- The register behind a byte. -/
def cb (x c : Nat) : Nat := stN 8 (x ^^^ c)
theorem cb_lt {x c : Nat} (hx : x < 4294967296) (hc : c < 4294967296) : cb x c < 4294967296 := stN_lt 8 (Nat.xor_lt_two_pow (n := 32) hx hc)
theorem byte_of {x c : Nat} (hx : x < 4294967296) (hc : c < 4294967296) : crcByte (x : Int) (c : Int) = ((cb x c : Nat) : Int) := by
  unfold crcByte
  rw [show (c : Int) % 4294967296 = (c : Int) by omega, xor_nat hx hc]
  have h := Nat.xor_lt_two_pow (n := 32) hx hc
  rw [half_of h, half_of (stN_lt 4 h)]
  rfl
/-- The register behind bytes. -/
def cr (x : Nat) (l : List Int) : Nat := l.foldl (fun x c => cb x c.toNat) x
theorem cr_lt (l : List Int) (hl : Bytes l) : ∀ {x : Nat}, x < 4294967296 → cr x l < 4294967296 := by
  induction l with
  | nil => intro x hx; exact hx
  | cons c l ih =>
    intro x hx
    have := hl c List.mem_cons_self
    exact ih (fun y hy => hl y (List.mem_cons_of_mem _ hy)) (cb_lt hx (by omega))
theorem row_of (l : List Int) (hl : Bytes l) : ∀ {x : Nat}, x < 4294967296 → crcRow (x : Int) l = ((cr x l : Nat) : Int) := by
  induction l with
  | nil => intro x hx; rfl
  | cons c l ih =>
    intro x hx
    have hc := hl c List.mem_cons_self
    have e : c = ((c.toNat : Nat) : Int) := by omega
    show crcRow (crcByte (x : Int) c) l = _
    rw [e, byte_of hx (by omega)]
    exact ih (fun y hy => hl y (List.mem_cons_of_mem _ hy)) (cb_lt hx (by omega))
/-- A text's sum. -/
def cs (l : List Int) : Nat := 4294967295 - cr 4294967295 l
theorem cs_lt (l : List Int) : cs l < 4294967296 := by unfold cs; omega
theorem not_xor {a : Nat} (ha : a < 4294967296) : 4294967295 ^^^ a = 4294967295 - a := by
  have h1 : (BitVec.ofNat 32 a ^^^ BitVec.allOnes 32).toNat = (~~~ BitVec.ofNat 32 a).toNat := by rw [BitVec.xor_allOnes]
  rw [BitVec.toNat_xor, BitVec.toNat_not, BitVec.toNat_ofNat, BitVec.toNat_allOnes, Nat.mod_eq_of_lt ha] at h1
  rw [Nat.xor_comm]
  omega
theorem of_one (l : List Int) (hl : Bytes l) : crc_Of.f [l] = some ((cs l : Nat) : Int) := by
  unfold crc_Of.f cs
  show some (Go.bits .xor .u32 4294967295 (crcRow ((4294967295 : Nat) : Int) l)) = _
  have h := cr_lt l hl (x := 4294967295) (by decide)
  rw [row_of l hl (by decide), show (4294967295 : Int) = ((4294967295 : Nat) : Int) from rfl, xor_nat (by decide) h, not_xor h]
/-- A sum's bytes. -/
def sb (n : Nat) : List Int := [((n % 256 : Nat) : Int), ((n / 256 % 256 : Nat) : Int), ((n / 65536 % 256 : Nat) : Int), ((n / 16777216 : Nat) : Int)]
theorem seal4_of (l : List Int) (hl : Bytes l) : crc_seal.f l = some (((cs l % 256 : Nat) : Int), ((cs l / 256 % 256 : Nat) : Int), ((cs l / 65536 % 256 : Nat) : Int), ((cs l / 16777216 : Nat) : Int)) := by
  unfold crc_seal.f
  rw [of_one l hl]
  rfl
theorem seal_of (l : List Int) (hl : Bytes l) (hn : l.length ≤ 1000000000) : crc_Seal.f l = some (l ++ sb (cs l)) := by
  unfold crc_Seal.f
  rw [seal4_of l hl, Option.bind_some, if_pos hn]
  rfl
theorem inc6 {i n : Nat} (h : i < n) (hn : n ≤ 4000000000000) : wrap64 ((i : Int) + 1) = ((i + 1 : Nat) : Int) := by unfold wrap64; omega
theorem ev_must {α : Type} {c : Prop} [Decidable c] (h : c) {f : Nat → Option α} {r : α} (k : Ev f r) : Ev (fun k => if c then f k else none) r := ev_pos h k
theorem rd44 {l : List S44} {i : Nat} (h : i < l.length) : rd_T44 l (i : Int) = l[i] := by
  unfold rd_T44
  rw [Int.toNat_natCast, List.getD_eq_getElem?_getD, List.getElem?_eq_getElem h, Option.getD_some]
theorem step44 {l : List S44} {i : Nat} (h : i < l.length) : l.drop i = rd_T44 l (i : Int) :: l.drop (i + 1) := by
  rw [rd44 h]
  exact List.drop_eq_getElem_cons h
theorem str_all (s : ByteArray) : Bytes (bytesOf s) := by
  intro x hx
  unfold bytesOf at hx
  obtain ⟨b, _, rfl⟩ := List.mem_map.1 hx
  have := b.toNat_lt
  omega
theorem nb_b (n : Nat) : Bytes (nb n) := nb_bytes n
theorem bytes_app {a b : List Int} (ha : Bytes a) (hb : Bytes b) : Bytes (a ++ b) := fun x hx => by
  rcases List.mem_append.1 hx with h | h
  · exact ha x h
  · exact hb x h
/-- What is wrong with a signature's numbers. -/
def Fr (s b n : Int) : Int := if (1 ≤ n ∧ n ≤ 32) ∧ Rg s b = true then 0 else 2
theorem fr_ok {s b n : Int} (h : Fr s b n = 0) : (1 ≤ n ∧ n ≤ 32) ∧ Rg s b = true := by
  unfold Fr at h
  by_cases h1 : (1 ≤ n ∧ n ≤ 32) ∧ Rg s b = true
  · exact h1
  · rw [if_neg h1] at h; omega
theorem fr_mk {s b n : Int} (h : (1 ≤ n ∧ n ≤ 32) ∧ Rg s b = true) : Fr s b n = 0 := if_pos h
theorem fr_two {s b n : Int} (h : ¬ Fr s b n = 0) : Fr s b n = 2 := by
  unfold Fr at h ⊢
  by_cases h1 : (1 ≤ n ∧ n ≤ 32) ∧ Rg s b = true
  · rw [if_pos h1] at h; omega
  · rw [if_neg h1]
theorem strong_of (n : Int) : sig_strong.f n = some (decide (1 ≤ n ∧ n ≤ 32)) := by
  unfold sig_strong.f
  by_cases h : n ≥ 1
  · rw [if_pos h]; congr 1; by_cases h2 : n ≤ 32
    · rw [decide_eq_true h2, decide_eq_true ⟨h, h2⟩]
    · rw [decide_eq_false h2, decide_eq_false (fun h3 => h2 h3.2)]
  · rw [if_neg h, decide_eq_false (fun h3 => h h3.1)]
theorem front_of (s b n : Int) (l : List S44) : sig_front.f s b n l = some (Fr s b n) := by
  unfold sig_front.f Fr
  rw [strong_of, Option.bind_some]
  by_cases h : 1 ≤ n ∧ n ≤ 32
  · rw [decide_eq_true h, if_pos rfl, right_of, Option.bind_some]
    by_cases h2 : Rg s b = true
    · rw [if_pos h2, if_pos ⟨h, h2⟩]
    · rw [if_neg h2, if_neg (fun h3 => h2 h3.2)]
  · rw [decide_eq_false h, if_neg (by decide), if_neg (fun h3 => h h3.1)]
/-- What is wrong with a signature. -/
def Ck (s b n : Int) (l : List S44) : Int := if Fr s b n = 0 then (if (l.length : Int) = Ct s b then (if anyOff n l 0 = true then 5 else 0) else 5) else 2
theorem check_of (s b n : Int) (l : List S44) : sig_Check.f s b n l = some (Ck s b n l) := by
  unfold sig_Check.f Ck
  rw [front_of, Option.bind_some]
  by_cases h : Fr s b n = 0
  · rw [if_pos h, if_pos h, count_of, Option.bind_some]
    by_cases h2 : (l.length : Int) = Ct s b
    · rw [if_pos h2, if_pos h2, if_pos (by have := (ct_bounds (fr_ok h).2).2.2.2; omega)]
      by_cases h3 : anyOff n l 0 = true
      · rw [if_pos h3, if_pos h3]
      · rw [if_neg h3, if_neg h3]
    · rw [if_neg h2, if_neg h2]
  · rw [if_neg h, if_neg h, fr_two h]
theorem ck_ok {s b n : Int} {l : List S44} (h : Ck s b n l = 0) : Fr s b n = 0 ∧ (l.length : Int) = Ct s b ∧ anyOff n l 0 = false := by
  unfold Ck at h
  by_cases h1 : Fr s b n = 0
  · rw [if_pos h1] at h
    by_cases h2 : (l.length : Int) = Ct s b
    · rw [if_pos h2] at h
      by_cases h3 : anyOff n l 0 = true
      · rw [if_pos h3] at h; omega
      · exact ⟨h1, h2, by simpa using h3⟩
    · rw [if_neg h2] at h; omega
  · rw [if_neg h1] at h; omega
theorem ck_mk {s b n : Int} {l : List S44} (h1 : Fr s b n = 0) (h2 : (l.length : Int) = Ct s b) (h3 : ∀ m ∈ l, (m.f1.size : Int) = n) : Ck s b n l = 0 := by
  unfold Ck
  rw [if_pos h1, if_pos h2, if_neg]
  unfold anyOff
  rw [List.drop_zero, Bool.not_eq_true, List.any_eq_false]
  intro m hm
  have := h3 m hm
  simp [this]
theorem any_not {n : Int} {l : List S44} (h : anyOff n l 0 = false) : ∀ m ∈ l, (m.f1.size : Int) = n := by
  intro m hm
  unfold anyOff at h
  rw [List.drop_zero, List.any_eq_false] at h
  have := h m hm
  simpa using this
/-- A signature's numbers as bytes. -/
def hd3 (s b n : Int) : List Int := nb (cl s) ++ nb (cl b) ++ nb (cl n)
theorem hd3_b (s b n : Int) : Bytes (hd3 s b n) := bytes_app (bytes_app (nb_b _) (nb_b _)) (nb_b _)
theorem hd3_len (s b n : Int) : (hd3 s b n).length ≤ 27 := by
  unfold hd3
  rw [List.length_append, List.length_append]
  have h1 := nb_nine (cl_le s)
  have h2 := nb_nine (cl_le b)
  have h3 := nb_nine (cl_le n)
  omega
theorem numbers_of (s b n : Int) : Ev (fun k => sig_numbers.f k [s, b, n]) (hd3 s b n) := by
  have h1 := nb_nine (cl_le s)
  have h2 := nb_nine (cl_le b)
  have h3 := nb_nine (cl_le n)
  unfold sig_numbers.f hd3
  show Ev (fun k => sig_numbers.l0 k [] [s, b, n] 3 0) _
  have r0 : rd [s, b, n] 0 = s := rfl
  have r1 : rd [s, b, n] 1 = b := rfl
  have r2 : rd [s, b, n] 2 = n := rfl
  have e1 : wrap64 (0 + 1) = 1 := w64 _ (by decide) (by decide)
  have e2 : wrap64 (1 + 1) = 2 := w64 _ (by decide) (by decide)
  have e3 : wrap64 (2 + 1) = 3 := w64 _ (by decide) (by decide)
  refine Ev.step (f := fun k => (num_Put.f k [] s).bind fun t => sig_numbers.l0 k t [s, b, n] 3 1) (fun k => ?_) ?_
  · simp only [sig_numbers.l0]
    rw [if_pos (show (0 : Int) < 3 by decide), if_pos (show (0 : Int) ≤ 0 by decide), if_pos (show (0 : Int) < (([s, b, n] : List Int).length : Int) by simp), r0, e1]
  refine Ev.bind (put_of [] s (by simp)) ?_
  rw [List.nil_append]
  refine Ev.step (f := fun k => (num_Put.f k (nb (cl s)) b).bind fun t => sig_numbers.l0 k t [s, b, n] 3 2) (fun k => ?_) ?_
  · simp only [sig_numbers.l0]
    rw [if_pos (show (1 : Int) < 3 by decide), if_pos (show (0 : Int) ≤ 1 by decide), if_pos (show (1 : Int) < (([s, b, n] : List Int).length : Int) by simp), r1, e2]
  refine Ev.bind (put_of _ b (by omega)) ?_
  refine Ev.step (f := fun k => (num_Put.f k (nb (cl s) ++ nb (cl b)) n).bind fun t => sig_numbers.l0 k t [s, b, n] 3 3) (fun k => ?_) ?_
  · simp only [sig_numbers.l0]
    rw [if_pos (show (2 : Int) < 3 by decide), if_pos (show (0 : Int) ≤ 2 by decide), if_pos (show (2 : Int) < (([s, b, n] : List Int).length : Int) by simp), r2, e3]
  refine Ev.bind (put_of _ n (by rw [List.length_append]; omega)) ?_
  refine Ev.step (f := fun _ => some (nb (cl s) ++ nb (cl b) ++ nb (cl n))) (fun k => ?_) (Ev.now _)
  simp only [sig_numbers.l0]
  rw [if_neg (by decide)]
/-- The bytes of a rolling sum. -/
def w4 (x : Int) : List Int := [x % 256, (x / 256) % 256, (x / 65536) % 256, (x / 16777216) % 256]
theorem w4_b (x : Int) : Bytes (w4 x) := by
  intro y hy
  simp only [w4, List.mem_cons, List.not_mem_nil, or_false] at hy
  omega
def mB (m : S44) : List Int := w4 m.f0 ++ bytesOf m.f1
def mBs : List S44 → List Int
  | [] => []
  | m :: l => mB m ++ mBs l
theorem mB_b (m : S44) : Bytes (mB m) := bytes_app (w4_b _) (str_all _)
theorem mB_len (m : S44) : (mB m).length = 4 + m.f1.size := by
  unfold mB
  rw [List.length_append, bytesOf_length]
  rfl
theorem mBs_b : ∀ l : List S44, Bytes (mBs l)
  | [] => fun x hx => absurd hx List.not_mem_nil
  | m :: l => bytes_app (mB_b m) (mBs_b l)
theorem k8 : wrap64 (8 * 0) = 0 ∧ wrap64 (8 * 1) = 8 ∧ wrap64 (8 * 2) = 16 ∧ wrap64 (8 * 3) = 24 ∧ wrap64 (0 + 1) = 1 ∧ wrap64 (1 + 1) = 2 ∧ wrap64 (2 + 1) = 3 ∧ wrap64 (3 + 1) = 4 := ⟨w64 _ (by decide) (by decide), w64 _ (by decide) (by decide), w64 _ (by decide) (by decide), w64 _ (by decide) (by decide), w64 _ (by decide) (by decide), w64 _ (by decide) (by decide), w64 _ (by decide) (by decide), w64 _ (by decide) (by decide)⟩
theorem shr_at (x : Int) : (shr .u32 x 0) % 256 = x % 256 ∧ (shr .u32 x 8) % 256 = (x / 256) % 256 ∧ (shr .u32 x 16) % 256 = (x / 65536) % 256 ∧ (shr .u32 x 24) % 256 = (x / 16777216) % 256 := by
  refine ⟨?_, rfl, rfl, rfl⟩
  show (x / 2 ^ 0) % 256 = _
  rw [show (2 : Int) ^ 0 = 1 from rfl, Int.ediv_one]
theorem weak_bytes (x : List Int) (l : List S44) (c i w : Int) (st : ByteArray) (r : List Int × Int) (hx : x.length ≤ 1000000000) (hs : st.size ≤ 1000000000) (h : Ev (fun k => sig_Bytes.l0 k (x ++ (w4 w ++ bytesOf st)) l c (wrap64 (i + 1))) r) :
    Ev (fun k => sig_Bytes.l1 k x l c i 0 w st) r := by
  obtain ⟨e0, e1, e2, e3⟩ := shr_at w
  obtain ⟨q0, q1, q2, q3, p1, p2, p3, p4⟩ := k8
  refine Ev.step (f := fun k => sig_Bytes.l1 k (x ++ [w % 256]) l c i 1 w st) (fun k => ?_) ?_
  · simp only [sig_Bytes.l1]
    rw [if_pos (show (0 : Int) < 4 by decide), q0, if_pos (show (0 : Int) ≤ 0 by decide), if_pos (by omega), e0, p1]
  refine Ev.step (f := fun k => sig_Bytes.l1 k (x ++ [w % 256] ++ [(w / 256) % 256]) l c i 2 w st) (fun k => ?_) ?_
  · simp only [sig_Bytes.l1]
    rw [if_pos (show (1 : Int) < 4 by decide), q1, if_pos (show (0 : Int) ≤ 8 by decide), if_pos (by rw [List.length_append]; simp only [List.length_cons, List.length_nil]; omega), e1, p2]
  refine Ev.step (f := fun k => sig_Bytes.l1 k (x ++ [w % 256] ++ [(w / 256) % 256] ++ [(w / 65536) % 256]) l c i 3 w st) (fun k => ?_) ?_
  · simp only [sig_Bytes.l1]
    rw [if_pos (show (2 : Int) < 4 by decide), q2, if_pos (show (0 : Int) ≤ 16 by decide), if_pos (by simp only [List.length_append, List.length_cons, List.length_nil]; omega), e2, p3]
  refine Ev.step (f := fun k => sig_Bytes.l1 k (x ++ [w % 256] ++ [(w / 256) % 256] ++ [(w / 65536) % 256] ++ [(w / 16777216) % 256]) l c i 4 w st) (fun k => ?_) ?_
  · simp only [sig_Bytes.l1]
    rw [if_pos (show (3 : Int) < 4 by decide), q3, if_pos (show (0 : Int) ≤ 24 by decide), if_pos (by simp only [List.length_append, List.length_cons, List.length_nil]; omega), e3, p4]
  refine Ev.step (f := fun k => sig_Bytes.l0 k (x ++ (w4 w ++ bytesOf st)) l c (wrap64 (i + 1))) (fun k => ?_) h
  simp only [sig_Bytes.l1]
  rw [if_neg (by decide), if_pos (by simp only [List.length_append, List.length_cons, List.length_nil]; omega)]
  simp only [w4, List.append_assoc, List.cons_append, List.nil_append]
theorem bytes_loop (l : List S44) (hn : l.length ≤ 10000) (hs : ∀ m ∈ l, m.f1.size ≤ 1000) (d : Nat) : ∀ (i : Nat) (x : List Int), i + d = l.length → Bytes x → x.length ≤ 100 + 1004 * i →
    Ev (fun k => sig_Bytes.l0 k x l (l.length : Int) (i : Int)) (x ++ mBs (l.drop i) ++ sb (cs (x ++ mBs (l.drop i))), 0) := by
  induction d with
  | zero =>
    intro i x hi hx hl
    refine Ev.step (f := fun _ => (crc_Seal.f x).bind fun t => some (t, 0)) (fun k => ?_) ?_
    · simp only [sig_Bytes.l0]
      rw [if_neg (by omega)]
    · rw [List.drop_eq_nil_of_le (show l.length ≤ i by omega)]
      unfold mBs
      rw [List.append_nil, seal_of x hx (by omega)]
      exact ev_some rfl
  | succ d ih =>
    intro i x hi hx hl
    have hlt : i < l.length := by omega
    have hm : rd_T44 l (i : Int) ∈ l := by rw [rd44 hlt]; exact List.getElem_mem hlt
    have h4 := hs _ hm
    rw [step44 hlt]
    generalize ho : rd_T44 l (i : Int) = o at h4 hm ⊢
    have hnext := ih (i + 1) (x ++ mB o) (by omega) (bytes_app hx (mB_b o)) (by rw [List.length_append, mB_len]; omega)
    rw [show x ++ mB o ++ mBs (l.drop (i + 1)) = x ++ mBs (o :: l.drop (i + 1)) by rw [List.append_assoc]; rfl] at hnext
    refine Ev.step (f := fun k => sig_Bytes.l1 k x l (l.length : Int) (i : Int) 0 o.f0 o.f1) (fun k => ?_) ?_
    · simp only [sig_Bytes.l0]
      rw [ho, if_pos (by omega), if_pos (by omega), if_pos (by omega)]
    · refine weak_bytes x l _ _ _ _ _ (by omega) (by omega) ?_
      rw [inc6 hlt (by omega)]
      exact hnext
/-- A signature as bytes, or why not. -/
def bytesF (s b n : Int) (l : List S44) : List Int × Int := if Ck s b n l = 0 then (hd3 s b n ++ mBs l ++ sb (cs (hd3 s b n ++ mBs l)), 0) else ([], Ck s b n l)
theorem ck_small {s b n : Int} {l : List S44} (h : Ck s b n l = 0) : l.length ≤ 10000 ∧ ∀ m ∈ l, m.f1.size ≤ 1000 := by
  obtain ⟨h1, h2, h3⟩ := ck_ok h
  have := (ct_bounds (fr_ok h1).2).2.2.2
  refine ⟨by omega, fun m hm => ?_⟩
  have h4 := any_not h3 m hm
  have h5 := (fr_ok h1).1
  omega
theorem bytes_of (s b n : Int) (l : List S44) : Ev (fun k => sig_Bytes.f k s b n l) (bytesF s b n l) := by
  unfold sig_Bytes.f bytesF
  refine Ev.bind (ev_some (check_of s b n l)) ?_
  by_cases h : Ck s b n l = 0
  · rw [if_pos h]
    refine ev_pos h (Ev.bind (numbers_of s b n) ?_)
    obtain ⟨h1, h2⟩ := ck_small h
    have := bytes_loop l h1 h2 l.length 0 (hd3 s b n) (by omega) (hd3_b _ _ _) (by have := hd3_len s b n; omega)
    rwa [List.drop_zero] at this
  · rw [if_neg h]
    exact ev_neg h (Ev.now _)
/-- One round of a rolling sum. -/
def rin (x c : Int) : Int := ((roll_In.f x 0 c).getD 0)
theorem rin_of (x c : Int) : roll_In.f x 0 c = some (rin x c) := rfl
def rollF (l : List Int) : Int := l.foldl rin 0
theorem roll_loop (l : List Int) (hn : l.length ≤ 4000000000000) (d : Nat) : ∀ (i : Nat) (x : Int), i + d = l.length → Ev (fun k => roll_Of.l0 k x l (l.length : Int) (i : Int)) ((l.drop i).foldl rin x) := by
  induction d with
  | zero =>
    intro i x hi
    refine Ev.step (f := fun _ => some x) (fun k => ?_) ?_
    · simp only [roll_Of.l0]
      rw [if_neg (by omega)]
    · rw [List.drop_eq_nil_of_le (show l.length ≤ i by omega)]
      exact Ev.now _
  | succ d ih =>
    intro i x hi
    have hlt : i < l.length := by omega
    refine Ev.step (f := fun k => roll_Of.l0 k (rin x (rd l (i : Int))) l (l.length : Int) ((i + 1 : Nat) : Int)) (fun k => ?_) ?_
    · simp only [roll_Of.l0]
      rw [if_pos (by omega), if_pos (by omega), if_pos (by omega), rin_of, Option.bind_some, inc6 hlt hn]
    · rw [List.drop_eq_getElem_cons hlt, List.foldl_cons]
      have e : rd l (i : Int) = l[i] := by unfold rd; rw [Int.toNat_natCast, List.getD_eq_getElem?_getD, List.getElem?_eq_getElem hlt]; rfl
      rw [e]
      exact ih (i + 1) _ (by omega)
theorem roll_of (l : List Int) (hn : l.length ≤ 4000000000000) : Ev (fun k => roll_Of.f k l) (rollF l) := roll_loop l hn l.length 0 0 (by omega)
/-- A text's mark. -/
def markF (l : List Int) (n : Int) : S44 := ⟨rollF l, (strOfNums (shaSum l)).extract 0 n.toNat⟩
theorem sum_size (l : List Int) : (strOfNums (shaSum l)).size = 32 := by rw [strOfNums_size, shaSum_len]
theorem mark_size (l : List Int) (n : Int) (h0 : 0 ≤ n) (h1 : n ≤ 32) : ((markF l n).f1.size : Int) = n := by
  unfold markF
  rw [ByteArray.size_extract, sum_size]
  omega
theorem cut_of (l : List Int) (hn : l.length ≤ 1000000000) (n : Int) (h0 : 0 ≤ n) (h1 : n ≤ 32) : sha_Cut.f l n = some ((markF l n).f1, 0) := by
  unfold sha_Cut.f sha_Sum.f
  rw [if_neg (by omega), if_neg (by omega), if_pos (by omega), Option.bind_some, if_pos h0, if_pos (by rw [sum_size]; exact h1)]
  rfl
theorem mark_of (l : List Int) (hn : l.length ≤ 1000000000) (n : Int) (h0 : 0 ≤ n) (h1 : n ≤ 32) : Ev (fun k => sig_mark.f k l n) ((markF l n).f0, (markF l n).f1) := by
  unfold sig_mark.f
  refine Ev.bind (ev_some (cut_of l hn n h0 h1)) (Ev.bind (roll_of l (by omega)) (Ev.now _))
/-- The marks of a text's blocks. -/
def marksF (l : List Int) (B n : Int) (m : Nat) : List S44 := (List.range m).map fun i => markF (cutRow l B i) n
theorem marks_len (l : List Int) (B n : Int) (m : Nat) : (marksF l B n m).length = m := by unfold marksF; rw [List.length_map, List.length_range]
theorem row_len (l : List Int) (B : Int) (i : Nat) : (cutRow l B i).length ≤ l.length := by
  unfold cutRow
  rw [List.length_drop, List.length_take]
  omega
theorem marks_of (l : List Int) (hn : l.length ≤ 1000000000) (B n : Int) (h0 : 0 ≤ n) (h1 : n ≤ 32) : ∀ m : Nat, Ev (fun k => sigMs k l B n m) (marksF l B n m)
  | 0 => Ev.now _
  | m + 1 => by
    refine Ev.bind (marks_of l hn B n h0 h1 m) (Ev.bind (mark_of _ (Nat.le_trans (row_len l B m) hn) n h0 h1) ?_)
    refine ev_some ?_
    unfold marksF
    rw [List.range_succ, List.map_append]
    rfl
/-- A text's signature, or why there is none. -/
def OfB (l : List Int) (b : Int) : Int := if b = 0 then Ln (l.length : Int) else b
def OfOk (b n : Int) : Prop := (1 ≤ n ∧ n ≤ 32) ∧ (b = 0 ∨ (16 ≤ b ∧ b ≤ 4096))
theorem ln_in (s : Int) : 16 ≤ Ln s ∧ Ln s ≤ 4096 := by
  unfold Ln
  repeat' split
  all_goals omega
theorem ofB_in (l : List Int) {b n : Int} (h : OfOk b n) : 16 ≤ OfB l b ∧ OfB l b ≤ 4096 := by
  unfold OfB
  split
  · exact ln_in _
  · next h0 => exact h.2.resolve_left h0
theorem of_ok (l : List Int) (hn : l.length ≤ 131072) (b n : Int) (h : OfOk b n) : Ev (fun k => sig_Of.f k l b n) ((l.length : Int), OfB l b, n, marksF l (OfB l b) n (cutNum l (OfB l b)), 0) := by
  unfold sig_Of.f
  refine ev_pos (show (1 ≤ n ∧ n ≤ 32) ∧ (b = 0 ∨ (16 ≤ b ∧ b ≤ 4096)) from h) (ev_pos hn ?_)
  refine Ev.bind (a := OfB l b) ?_ (ev_pos (ofB_in l h) (Ev.bind (marks_of l (by omega) _ n (by have := h.1; omega) h.1.2 _) (Ev.now _)))
  unfold OfB
  by_cases h0 : b = 0
  · rw [if_pos h0]
    refine ev_pos h0 ⟨9, fun k hk => ?_⟩
    obtain ⟨m, rfl⟩ : ∃ m, k = m + 9 := ⟨k - 9, by omega⟩
    exact length_of _ m
  · rw [if_neg h0]
    exact ev_neg h0 (Ev.now _)
theorem of_bad (l : List Int) (b n : Int) (h : ¬ OfOk b n) (k : Nat) : sig_Of.f k l b n = some (0, 0, 0, [], 2) := by
  unfold sig_Of.f
  rw [if_neg (show ¬ ((1 ≤ n ∧ n ≤ 32) ∧ (b = 0 ∨ (16 ≤ b ∧ b ≤ 4096))) from h)]
theorem cutNum_ct {l : List Int} (hl : l.length ≤ 131072) {b : Int} (h0 : 16 ≤ b) (h1 : b ≤ 4096) : ((cutNum l b : Nat) : Int) = Ct (l.length : Int) b := by
  have := (cut_facts h0 h1 hl).1
  rw [count_of] at this
  exact (Option.some.inj this).symm
theorem marks_ck (l : List Int) (hl : l.length ≤ 131072) (b n : Int) (h : OfOk b n) : Ck (l.length : Int) (OfB l b) n (marksF l (OfB l b) n (cutNum l (OfB l b))) = 0 := by
  obtain ⟨h0, h1⟩ := ofB_in l h
  refine ck_mk (fr_mk ⟨h.1, rg_mk ⟨by omega, by omega, h0, h1⟩⟩) ?_ ?_
  · rw [marks_len]
    exact cutNum_ct hl h0 h1
  · intro m hm
    obtain ⟨i, _, rfl⟩ := List.mem_map.1 hm
    exact mark_size _ n (by have := h.1; omega) h.1.2
theorem mBs_len (n : Nat) : ∀ l : List S44, (∀ m ∈ l, (m.f1.size : Int) = n) → (mBs l).length = l.length * (4 + n)
  | [], _ => by simp [mBs]
  | m :: l, h => by
    have h1 := h m List.mem_cons_self
    have h2 := mBs_len n l (fun m' hm => h m' (List.mem_cons_of_mem _ hm))
    unfold mBs
    rw [List.length_append, mB_len, h2, List.length_cons, Nat.add_mul, Nat.one_mul]
    omega
theorem awake6 : Ev (fun k => remoralaw06_awake.f k) true := by
  have o1 : OfOk 16 2 := by unfold OfOk; omega
  have o2 : OfOk 0 1 := by unfold OfOk; omega
  have h1 := of_ok (List.replicate 40 0) (by decide) 16 2 o1
  have h2 := of_ok [] (by decide) 0 1 o2
  have hc := marks_ck (List.replicate 40 0) (by decide) 16 2 o1
  have hl := marks_len (List.replicate 40 0) (OfB (List.replicate 40 0) 16) 2 (cutNum (List.replicate 40 0) (OfB (List.replicate 40 0) 16))
  have hb := bytes_of ((List.replicate 40 (0 : Int)).length : Int) (OfB (List.replicate 40 0) 16) 2 (marksF (List.replicate 40 0) (OfB (List.replicate 40 0) 16) 2 (cutNum (List.replicate 40 0) (OfB (List.replicate 40 0) 16)))
  have hz := mBs_len 2 (marksF (List.replicate 40 0) (OfB (List.replicate 40 0) 16) 2 (cutNum (List.replicate 40 0) (OfB (List.replicate 40 0) 16))) (any_not (ck_ok hc).2.2)
  have n1 : cutNum (List.replicate 40 0) (OfB (List.replicate 40 0) 16) = 3 := by decide
  have hm0 := marks_len [] (OfB [] 0) 1 (cutNum [] (OfB [] 0))
  have n2 : cutNum [] (OfB [] 0) = 0 := by decide
  unfold remoralaw06_awake.f
  refine ev_pos (by decide) (Ev.bind h1 ?_)
  refine Ev.bind hb (Ev.bind h2 ?_)
  unfold bytesF
  rw [if_pos hc]
  refine ev_pos rfl (ev_pos rfl (ev_pos rfl (ev_pos ?_ (ev_pos ?_ (ev_pos ?_ ?_)))))
  · show ((marksF _ _ _ _).length : Int) = 3
    rw [hl, n1]
    rfl
  · show ((hd3 _ _ _ ++ _ ++ sb _).length : Int) = 25
    have e3 : (hd3 ((List.replicate 40 (0 : Int)).length : Int) (OfB (List.replicate 40 0) 16) 2).length = 3 := by
      rw [show ((List.replicate 40 (0 : Int)).length : Int) = 40 from rfl, show OfB (List.replicate 40 0) 16 = 16 from rfl]
      unfold hd3
      rw [nb_small (show cl 40 < 128 by decide), nb_small (show cl 16 < 128 by decide), nb_small (show cl 2 < 128 by decide)]
      rfl
    rw [List.length_append, List.length_append, e3, hz, hl, n1]
    rfl
  · show ((marksF _ _ _ _).length : Int) = 0
    rw [hm0, n2]
    rfl
  · exact ev_some rfl
theorem refright_of (s b : Int) : remoraref05_Right.f s b = some (Rg s b) := by
  rw [← right_of]; rfl
theorem refcount_loop (s b : Int) (hr : Rg s b = true) (d : Nat) : ∀ (k : Nat) (c : Int), 0 ≤ c → Ct s b - c = d → d < k → remoraref05_Count.l0 k s b c (c * b) = some (Ct s b) := by
  obtain ⟨h1, h2, h3, h4⟩ := rg_true hr
  obtain ⟨b1, b2, b3, b4⟩ := ct_bounds hr
  induction d with
  | zero =>
    intro k c h0 hd hk
    obtain ⟨k, rfl⟩ : ∃ m, k = m + 1 := ⟨k - 1, by omega⟩
    obtain rfl : c = Ct s b := by omega
    simp only [remoraref05_Count.l0]; rw [if_neg (by omega)]
  | succ d ih =>
    intro k c h0 hd hk
    obtain ⟨k, rfl⟩ : ∃ m, k = m + 1 := ⟨k - 1, by omega⟩
    have hm : (c + 1) * b ≤ Ct s b * b := Int.mul_le_mul_of_nonneg_right (by omega) (by omega)
    have e : c * b + b = (c + 1) * b := by rw [Int.add_mul, Int.one_mul]
    have hp : 0 ≤ c * b := Int.mul_nonneg h0 (by omega)
    simp only [remoraref05_Count.l0]
    rw [if_pos (by omega), w64 (c + 1) (by omega) (by omega), e, w64 ((c + 1) * b) (by omega) (by omega)]
    exact ih k (c + 1) (by omega) (by omega) (by omega)
theorem refcount_of (s b : Int) (m : Nat) : remoraref05_Count.f (m + 8193) s b = some (Ct s b) := by
  unfold remoraref05_Count.f
  rw [refright_of]; simp only [Option.bind_some]
  by_cases hr : Rg s b = true
  · rw [if_pos hr]
    obtain ⟨b1, b2, b3, b4⟩ := ct_bounds hr
    have h := refcount_loop s b hr (Ct s b).toNat (m + 8193) 0 (by omega) (by omega) (by omega)
    rw [Int.zero_mul] at h
    exact h
  · rw [if_neg hr]; unfold Ct; rw [if_neg hr]
theorem groups_loop (d : Nat) : ∀ (n : Nat) (l : List Int), (nb n).length ≤ d → n ≤ 4611686018427387903 → l.length + d ≤ 1000 → Ev (fun k => remoraref01_groups.l0 k n l) (l ++ nb n) := by
  induction d with
  | zero => intro n l h; have := nb_pos n; omega
  | succ d ih =>
    intro n l h hn hl
    by_cases hs : n < 128
    · rw [nb_small hs]
      refine Ev.step (f := fun _ => some (l ++ [(n : Int)])) (fun k => ?_) (Ev.now _)
      simp only [remoraref01_groups.l0]
      rw [if_neg (by omega), if_pos (by omega), show (n : Int) % 256 = (n : Int) by omega]
    · have hl' : (nb n).length = (nb (n / 128)).length + 1 := by rw [nb_more hs, List.length_cons]
      rw [nb_more hs]
      have e1 : wrap64 (Int.tdiv (n : Int) 128) = ((n / 128 : Nat) : Int) := by
        rw [Int.tdiv_eq_ediv_of_nonneg (by omega)]
        unfold wrap64
        omega
      have e2 : (wrap64 (128 + Int.tmod (n : Int) 128)) % 256 = ((128 + n % 128 : Nat) : Int) := by
        rw [Int.tmod_eq_emod_of_nonneg (by omega)]
        unfold wrap64
        omega
      refine Ev.step (f := fun k => remoraref01_groups.l0 k ((n / 128 : Nat) : Int) (l ++ [((128 + n % 128 : Nat) : Int)])) (fun k => ?_) ?_
      · simp only [remoraref01_groups.l0]
        rw [if_pos (by omega), if_pos (by omega), e1, e2]
      · have := ih (n / 128) (l ++ [((128 + n % 128 : Nat) : Int)]) (by omega) (by omega) (by rw [List.length_append]; simp; omega)
        rwa [List.append_assoc, List.singleton_append] at this
theorem held_of (a : Int) : remoraref01_held.f a 0 4611686018427387903 = some (cl a : Int) := by
  have e := cl_eq a
  have h0 : ∀ x y : Int, x = y → some x = some y := fun x y h => by rw [h]
  unfold remoraref01_held.f
  rw [← e]
  unfold mn mx
  (repeat' split) <;> first | omega | (exact h0 _ _ (by omega)) | rfl
theorem rput_of (l : List Int) (a : Int) (hl : l.length ≤ 2000000000) : Ev (fun k => remoraref01_Put.f k l a) (l ++ nb (cl a)) := by
  unfold remoraref01_Put.f
  rw [held_of]
  simp only [Option.bind_some]
  have hg : Ev (fun k => remoraref01_groups.f k (cl a : Int)) (nb (cl a)) := by
    unfold remoraref01_groups.f
    have := groups_loop 9 (cl a) [] (nb_nine (cl_le a)) (cl_le a) (by simp)
    rwa [List.nil_append] at this
  refine Ev.bind hg ?_
  refine ev_some ?_
  have h9 := nb_nine (cl_le a)
  unfold remoraref01_behind.f
  simp only [List.length_nil, Nat.zero_add, List.nil_append]
  rw [if_pos (by omega), Option.bind_some, if_pos (by omega), Option.bind_some]
theorem shift_loop (d : Nat) : ∀ (i x : Nat), i + d = 8 → x < 4294967296 → Ev (fun k => remoraref02_Shift.l0 k (x : Int) 8 (i : Int)) ((stN d x : Nat) : Int) := by
  induction d with
  | zero =>
    intro i x hi hx
    refine Ev.step (f := fun _ => some (x : Int)) (fun k => ?_) (Ev.now _)
    simp only [remoraref02_Shift.l0]
    rw [if_neg (by omega)]
  | succ d ih =>
    intro i x hi hx
    have e1 : wrap64 ((i : Int) + 1) = ((i + 1 : Nat) : Int) := by unfold wrap64; omega
    have e2 : (Int.tdiv (x : Int) 2) % (4294967296 : Int) = ((x >>> 1 : Nat) : Int) := by
      rw [Int.tdiv_eq_ediv_of_nonneg (by omega), Nat.shiftRight_eq_div_pow]
      omega
    have h1 : x >>> 1 < 4294967296 := by rw [Nat.shiftRight_eq_div_pow]; omega
    refine Ev.step (f := fun k => remoraref02_Shift.l0 k ((st1 x : Nat) : Int) 8 ((i + 1 : Nat) : Int)) (fun k => ?_) (ih (i + 1) (st1 x) (by omega) (st1_lt hx))
    simp only [remoraref02_Shift.l0]
    rw [if_pos (by omega), e1, e2, Int.tmod_eq_emod_of_nonneg (by omega)]
    unfold st1
    by_cases h : x % 2 = 1
    · rw [if_pos (by omega), if_pos h, show (3988292384 : Int) = ((3988292384 : Nat) : Int) from rfl, xor_nat h1 (by decide)]
    · rw [if_neg (by omega), if_neg h, Nat.xor_zero]
theorem shift_of {x : Nat} (hx : x < 4294967296) : Ev (fun k => remoraref02_Shift.f k (x : Int) 8) ((stN 8 x : Nat) : Int) := shift_loop 8 0 x rfl hx
theorem rof_inner (l : List Int) (hl : Bytes l) (hn : l.length ≤ 9000000000000000000) (d : Nat) : ∀ (i x : Nat), i + d = l.length → x < 4294967296 →
    Ev (fun k => remoraref02_Of.l1 k [l] (x : Int) 0 (i : Int)) ((4294967295 - cr x (l.drop i) : Nat) : Int) := by
  have hrow : rd_L1 [l] 0 = l := rfl
  induction d with
  | zero =>
    intro i x hi hx
    have e1 : wrap64 (0 + 1) = 1 := by unfold wrap64; decide
    refine Ev.step (f := fun k => remoraref02_Of.l0 k [l] (x : Int) 1) (fun k => ?_) ?_
    · simp only [remoraref02_Of.l1]
      rw [hrow, if_pos (by decide), if_pos (by simp), if_neg (by omega), e1]
    · rw [List.drop_eq_nil_of_le (by omega)]
      refine Ev.step (f := fun _ => some (((4294967295 - x : Nat) : Nat) : Int)) (fun k => ?_) (Ev.now _)
      simp only [remoraref02_Of.l0]
      rw [if_neg (by simp)]
      congr 1
      omega
  | succ d ih =>
    intro i x hi hx
    have hlt : i < l.length := by omega
    have e1 : wrap64 ((i : Int) + 1) = ((i + 1 : Nat) : Int) := by unfold wrap64; omega
    have hc := hl _ (List.getElem_mem hlt)
    have hrd : rd l (i : Int) = l[i] := by unfold rd; rw [Int.toNat_natCast, List.getD_eq_getElem?_getD, List.getElem?_eq_getElem hlt, Option.getD_some]
    have hx2 : x ^^^ l[i].toNat < 4294967296 := Nat.xor_lt_two_pow (n := 32) hx (by omega)
    refine Ev.step (f := fun k => (remoraref02_Shift.f k ((x ^^^ l[i].toNat : Nat) : Int) 8).bind fun t => remoraref02_Of.l1 k [l] t 0 ((i + 1 : Nat) : Int)) (fun k => ?_) ?_
    · simp only [remoraref02_Of.l1]
      rw [hrow, if_pos (by decide), if_pos (by simp), if_pos (by omega), if_pos (by omega), e1, hrd]
      have e3 : l[i] % 4294967296 = ((l[i].toNat : Nat) : Int) := by omega
      rw [e3, xor_nat hx (by omega)]
    · refine Ev.bind (shift_of hx2) ?_
      have := ih (i + 1) (cb x l[i].toNat) (by omega) (cb_lt hx (by omega))
      rw [List.drop_eq_getElem_cons hlt]
      exact this
theorem rof_one (l : List Int) (hl : Bytes l) (hn : l.length ≤ 9000000000000000000) : Ev (fun k => remoraref02_Of.f k [l]) ((cs l : Nat) : Int) := by
  unfold remoraref02_Of.f
  refine Ev.step (f := fun k => remoraref02_Of.l1 k [l] ((4294967295 : Nat) : Int) 0 ((0 : Nat) : Int)) (fun k => ?_) ?_
  · simp only [remoraref02_Of.l0]
    rw [if_pos (by simp)]
    rfl
  · exact rof_inner l hl hn l.length 0 4294967295 (by omega) (by decide)
theorem rseal_of (l : List Int) (hl : Bytes l) (hn : l.length ≤ 1000000000) : Ev (fun k => remoraref02_Seal.f k l) (l ++ sb (cs l)) := by
  unfold remoraref02_Seal.f
  refine Ev.bind (rof_one l hl (by omega)) ?_
  simp only [Option.bind_some, List.length_nil, Nat.zero_add, List.nil_append]
  refine ev_pos (by omega) ?_
  have h := cs_lt l
  unfold sb
  generalize cs l = n at h ⊢
  have q : ∀ m : Nat, m < 4294967296 → (Int.tdiv (m : Int) 256) % (4294967296 : Int) = ((m / 256 : Nat) : Int) ∧ (Int.tmod (m : Int) 256) % 256 = ((m % 256 : Nat) : Int) := fun m hm => by
    rw [Int.tdiv_eq_ediv_of_nonneg (by omega), Int.tmod_eq_emod_of_nonneg (by omega)]
    omega
  have w0 : wrap64 (0 + 1) = 1 := by unfold wrap64; decide
  have w1 : wrap64 (1 + 1) = 2 := by unfold wrap64; decide
  have w2 : wrap64 (2 + 1) = 3 := by unfold wrap64; decide
  have w3 : wrap64 (3 + 1) = 4 := by unfold wrap64; decide
  refine Ev.step (f := fun k => remoraref02_Seal.l0 k ((n / 256 : Nat) : Int) (l ++ [((n % 256 : Nat) : Int)]) 1) (fun k => ?_) ?_
  · simp only [remoraref02_Seal.l0]
    rw [if_pos (by decide), if_pos (by omega), (q n h).1, (q n h).2, w0]
  refine Ev.step (f := fun k => remoraref02_Seal.l0 k ((n / 256 / 256 : Nat) : Int) (l ++ [((n % 256 : Nat) : Int)] ++ [((n / 256 % 256 : Nat) : Int)]) 2) (fun k => ?_) ?_
  · simp only [remoraref02_Seal.l0]
    rw [if_pos (by decide), if_pos (by simp; omega), (q (n / 256) (by omega)).1, (q (n / 256) (by omega)).2, w1]
  refine Ev.step (f := fun k => remoraref02_Seal.l0 k ((n / 256 / 256 / 256 : Nat) : Int) (l ++ [((n % 256 : Nat) : Int)] ++ [((n / 256 % 256 : Nat) : Int)] ++ [((n / 256 / 256 % 256 : Nat) : Int)]) 3) (fun k => ?_) ?_
  · simp only [remoraref02_Seal.l0]
    rw [if_pos (by decide), if_pos (by simp; omega), (q (n / 256 / 256) (by omega)).1, (q (n / 256 / 256) (by omega)).2, w2]
  refine Ev.step (f := fun k => remoraref02_Seal.l0 k ((n / 256 / 256 / 256 / 256 : Nat) : Int) (l ++ [((n % 256 : Nat) : Int)] ++ [((n / 256 % 256 : Nat) : Int)] ++ [((n / 256 / 256 % 256 : Nat) : Int)] ++ [((n / 256 / 256 / 256 % 256 : Nat) : Int)]) 4) (fun k => ?_) ?_
  · simp only [remoraref02_Seal.l0]
    rw [if_pos (by decide), if_pos (by simp; omega), (q (n / 256 / 256 / 256) (by omega)).1, (q (n / 256 / 256 / 256) (by omega)).2, w3]
  refine Ev.step (f := fun _ => some (l ++ [((n % 256 : Nat) : Int)] ++ [((n / 256 % 256 : Nat) : Int)] ++ [((n / 256 / 256 % 256 : Nat) : Int)] ++ [((n / 256 / 256 / 256 % 256 : Nat) : Int)])) (fun k => ?_) ?_
  · simp only [remoraref02_Seal.l0]
    rw [if_neg (by decide)]
  · refine ev_some ?_
    rw [Nat.div_div_eq_div_mul, Nat.div_div_eq_div_mul, show n / (256 * 256 * 256) % 256 = n / 16777216 by omega]
    simp
theorem refcount_ev (s b : Int) : Ev (fun k => remoraref05_Count.f k s b) (Ct s b) := ⟨8193, fun k hk => by
  obtain ⟨m, rfl⟩ : ∃ m, k = m + 8193 := ⟨k - 8193, by omega⟩
  exact refcount_of s b m⟩
theorem head_of (s b n : Int) (l : List S44) : remoraref06_head.f s b n l = some (Fr s b n) := by
  unfold remoraref06_head.f Fr
  by_cases h : n < 1
  · rw [if_pos h, if_neg (by omega)]
  · rw [if_neg h]
    by_cases h1 : n > 32
    · rw [if_pos h1, if_neg (by omega)]
    · rw [if_neg h1, refright_of, Option.bind_some]
      by_cases h2 : Rg s b = true
      · rw [if_pos h2, if_pos ⟨by omega, h2⟩]
      · rw [if_neg h2, if_neg (fun h3 => h2 h3.2)]
theorem rcheck_loop (s b n : Int) (l : List S44) (hn : l.length ≤ 4000000000000) (d : Nat) : ∀ i : Nat, i + d = l.length → Ev (fun k => remoraref06_Check.l0 k l (l.length : Int) (i : Int) s b n l) (if anyOff n l i = true then 5 else 0) := by
  induction d with
  | zero =>
    intro i hi
    have e : anyOff n l i = false := by unfold anyOff; rw [List.drop_eq_nil_of_le (by omega)]; rfl
    rw [e, if_neg (by decide)]
    refine Ev.step (f := fun _ => some 0) (fun k => ?_) (Ev.now _)
    simp only [remoraref06_Check.l0]
    rw [if_neg (by omega)]
  | succ d ih =>
    intro i hi
    have hlt : i < l.length := by omega
    rw [anyOff_step n l i hlt]
    by_cases h : ((rd_T44 l (i : Int)).f1.size : Int) = n
    · have e : (((rd_T44 l (i : Int)).f1.size : Int) != n) = false := by simp [h]
      rw [e, Bool.false_or]
      refine Ev.step (f := fun k => remoraref06_Check.l0 k l (l.length : Int) ((i + 1 : Nat) : Int) s b n l) (fun k => ?_) (ih (i + 1) (by omega))
      simp only [remoraref06_Check.l0]
      rw [if_pos (by omega), if_pos (by omega), if_pos (by omega), if_pos h, inc6 hlt hn]
    · have e : (((rd_T44 l (i : Int)).f1.size : Int) != n) = true := by simp [h]
      rw [e, Bool.true_or, if_pos rfl]
      refine Ev.step (f := fun _ => some 5) (fun k => ?_) (Ev.now _)
      simp only [remoraref06_Check.l0]
      rw [if_pos (by omega), if_pos (by omega), if_pos (by omega), if_neg h]
theorem rcheck_of (s b n : Int) (l : List S44) : Ev (fun k => remoraref06_Check.f k s b n l) (Ck s b n l) := by
  unfold remoraref06_Check.f Ck
  refine Ev.bind (ev_some (head_of s b n l)) ?_
  by_cases h : Fr s b n = 0
  · rw [if_pos h]
    refine ev_pos h (Ev.bind (refcount_ev s b) ?_)
    by_cases h2 : (l.length : Int) = Ct s b
    · rw [if_pos h2]
      have := (ct_bounds (fr_ok h).2).2.2.2
      exact ev_pos h2 (rcheck_loop s b n l (by omega) l.length 0 (by omega))
    · rw [if_neg h2]
      exact ev_neg h2 (Ev.now _)
  · rw [if_neg h, fr_two h]
    exact ev_neg (by omega) (Ev.now _)
theorem rbytes_loop (l : List S44) (hn : l.length ≤ 10000) (hs : ∀ m ∈ l, m.f1.size ≤ 1000) (d : Nat) : ∀ (i : Nat) (x : List Int), i + d = l.length → Bytes x → x.length ≤ 100 + 1004 * i →
    Ev (fun k => remoraref06_Bytes.l0 k x l (l.length : Int) (i : Int)) (x ++ mBs (l.drop i) ++ sb (cs (x ++ mBs (l.drop i))), 0) := by
  induction d with
  | zero =>
    intro i x hi hx hl
    refine Ev.step (f := fun k => (remoraref02_Seal.f k x).bind fun t => some (t, 0)) (fun k => ?_) ?_
    · simp only [remoraref06_Bytes.l0]
      rw [if_neg (by omega)]
    · rw [List.drop_eq_nil_of_le (show l.length ≤ i by omega)]
      unfold mBs
      rw [List.append_nil]
      exact Ev.bind (rseal_of x hx (by omega)) (Ev.now _)
  | succ d ih =>
    intro i x hi hx hl
    have hlt : i < l.length := by omega
    have hm : rd_T44 l (i : Int) ∈ l := by rw [rd44 hlt]; exact List.getElem_mem hlt
    have h4 := hs _ hm
    rw [step44 hlt]
    generalize ho : rd_T44 l (i : Int) = o at h4 hm ⊢
    have hnext := ih (i + 1) (x ++ mB o) (by omega) (bytes_app hx (mB_b o)) (by rw [List.length_append, mB_len]; omega)
    rw [show x ++ mB o ++ mBs (l.drop (i + 1)) = x ++ mBs (o :: l.drop (i + 1)) by rw [List.append_assoc]; rfl] at hnext
    refine Ev.step (f := fun k => remoraref06_Bytes.l0 k (x ++ mB o) l (l.length : Int) ((i + 1 : Nat) : Int)) (fun k => ?_) hnext
    simp only [remoraref06_Bytes.l0]
    rw [ho, if_pos (by omega), if_pos (by omega), if_pos (by omega), Option.bind_some, if_pos (by simp only [List.length_cons, List.length_nil]; omega), Option.bind_some, if_pos (by simp only [List.length_append, List.length_cons, List.length_nil]; omega), inc6 hlt (by omega), List.append_assoc]
    rfl
theorem rbytes_of (s b n : Int) (l : List S44) : Ev (fun k => remoraref06_Bytes.f k s b n l) (bytesF s b n l) := by
  unfold remoraref06_Bytes.f bytesF
  refine Ev.bind (rcheck_of s b n l) ?_
  by_cases h : Ck s b n l = 0
  · rw [if_pos h]
    have e1 := nb_nine (cl_le s)
    have e2 := nb_nine (cl_le b)
    refine ev_pos h (Ev.bind (rput_of [] s (by simp)) (Ev.bind (rput_of _ b (by rw [List.nil_append]; omega)) (Ev.bind (rput_of _ n (by rw [List.nil_append, List.length_append]; omega)) ?_)))
    obtain ⟨h1, h2⟩ := ck_small h
    have := rbytes_loop l h1 h2 l.length 0 (hd3 s b n) (by omega) (hd3_b _ _ _) (by have := hd3_len s b n; omega)
    rwa [List.drop_zero] at this
  · rw [if_neg h]
    exact ev_neg h (Ev.now _)
/-- Whether two rows' marks differ at a place. -/
def df (l m : List S44) (i : Nat) : Bool := !(((rd_T44 l (i : Int)).f0) == ((rd_T44 m (i : Int)).f0)) || (!((((rd_T44 l (i : Int)).f1).toList) == (((rd_T44 m (i : Int)).f1).toList)))
def eqD (l m : List S44) : Nat → Nat → Bool
  | 0, _ => true
  | d + 1, i => if df l m i = true then false else eqD l m d (i + 1)
theorem same_loop (l m : List S44) (hn : l.length ≤ 4000000000000) (he : l.length = m.length) (d : Nat) : ∀ i : Nat, i + d = l.length → Ev (fun k => api_Mark_50.l0 k l m (l.length : Int) (i : Int)) (eqD l m d i) := by
  induction d with
  | zero =>
    intro i hi
    refine Ev.step (f := fun _ => some true) (fun k => ?_) (Ev.now _)
    simp only [api_Mark_50.l0]
    rw [if_neg (by omega)]
  | succ d ih =>
    intro i hi
    have hlt : i < l.length := by omega
    unfold eqD
    by_cases h : df l m i = true
    · rw [if_pos h]
      refine Ev.step (f := fun _ => some false) (fun k => ?_) (Ev.now _)
      simp only [api_Mark_50.l0]
      rw [if_pos (by omega), if_pos (by omega), if_pos (by omega), if_pos (by omega), if_pos (show (!(((rd_T44 l (i : Int)).f0) == ((rd_T44 m (i : Int)).f0)) || (!((((rd_T44 l (i : Int)).f1).toList) == (((rd_T44 m (i : Int)).f1).toList)))) = true from h)]
    · rw [if_neg h]
      refine Ev.step (f := fun k => api_Mark_50.l0 k l m (l.length : Int) ((i + 1 : Nat) : Int)) (fun k => ?_) (ih (i + 1) (by omega))
      simp only [api_Mark_50.l0]
      rw [if_pos (by omega), if_pos (by omega), if_pos (by omega), if_pos (by omega), if_neg (show ¬ ((!(((rd_T44 l (i : Int)).f0) == ((rd_T44 m (i : Int)).f0)) || (!((((rd_T44 l (i : Int)).f1).toList) == (((rd_T44 m (i : Int)).f1).toList)))) = true) from h), inc6 hlt hn]
theorem eqD_self (l : List S44) : ∀ d i, eqD l l d i = true
  | 0, _ => rfl
  | d + 1, i => by
    unfold eqD
    rw [if_neg (by unfold df; simp)]
    exact eqD_self l d (i + 1)
/-- Whether two signatures are the same. -/
def smF (s b n : Int) (l : List S44) (s' b' n' : Int) (m : List S44) : Bool := if s = s' then (if b = b' then (if n = n' then (if l.length = m.length then eqD l m l.length 0 else false) else false) else false) else false
theorem smF_self (s b n : Int) (l : List S44) : smF s b n l s b n l = true := by
  unfold smF
  rw [if_pos rfl, if_pos rfl, if_pos rfl, if_pos rfl, eqD_self]
theorem same_of (s b n : Int) (l : List S44) (s' b' n' : Int) (m : List S44) (hn : l.length ≤ 4000000000000) : Ev (fun k => sig_Same.f k s b n l s' b' n' m) (smF s b n l s' b' n' m) := by
  unfold sig_Same.f smF
  by_cases h1 : s = s'
  · rw [if_pos h1]
    refine ev_pos h1 ?_
    by_cases h2 : b = b'
    · rw [if_pos h2]
      refine ev_pos h2 ?_
      by_cases h3 : n = n'
      · rw [if_pos h3]
        refine ev_pos h3 (Ev.bind (a := if l.length = m.length then eqD l m l.length 0 else false) ?_ (Ev.now _))
        unfold api_Mark_50.f
        by_cases h4 : l.length = m.length
        · rw [if_pos h4]
          exact ev_pos (by omega) (same_loop l m hn h4 l.length 0 (by omega))
        · rw [if_neg h4]
          exact ev_neg (by omega) (Ev.now _)
      · rw [if_neg h3]
        exact ev_neg h3 (Ev.now _)
    · rw [if_neg h2]
      exact ev_neg h2 (Ev.now _)
  · rw [if_neg h1]
    exact ev_neg h1 (Ev.now _)
theorem rsame_loop (l m : List S44) (s b n : Int) (hn : l.length ≤ 4000000000000) (he : l.length = m.length) (d : Nat) : ∀ i : Nat, i + d = l.length → Ev (fun k => remoraref06_Same.l0 k l (l.length : Int) (i : Int) s b n m) (eqD l m d i) := by
  induction d with
  | zero =>
    intro i hi
    refine Ev.step (f := fun _ => some true) (fun k => ?_) (Ev.now _)
    simp only [remoraref06_Same.l0]
    rw [if_neg (by omega)]
  | succ d ih =>
    intro i hi
    have hlt : i < l.length := by omega
    unfold eqD
    by_cases h : df l m i = true
    · rw [if_pos h]
      refine Ev.step (f := fun _ => some false) (fun k => ?_) (Ev.now _)
      simp only [remoraref06_Same.l0]
      rw [if_pos (by omega), if_pos (by omega), if_pos (by omega), if_pos (by omega), if_pos (show (!(((rd_T44 l (i : Int)).f0) == ((rd_T44 m (i : Int)).f0)) || (!((((rd_T44 l (i : Int)).f1).toList) == (((rd_T44 m (i : Int)).f1).toList)))) = true from h)]
    · rw [if_neg h]
      refine Ev.step (f := fun k => remoraref06_Same.l0 k l (l.length : Int) ((i + 1 : Nat) : Int) s b n m) (fun k => ?_) (ih (i + 1) (by omega))
      simp only [remoraref06_Same.l0]
      rw [if_pos (by omega), if_pos (by omega), if_pos (by omega), if_pos (by omega), if_neg (show ¬ ((!(((rd_T44 l (i : Int)).f0) == ((rd_T44 m (i : Int)).f0)) || (!((((rd_T44 l (i : Int)).f1).toList) == (((rd_T44 m (i : Int)).f1).toList)))) = true) from h), inc6 hlt hn]
theorem rsame_no (s b n : Int) (l : List S44) (s' b' n' : Int) (m : List S44) : Ev (fun k => remoraref06_Same.j0 k true s b n l s' b' n' m) false := by
  refine Ev.step (f := fun _ => some false) (fun k => ?_) (Ev.now _)
  simp only [remoraref06_Same.j0]
  rw [if_pos trivial]
theorem rsame_of (s b n : Int) (l : List S44) (s' b' n' : Int) (m : List S44) (hn : l.length ≤ 4000000000000) : Ev (fun k => remoraref06_Same.f k s b n l s' b' n' m) (smF s b n l s' b' n' m) := by
  unfold remoraref06_Same.f smF
  by_cases h1 : s = s'
  · rw [if_pos h1]
    refine ev_pos h1 ?_
    by_cases h2 : b = b'
    · rw [if_pos h2]
      refine ev_pos h2 ?_
      by_cases h3 : n = n'
      · rw [if_pos h3]
        refine ev_pos h3 ?_
        by_cases h4 : l.length = m.length
        · rw [if_pos h4]
          have e : ((l.length : Int) != (m.length : Int)) = false := by simp [h4]
          rw [e]
          refine Ev.step (f := fun k => remoraref06_Same.l0 k l (l.length : Int) 0 s' b' n' m) (fun k => ?_) (rsame_loop l m s' b' n' hn h4 l.length 0 (by omega))
          simp only [remoraref06_Same.j0]
          rw [if_neg (by decide)]
        · rw [if_neg h4]
          have e : ((l.length : Int) != (m.length : Int)) = true := by simp; omega
          rw [e]
          exact rsame_no _ _ _ _ _ _ _ _
      · rw [if_neg h3]
        exact ev_neg h3 (rsame_no _ _ _ _ _ _ _ _)
    · rw [if_neg h2]
      exact ev_neg h2 (rsame_no _ _ _ _ _ _ _ _)
  · rw [if_neg h1]
    exact ev_neg h1 (rsame_no _ _ _ _ _ _ _ _)
theorem light_loop (l : List S44) (hn : l.length ≤ 4000000000000) (d : Nat) : ∀ i : Nat, i + d = l.length → ∃ t, Ev (fun k => remoralaw06_light.l0 k l (l.length : Int) (i : Int)) t := by
  induction d with
  | zero =>
    intro i hi
    refine ⟨true, Ev.step (f := fun _ => some true) (fun k => ?_) (Ev.now _)⟩
    simp only [remoralaw06_light.l0]
    rw [if_neg (by omega)]
  | succ d ih =>
    intro i hi
    have hlt : i < l.length := by omega
    by_cases h : (((rd_T44 l (i : Int)).f1).size : Int) > 100
    · refine ⟨false, Ev.step (f := fun _ => some false) (fun k => ?_) (Ev.now _)⟩
      simp only [remoralaw06_light.l0]
      rw [if_pos (by omega), if_pos (by omega), if_pos (by omega), if_pos h]
    · obtain ⟨t, ht⟩ := ih (i + 1) (by omega)
      refine ⟨t, Ev.step (f := fun k => remoralaw06_light.l0 k l (l.length : Int) ((i + 1 : Nat) : Int)) (fun k => ?_) ht⟩
      simp only [remoralaw06_light.l0]
      rw [if_pos (by omega), if_pos (by omega), if_pos (by omega), if_neg h, inc6 hlt hn]
theorem light_of (s b n : Int) (l : List S44) : ∃ t, Ev (fun k => remoralaw06_light.f k s b n l) t ∧ (t = true → l.length ≤ 60) := by
  unfold remoralaw06_light.f
  by_cases h : (l.length : Int) > 60
  · exact ⟨false, ev_pos h (Ev.now _), fun h => nomatch h⟩
  · obtain ⟨t, ht⟩ := light_loop l (by omega) l.length 0 (by omega)
    exact ⟨t, ev_neg h ht, fun _ => by omega⟩
theorem SigMays : remoralaw06_SigMays.Pure := by
  intro s b n l s' b' n' m _ _ _ hl _ _ _ hm
  refine Ev.rounds ?_
  unfold remoralaw06_SigMays.f
  have hj : Ev (fun k => remoralaw06_SigMays.j0 k true s b n l s' b' n' m) true := by
    refine Ev.step (f := fun k => (remoralaw06_awake.f k).bind fun t => some t) (fun k => ?_) (Ev.bind awake6 (Ev.now _))
    simp only [remoralaw06_SigMays.j0]
    rw [if_pos trivial]
  obtain ⟨t, ht, h60⟩ := light_of s b n l
  refine Ev.bind ht ?_
  by_cases h : t = true
  · refine ev_pos h ?_
    have hn := h60 h
    obtain ⟨u, hu, _⟩ := light_of s' b' n' m
    refine Ev.bind hu ?_
    cases u with
    | false => exact hj
    | true =>
      refine Ev.step (f := fun k => (sig_Bytes.f k s b n l).bind fun x => (remoraref06_Bytes.f k s b n l).bind fun y => (sig_Check.f s b n l).bind fun t283 => (remoraref06_Check.f k s b n l).bind fun t284 => (if t283 = t284 then (if (strOfNums x.1).toList = (strOfNums y.1).toList then (if x.2 = y.2 then ((sig_Same.f k s b n l s' b' n' m).bind fun t285 => ((remoraref06_Same.f k s b n l s' b' n' m).bind fun t286 => (if (t285 == t286) = true then ((sig_Same.f k s b n l s b n l).bind fun t287 => (if t287 = true then ((remoralaw06_awake.f k).bind fun t288 => (some t288)) else (none))) else (none)))) else (none)) else (none)) else (none))) (fun k => ?_) ?_
      · simp only [remoralaw06_SigMays.j0]
        rw [if_neg (by decide)]
      · refine Ev.bind (bytes_of s b n l) (Ev.bind (rbytes_of s b n l) (Ev.bind (ev_some (check_of s b n l)) (Ev.bind (rcheck_of s b n l) (ev_pos rfl (ev_pos rfl (ev_pos rfl ?_))))))
        have hs := same_of s b n l s b n l (by omega)
        rw [smF_self] at hs
        exact Ev.bind (same_of s b n l s' b' n' m (by omega)) (Ev.bind (rsame_of s b n l s' b' n' m (by omega)) (ev_pos (by simp) (Ev.bind hs (ev_pos rfl (Ev.bind awake6 (Ev.now _))))))
  · exact ev_neg h hj

end Go.Proofs.YtjhgeppjpofjpaaDoor.Pure
