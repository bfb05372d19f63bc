/- The program and the reference agree on the ops that any bytes hold, sealed or not, for at most 2,000 bytes. Conditions: none. -/
import Derived.Test.YtifmajnhcbicnaaDoorPDeltaReadsx6
namespace Go.Proofs.YtifmajnhcbicnaaDoor.Pure
open Go.RowKit Go.Proofs.YtifmajnhcbicnaaDoor.PDeltaReads Go.Proofs.YtifmajnhcbicnaaDoorW.PrintWords Go.Proofs.YtifmajnhcbicnaaDoorW.PrintLast Go.Proofs.YtifmajnhcbicnaaDoorW.PrintMore
set_option maxRecDepth 100000
set_option linter.unusedVariables false
theorem w64 (n : Int) (h0 : -9223372036854775808 ≤ n) (h1 : n ≤ 9223372036854775807) : wrap64 n = n := by unfold wrap64; omega
theorem wq (n : Int) : ∃ q : Int, wrap64 n = n + q * 18446744073709551616 ∧ -9223372036854775808 ≤ wrap64 n ∧ wrap64 n ≤ 9223372036854775807 := by
  refine ⟨-((n + 9223372036854775808) / 18446744073709551616), ?_, ?_, ?_⟩ <;> unfold wrap64 <;> omega
theorem wrap_comm (a b c : Int) : wrap64 (wrap64 (a + c) + b) = wrap64 (wrap64 (a + b) + c) := by
  obtain ⟨q1, e1, _, _⟩ := wq (a + c)
  obtain ⟨q2, e2, l2, u2⟩ := wq (wrap64 (a + c) + b)
  obtain ⟨q3, e3, _, _⟩ := wq (a + b)
  obtain ⟨q4, e4, l4, u4⟩ := wq (wrap64 (a + b) + c)
  generalize wrap64 (wrap64 (a + c) + b) = x2 at *
  generalize wrap64 (wrap64 (a + b) + c) = x4 at *
  generalize wrap64 (a + c) = x1 at *
  generalize wrap64 (a + b) = x3 at *
  omega
theorem wrap_add (a b c : Int) : wrap64 (a + wrap64 (b + c)) = wrap64 (wrap64 (a + b) + c) := by
  obtain ⟨q1, e1, _, _⟩ := wq (b + c)
  obtain ⟨q2, e2, l2, u2⟩ := wq (a + wrap64 (b + c))
  obtain ⟨q3, e3, _, _⟩ := wq (a + b)
  obtain ⟨q4, e4, l4, u4⟩ := wq (wrap64 (a + b) + c)
  generalize wrap64 (a + wrap64 (b + c)) = x2 at *
  generalize wrap64 (wrap64 (a + b) + c) = x4 at *
  generalize wrap64 (b + c) = x1 at *
  generalize wrap64 (a + b) = x3 at *
  omega
theorem rd40 {l : List S38} {i : Nat} (h : i < l.length) : rd_T38 l (i : Int) = l[i] := by
  unfold rd_T38
  rw [Int.toNat_natCast, List.getD_eq_getElem?_getD, List.getElem?_eq_getElem h, Option.getD_some]
theorem step40 {l : List S38} {i : Nat} (h : i < l.length) : l.drop i = rd_T38 l (i : Int) :: l.drop (i + 1) := by
  rw [rd40 h]
  exact List.drop_eq_getElem_cons h
theorem end40 {l : List S38} {i : Nat} (h : i + 0 = l.length) : l.drop i = [] := List.drop_eq_nil_of_le (by omega)
theorem inc {i n : Nat} (h : i < n) (hn : n ≤ 4000000000000) : wrap64 ((i : Int) + 1) = ((i + 1 : Nat) : Int) := by unfold wrap64; omega
/-- How many bytes an op makes. -/
def ln (o : S38) : Int := if (o.f2.length : Int) > 0 then (o.f2.length : Int) else mx o.f1 0
theorem mx0 (x : Int) : 0 ≤ mx x 0 ∧ x ≤ mx x 0 ∧ (mx x 0 = x ∨ mx x 0 = 0) := by unfold mx; split <;> omega
theorem ln_nonneg (o : S38) : 0 ≤ ln o := by
  unfold ln
  split
  · omega
  · exact (mx0 _).1
theorem told_d (o : S38) : delta_told.f o.f0 o.f1 o.f2 = some (decide ((o.f2.length : Int) > 0)) := rfl
theorem len_d (o : S38) : delta_length.f o.f0 o.f1 o.f2 = some (ln o) := by
  unfold delta_length.f delta_told.f ln
  by_cases h : (o.f2.length : Int) > 0
  · rw [Option.bind_some, decide_eq_true h, if_pos rfl, if_pos h]
  · rw [Option.bind_some, decide_eq_false h, if_neg (by decide), if_neg h]
/-- What is wrong with an op over a basis. -/
def oneF (b : Int) (o : S38) : Int := if (o.f2.length : Int) > 0 then (if o.f0 = 0 then (if o.f1 = 0 then 0 else 2) else 2) else if o.f0 < 0 then 2 else if o.f1 < 1 then 2 else if o.f0 > b then 3 else if o.f1 > wrap64 (b - o.f0) then 3 else 0
theorem one_d {k : Nat} (hk : 0 < k) (o : S38) (b : Int) : delta_one.f k o.f0 o.f1 o.f2 b = some (oneF b o) := by
  obtain ⟨k, rfl⟩ : ∃ m, k = m + 1 := ⟨k - 1, by omega⟩
  unfold delta_one.f oneF
  rw [told_d, Option.bind_some]
  by_cases h : (o.f2.length : Int) > 0
  · rw [decide_eq_true h, if_pos rfl, if_pos h]
    (repeat' split) <;> rfl
  · rw [decide_eq_false h, if_neg (by decide), if_neg h]
    by_cases h0 : o.f0 < 0
    · rw [if_pos h0, if_pos h0]
      simp only [delta_one.j0]
      rw [if_pos trivial]
    · rw [if_neg h0, if_neg h0]
      simp only [delta_one.j0]
      by_cases h1 : o.f1 < 1
      · rw [decide_eq_true h1, if_pos rfl, if_pos h1]
      · rw [decide_eq_false h1, if_neg (by decide), if_neg h1]
        (repeat' split) <;> rfl
/-- The first that is wrong with ops over a basis. -/
def chkL (b : Int) : List S38 → Int
  | [] => 0
  | o :: l => if oneF b o = 0 then chkL b l else oneF b o
/-- How many bytes ops make, behind n, as the machine counts. -/
def sizeL : Int → List S38 → Int
  | n, [] => n
  | n, o :: l => sizeL (wrap64 (n + ln o)) l
def endF (len : Int) (n : Int) : Int := if len > 8192 then 7 else if n > 65536 then 7 else 0
def resF (b len n : Int) (l : List S38) : Int := if chkL b l = 0 then endF len n else chkL b l
theorem res_yes {b len n : Int} {o : S38} {l : List S38} (h : oneF b o = 0) : resF b len n (o :: l) = resF b len n l := by
  have e : chkL b (o :: l) = chkL b l := by rw [chkL, if_pos h]
  unfold resF
  rw [e]
theorem res_no {b len n : Int} {o : S38} {l : List S38} (h : ¬ oneF b o = 0) : resF b len n (o :: l) = oneF b o := by
  have e : chkL b (o :: l) = oneF b o := by rw [chkL, if_neg h]
  unfold resF
  rw [e, if_neg h]
theorem end_if (len n : Int) : (if len > 8192 then some 7 else if n > 65536 then some 7 else some 0 : Option Int) = some (endF len n) := by
  unfold endF
  by_cases h : len > 8192
  · rw [if_pos h, if_pos h]
  · rw [if_neg h, if_neg h]
    by_cases h : n > 65536
    · rw [if_pos h, if_pos h]
    · rw [if_neg h, if_neg h]
def chkF (b : Int) (l : List S38) : Int := if b < 0 then 2 else if b > 131072 then 2 else resF b (l.length : Int) (sizeL 0 l) l
theorem check_loop (b : Int) (l : List S38) (hn : l.length ≤ 4000000000000) : ∀ (d k i : Nat) (n : Int), i + d = l.length → d + 1 < k → delta_Check.l0 k l b n l (l.length : Int) (i : Int) = some (resF b (l.length : Int) (sizeL n (l.drop i)) (l.drop i)) := by
  intro d
  induction d with
  | zero =>
    intro k i n hi hk
    obtain ⟨k, rfl⟩ : ∃ m, k = m + 1 := ⟨k - 1, by omega⟩
    simp only [delta_Check.l0]
    rw [if_neg (by omega), end40 hi, end_if]
    rfl
  | succ d ih =>
    intro k i n hi hk
    obtain ⟨k, rfl⟩ : ∃ m, k = m + 1 := ⟨k - 1, by omega⟩
    have hlt : i < l.length := by omega
    simp only [delta_Check.l0]
    rw [if_pos (by omega), if_pos (by omega), if_pos (by omega), one_d (by omega), Option.bind_some, step40 hlt, inc hlt hn, len_d]
    by_cases h : oneF b (rd_T38 l (i : Int)) = 0
    · rw [if_pos h, Option.bind_some, res_yes h]
      exact ih k (i + 1) _ (by omega) (by omega)
    · rw [if_neg h, res_no h]
theorem check_d (b : Int) (l : List S38) (hn : l.length ≤ 4000000000000) {k : Nat} (hk : l.length + 2 < k) : delta_Check.f k l b = some (chkF b l) := by
  obtain ⟨k, rfl⟩ : ∃ m, k = m + 1 := ⟨k - 1, by omega⟩
  unfold delta_Check.f chkF
  by_cases h0 : b < 0
  · rw [if_pos h0, if_pos h0]
    simp only [delta_Check.j0]
    rw [if_pos trivial]
  · rw [if_neg h0, if_neg h0]
    simp only [delta_Check.j0]
    by_cases h1 : b > 131072
    · rw [decide_eq_true h1, if_pos rfl, if_pos h1]
    · rw [decide_eq_false h1, if_neg (by decide), if_neg h1]
      have := check_loop b l hn l.length k 0 0 (by omega) (by omega)
      rw [List.drop_zero] at this
      exact this
/-- Few ops, of few bytes. -/
def sml (l : List S38) : Prop := (∀ o ∈ l, o.f2.length ≤ 400) ∧ l.length ≤ 60
theorem few {l : List S38} (h : l.length * 40 ≤ 140737488351232) : l.length ≤ 4000000000000 := by omega
theorem len_r (o : S38) : remoraref08_Length.f o.f0 o.f1 o.f2 = some (ln o) := by
  unfold remoraref08_Length.f ln
  split <;> rfl
theorem rsize_loop (l : List S38) (hn : l.length ≤ 4000000000000) : ∀ (d k i : Nat) (n : Int), i + d = l.length → d < k → remoraref08_Size.l0 k l n (i : Int) = some (sizeL n (l.drop i)) := by
  intro d
  induction d with
  | zero =>
    intro k i n hi hk
    obtain ⟨k, rfl⟩ : ∃ m, k = m + 1 := ⟨k - 1, by omega⟩
    simp only [remoraref08_Size.l0]
    rw [if_neg (by omega), end40 hi]
    rfl
  | succ d ih =>
    intro k i n hi hk
    obtain ⟨k, rfl⟩ : ∃ m, k = m + 1 := ⟨k - 1, by omega⟩
    have hlt : i < l.length := by omega
    simp only [remoraref08_Size.l0]
    rw [if_pos (by omega), if_pos (by omega), len_r, Option.bind_some, step40 hlt, inc hlt hn]
    exact ih k (i + 1) _ (by omega) (by omega)
theorem size_r (l : List S38) (hn : l.length ≤ 4000000000000) {k : Nat} (hk : l.length < k) : remoraref08_Size.f k l = some (sizeL 0 l) := by
  have := rsize_loop l hn l.length k 0 0 (by omega) (by omega)
  rw [List.drop_zero] at this
  exact this
theorem right_r (b : Int) (o : S38) (K : Option Int) : ((remoraref08_Right.f o.f0 o.f1 o.f2).bind fun t => (if t = true then (if (o.f2.length : Int) = 0 then (if o.f0 > b then (some 3) else (if o.f1 > (wrap64 (b - o.f0)) then (some 3) else K)) else K) else (some 2))) = if oneF b o = 0 then K else some (oneF b o) := by
  unfold remoraref08_Right.f oneF
  by_cases h : (o.f2.length : Int) > 0
  · rw [if_pos h, if_pos h]
    by_cases h0 : o.f0 = 0
    · rw [if_pos h0, if_pos h0, Option.bind_some]
      by_cases h1 : o.f1 = 0
      · rw [if_pos h1, if_pos (by rw [h1]; rfl), if_neg (by omega), if_pos rfl]
      · rw [if_neg h1, if_neg (by simpa using h1), if_neg (by decide)]
    · rw [if_neg h0, if_neg h0, Option.bind_some, if_neg (by decide), if_neg (by decide)]
  · rw [if_neg h, if_neg h]
    by_cases h0 : o.f0 < 0
    · rw [if_pos h0, if_neg (by omega), Option.bind_some, if_neg (by decide), if_neg (by decide)]
    · rw [if_neg h0, if_pos (by omega), Option.bind_some]
      by_cases h1 : o.f1 < 1
      · rw [if_pos h1, decide_eq_false (by omega), if_neg (by decide), if_neg (by decide)]
      · rw [if_neg h1, decide_eq_true (by omega), if_pos rfl, if_pos (by omega)]
        by_cases h2 : o.f0 > b
        · rw [if_pos h2, if_pos h2, if_neg (by decide)]
        · rw [if_neg h2, if_neg h2]
          by_cases h3 : o.f1 > wrap64 (b - o.f0)
          · rw [if_pos h3, if_pos h3, if_neg (by decide)]
          · rw [if_neg h3, if_neg h3, if_pos rfl]
theorem rcheck_loop (b : Int) (l : List S38) (hn : l.length ≤ 4000000000000) : ∀ (d k i : Nat), i + d = l.length → d + l.length + 1 < k → remoraref08_Check.l0 k l b (i : Int) = some (resF b (l.length : Int) (sizeL 0 l) (l.drop i)) := by
  intro d
  induction d with
  | zero =>
    intro k i hi hk
    obtain ⟨k, rfl⟩ : ∃ m, k = m + 1 := ⟨k - 1, by omega⟩
    simp only [remoraref08_Check.l0]
    rw [if_neg (by omega), end40 hi, size_r l hn (by omega), Option.bind_some, end_if]
    rfl
  | succ d ih =>
    intro k i hi hk
    obtain ⟨k, rfl⟩ : ∃ m, k = m + 1 := ⟨k - 1, by omega⟩
    have hlt : i < l.length := by omega
    simp only [remoraref08_Check.l0]
    rw [if_pos (by omega), if_pos (by omega), right_r, step40 hlt, inc hlt hn]
    by_cases h : oneF b (rd_T38 l (i : Int)) = 0
    · rw [if_pos h, res_yes h]
      exact ih k (i + 1) (by omega) (by omega)
    · rw [if_neg h, res_no h]
theorem check_r (b : Int) (l : List S38) (hn : l.length ≤ 4000000000000) {k : Nat} (hk : 2 * l.length + 2 < k) : remoraref08_Check.f k l b = some (chkF b l) := by
  obtain ⟨k, rfl⟩ : ∃ m, k = m + 1 := ⟨k - 1, by omega⟩
  unfold remoraref08_Check.f chkF
  by_cases h0 : b < 0
  · rw [if_pos h0, if_pos h0]
    simp only [remoraref08_Check.j0]
    rw [if_pos trivial]
  · rw [if_neg h0, if_neg h0]
    simp only [remoraref08_Check.j0]
    by_cases h1 : b > 131072
    · rw [decide_eq_true h1, if_pos rfl, if_pos h1]
    · rw [decide_eq_false h1, if_neg (by decide), if_neg h1]
      have := rcheck_loop b l hn l.length k 0 (by omega) (by omega)
      rw [List.drop_zero] at this
      exact this
theorem same_loop (l : List S38) (hn : l.length ≤ 4000000000000) : ∀ (d k i : Nat), i + d = l.length → d < k → remoraref08_Same.l0 k l l (i : Int) = some true := by
  intro d
  induction d with
  | zero =>
    intro k i hi hk
    obtain ⟨k, rfl⟩ : ∃ m, k = m + 1 := ⟨k - 1, by omega⟩
    simp only [remoraref08_Same.l0]
    rw [if_neg (by omega)]
  | succ d ih =>
    intro k i hi hk
    obtain ⟨k, rfl⟩ : ∃ m, k = m + 1 := ⟨k - 1, by omega⟩
    have hlt : i < l.length := by omega
    simp only [remoraref08_Same.l0]
    rw [if_pos (by omega), if_pos (by omega), if_pos (by omega), if_pos trivial, if_pos trivial, if_pos trivial, inc hlt hn]
    exact ih k (i + 1) (by omega) (by omega)
theorem same_of (l : List S38) (hn : l.length ≤ 4000000000000) {k : Nat} (hk : l.length < k) : remoraref08_Same.f k l l = some true := by
  unfold remoraref08_Same.f
  rw [if_pos rfl]
  exact same_loop l hn l.length k 0 (by omega) (by omega)
/-- The bytes of a number: seven bits each, the lowest first. -/
def nb (n : Nat) : List Int := if n < 128 then [(n : Int)] else ((128 + n % 128 : Nat) : Int) :: nb (n / 128)
termination_by n
decreasing_by omega
theorem nb_small {n : Nat} (h : n < 128) : nb n = [(n : Int)] := by rw [nb, if_pos h]
theorem nb_more {n : Nat} (h : ¬ n < 128) : nb n = ((128 + n % 128 : Nat) : Int) :: nb (n / 128) := by rw [nb, if_neg h]
theorem nb_pos (n : Nat) : 1 ≤ (nb n).length := by
  by_cases h : n < 128
  · rw [nb_small h]; exact Nat.le_refl _
  · rw [nb_more h]; simp
theorem nb_len (m : Nat) : ∀ n : Nat, n < 128 ^ m → 0 < m → (nb n).length ≤ m := by
  induction m with
  | zero => intro n h h0; omega
  | succ m ih =>
    intro n h _
    by_cases hs : n < 128
    · rw [nb_small hs]; simp
    · rw [nb_more hs, List.length_cons]
      have hm : 0 < m := by
        rcases Nat.eq_zero_or_pos m with rfl | hm
        · simp at h; omega
        · exact hm
      have := ih (n / 128) (by rw [Nat.div_lt_iff_lt_mul (by decide), ← Nat.pow_succ]; exact h) hm
      omega
theorem nb_nine {n : Nat} (h : n ≤ 4611686018427387903) : (nb n).length ≤ 9 := nb_len 9 n (by omega) (by decide)
theorem nb_bytes (n : Nat) : ∀ x ∈ nb n, 0 ≤ x ∧ x ≤ 255 := by
  induction n using Nat.strongRecOn with
  | _ n ih =>
    by_cases h : n < 128
    · rw [nb_small h]; intro x hx; obtain rfl := List.mem_singleton.1 hx; omega
    · rw [nb_more h]
      intro x hx
      rcases List.mem_cons.1 hx with rfl | hx
      · omega
      · exact ih (n / 128) (by omega) x hx
/-- A number within what may be put. -/
def cl (a : Int) : Nat := (mn (mx a 0) 4611686018427387903).toNat
theorem cl_le (a : Int) : cl a ≤ 4611686018427387903 := by unfold cl mn mx; split <;> split <;> omega
theorem cl_eq (a : Int) : mn (mx a 0) 4611686018427387903 = (cl a : Int) := by unfold cl mn mx; split <;> split <;> omega
theorem cl_of {a : Int} (h0 : 0 ≤ a) (h : a ≤ 4611686018427387903) : (cl a : Int) = a := by unfold cl mn mx; split <;> split <;> omega
theorem ev_pos {α : Type} {c : Prop} [Decidable c] (h : c) {f g : Nat → Option α} {r : α} (k : Ev f r) : Ev (fun k => if c then f k else g k) r := Ev.congr (fun _ => if_pos h) k
theorem ev_neg {α : Type} {c : Prop} [Decidable c] (h : ¬ c) {f g : Nat → Option α} {r : α} (k : Ev g r) : Ev (fun k => if c then f k else g k) r := Ev.congr (fun _ => if_neg h) k
theorem ev_some {α : Type} {o : Option α} {r : α} (h : o = some r) : Ev (fun _ => o) r := by subst h; exact Ev.now _
theorem nw64 (n : Int) (h0 : -9223372036854775808 ≤ n) (h1 : n ≤ 9223372036854775807) : wrap64 n = n := by unfold wrap64; omega
/-- How many bytes ahead go on, at most d. -/
def rl : Nat → List Int → Nat
  | 0, _ => 0
  | _ + 1, [] => 0
  | d + 1, c :: r => if c > 127 then rl d r + 1 else 0
/-- The number of groups of seven bits. -/
def gv : List Int → Nat
  | [] => 0
  | c :: r => (c % 128).toNat + 128 * gv r
theorem gv_lt (l : List Int) : gv l < 128 ^ l.length := by
  induction l with
  | nil => decide
  | cons c r ih =>
    show (c % 128).toNat + 128 * gv r < 128 ^ (r.length + 1)
    rw [Nat.pow_succ]
    omega
theorem gv_snoc (l : List Int) (c : Int) : gv (l ++ [c]) = gv l + 128 ^ l.length * (c % 128).toNat := by
  induction l with
  | nil => simp [gv]
  | cons d r ih =>
    show (d % 128).toNat + 128 * gv (r ++ [c]) = (d % 128).toNat + 128 * gv r + 128 ^ (r.length + 1) * (c % 128).toNat
    rw [ih, Nat.pow_succ, Nat.mul_add, ← Nat.add_assoc, ← Nat.mul_assoc, Nat.mul_comm 128 (128 ^ r.length)]
theorem gv_app (a b : List Int) : gv (a ++ b) = gv a + 128 ^ a.length * gv b := by
  induction a with
  | nil => simp [gv]
  | cons d r ih =>
    show (d % 128).toNat + 128 * gv (r ++ b) = (d % 128).toNat + 128 * gv r + 128 ^ (r.length + 1) * gv b
    rw [ih, Nat.pow_succ, Nat.mul_add, ← Nat.add_assoc, ← Nat.mul_assoc, Nat.mul_comm 128 (128 ^ r.length)]
theorem rl_le (d : Nat) : ∀ r : List Int, rl d r ≤ d ∧ rl d r ≤ r.length := by
  induction d with
  | zero => intro r; exact ⟨Nat.le_refl _, Nat.zero_le _⟩
  | succ d ih =>
    intro r
    cases r with
    | nil => exact ⟨Nat.zero_le _, Nat.le_refl _⟩
    | cons c r =>
      have := ih r
      unfold rl
      split
      · rw [List.length_cons]; omega
      · exact ⟨Nat.zero_le _, Nat.zero_le _⟩
theorem rl_more (d : Nat) : ∀ (r : List Int) (j : Nat), j < rl d r → r.getD j 0 > 127 := by
  induction d with
  | zero => intro r j h; exact absurd h (Nat.not_lt_zero _)
  | succ d ih =>
    intro r j h
    cases r with
    | nil => exact absurd h (Nat.not_lt_zero _)
    | cons c r =>
      unfold rl at h
      by_cases hc : c > 127
      · rw [if_pos hc] at h
        cases j with
        | zero => exact hc
        | succ j => exact ih r j (by omega)
      · rw [if_neg hc] at h
        exact absurd h (Nat.not_lt_zero _)
theorem rl_end (d : Nat) : ∀ (r : List Int), rl d r < d → rl d r < r.length → r.getD (rl d r) 0 ≤ 127 := by
  induction d with
  | zero => intro r h; exact absurd h (Nat.not_lt_zero _)
  | succ d ih =>
    intro r h h2
    cases r with
    | nil => exact absurd h2 (Nat.not_lt_zero _)
    | cons c r =>
      unfold rl at h h2 ⊢
      by_cases hc : c > 127
      · rw [if_pos hc] at h h2 ⊢
        rw [List.length_cons] at h2
        exact ih r (by omega) (by omega)
      · rw [if_neg hc]
        show c ≤ 127
        omega
/-- The number at a place, and the place behind; or what is wrong. -/
def getF (l : List Int) (a : Int) : Int × Int × Int :=
  if a < 0 ∨ a > (l.length : Int) then (0, 0, 3) else
  let r := l.drop a.toNat
  if rl 9 r = 9 then (0, 0, 5) else if rl 9 r = r.length then (0, 0, 4) else if r.getD (rl 9 r) 0 = 0 ∧ 0 < rl 9 r then (0, 0, 5) else
  if gv (r.take (rl 9 r + 1)) > 4611686018427387903 then (0, 0, 7) else (((gv (r.take (rl 9 r + 1)) : Nat) : Int), a + ((rl 9 r : Nat) : Int) + 1, 0)
theorem rd_drop (l : List Int) (a i : Nat) : rd l ((a : Int) + (i : Int)) = (l.drop a).getD i 0 := by
  unfold rd
  rw [show ((a : Int) + (i : Int)).toNat = a + i by omega, List.getD_eq_getElem?_getD, List.getD_eq_getElem?_getD, List.getElem?_drop]
theorem take_one (r : List Int) (i : Nat) (h : i < r.length) : r.take (i + 1) = r.take i ++ [r.getD i 0] := by
  rw [List.take_succ_eq_append_getElem h, List.getD_eq_getElem?_getD, List.getElem?_eq_getElem h]
  rfl
theorem wrap63 (n : Int) (h0 : 0 ≤ n) (h1 : n < 2 ^ 63) : IntKind.i64.wrap n = n := by rw [IntKind.wrap_i64]; omega
theorem and127 {c : Int} (h0 : 0 ≤ c) (h1 : c ≤ 255) : wrap64 (Go.bits .and .u8 c 127) = ((c % 128).toNat : Int) := by
  have := bits_mask .u8 8 (by decide) wraps_u8 7 (by decide) c h0 (by omega)
  rw [show (127 : Int) = 2 ^ 7 - 1 by decide, this]
  unfold wrap64
  omega
/-- One more group. -/
theorem group_in {acc i : Nat} {c : Int} (hi : i ≤ 8) (ha : acc < 128 ^ i) (h0 : 0 ≤ c) (h1 : c ≤ 255) :
    Go.bits .or .i64 (acc : Int) (shl .i64 (wrap64 (Go.bits .and .u8 c 127)) (wrap64 (7 * (i : Int)))) = ((acc + 128 ^ i * (c % 128).toNat : Nat) : Int) := by
  rw [and127 h0 h1]
  generalize hd : (c % 128).toNat = d
  have hd1 : d < 128 := by omega
  have hw : wrap64 (7 * (i : Int)) = ((7 * i : Nat) : Int) := by unfold wrap64; omega
  rw [hw]
  have hp : (128 : Nat) ^ i = 2 ^ (7 * i) := by rw [show (128 : Nat) = 2 ^ 7 by decide, ← Nat.pow_mul]
  have hp8 : (2 : Nat) ^ (7 * i) ≤ 2 ^ 56 := Nat.pow_le_pow_right (by decide) (by omega)
  have hs : shl .i64 (d : Int) ((7 * i : Nat) : Int) = ((2 ^ (7 * i) * d : Nat) : Int) := by
    unfold shl
    rw [Int.toNat_natCast, Nat.min_eq_left (show 7 * i ≤ IntKind.i64.bits by show 7 * i ≤ 64; omega)]
    have e : (d : Int) * 2 ^ (7 * i) = ((2 ^ (7 * i) * d : Nat) : Int) := by push_cast; rw [Int.mul_comm]
    rw [e]
    have hlt : 2 ^ (7 * i) * d < 2 ^ 63 := by
      have : 2 ^ (7 * i) * d ≤ 2 ^ 56 * 127 := Nat.mul_le_mul hp8 (by omega)
      omega
    exact wrap63 _ (by omega) (by exact_mod_cast hlt)
  have hlt : 2 ^ (7 * i) * d < 2 ^ 63 := by
    have : 2 ^ (7 * i) * d ≤ 2 ^ 56 * 127 := Nat.mul_le_mul hp8 (by omega)
    omega
  rw [hs, (bits_nat .i64 63 (by decide) wrap63 acc (2 ^ (7 * i) * d) (by omega) hlt).2, hp]
  congr 1
  rw [Nat.or_comm, ← Nat.two_pow_add_eq_or_of_lt (by omega) d]
  omega
theorem get_loop (l : List Int) (hb : ∀ x ∈ l, 0 ≤ x ∧ x ≤ 255) (hn : l.length ≤ 1000000000) (a : Nat) (ha : a ≤ l.length) (d : Nat) : ∀ i : Nat, i + d = rl 9 (l.drop a) →
    Ev (fun k => num_Get.l0 k l (a : Int) ((gv ((l.drop a).take i) : Nat) : Int) (i : Int)) (getF l (a : Int)) := by
  have hF : getF l (a : Int) = (let r := l.drop a
    if rl 9 r = 9 then ((0 : Int), (0 : Int), (5 : Int)) else if rl 9 r = r.length then (0, 0, 4) else if r.getD (rl 9 r) 0 = 0 ∧ 0 < rl 9 r then (0, 0, 5) else
    if gv (r.take (rl 9 r + 1)) > 4611686018427387903 then (0, 0, 7) else (((gv (r.take (rl 9 r + 1)) : Nat) : Int), (a : Int) + ((rl 9 r : Nat) : Int) + 1, 0)) := by
    unfold getF
    rw [if_neg (by omega), Int.toNat_natCast]
  have hm := rl_le 9 (l.drop a)
  have hlen : (l.drop a).length = l.length - a := List.length_drop
  have hbr : ∀ i, i < (l.drop a).length → 0 ≤ (l.drop a).getD i 0 ∧ (l.drop a).getD i 0 ≤ 255 := fun i hi => by
    rw [List.getD_eq_getElem?_getD, List.getElem?_eq_getElem hi]
    exact hb _ (List.drop_subset _ _ (List.getElem_mem hi))
  induction d with
  | zero =>
    intro i hi
    have hi' : i = rl 9 (l.drop a) := by omega
    have hie : ∀ h1 : rl 9 (l.drop a) < 9, ∀ h2 : rl 9 (l.drop a) < (l.drop a).length, (l.drop a).getD i 0 ≤ 127 := fun h1 h2 => by rw [hi']; exact rl_end 9 _ h1 h2
    rw [hF]
    simp only
    rw [← hi'] at hm hie ⊢
    clear hi' hF
    have HW := Aside0.mk (nw64 ((a : Int) + (i : Int)) (by omega) (by omega))
    by_cases h9 : i = 9
    · rw [if_pos h9]
      refine Ev.step (f := fun _ => some (0, 0, 5)) (fun k => ?_) (Ev.now _)
      simp only [num_Get.l0]
      rw [if_neg (by omega)]
    · rw [if_neg h9]
      by_cases he : i = (l.drop a).length
      · rw [if_pos he]
        refine Ev.step (f := fun _ => some (0, 0, 4)) (fun k => ?_) (Ev.now _)
        simp only [num_Get.l0]
        rw [if_pos (by omega), HW.out, if_pos (by omega)]
      · rw [if_neg he]
        have hlt : i < (l.drop a).length := by omega
        have hc := hbr i hlt
        have hc2 := hie (by omega) hlt
        have hgv := gv_lt ((l.drop a).take i)
        rw [List.length_take, Nat.min_eq_left (by omega)] at hgv
        have hg := group_in (by omega) hgv hc.1 hc.2
        have hsn : gv ((l.drop a).take i) + 128 ^ i * ((l.drop a).getD i 0 % 128).toNat = gv ((l.drop a).take (i + 1)) := by
          rw [take_one _ _ hlt, gv_snoc, List.length_take, Nat.min_eq_left (by omega)]
        rw [hsn] at hg
        have HG := Aside0.mk hg
        have H7 := Aside0.mk (nw64 (7 * (i : Int)) (by omega) (by omega))
        have HW2 := Aside0.mk (show wrap64 (wrap64 ((a : Int) + (i : Int)) + 1) = (a : Int) + (i : Int) + 1 by rw [HW.out]; exact nw64 _ (by omega) (by omega))
        have HSN := Aside0.mk hsn
        clear hg hsn hgv
        have step : ∀ (z : Bool) (res : Int × Int × Int), (z = true ↔ ((l.drop a).getD i 0 = 0 ∧ 0 < i)) → res = (if (l.drop a).getD i 0 = 0 ∧ 0 < i then (0, 0, 5) else if gv ((l.drop a).take (i + 1)) > 4611686018427387903 then (0, 0, 7) else (((gv ((l.drop a).take (i + 1)) : Nat) : Int), (a : Int) + (i : Int) + 1, 0)) →
            Ev (fun k => num_Get.j2 k (a : Int) ((gv ((l.drop a).take (i + 1)) : Nat) : Int) (i : Int) z) res := fun z res hz hres => by
          refine Ev.step (f := fun _ => some res) (fun k => ?_) (Ev.now _)
          simp only [num_Get.j2]
          rw [HW2.out, hres]
          by_cases hz1 : z = true
          · rw [if_pos hz1, if_pos (hz.1 hz1)]
          · rw [if_neg hz1, if_neg (fun h => hz1 (hz.2 h))]
            by_cases hb : gv ((l.drop a).take (i + 1)) > 4611686018427387903
            · rw [if_pos (by omega), if_pos hb]
            · rw [if_neg (by omega), if_neg hb]
        by_cases hz : (l.drop a).getD i 0 = 0
        · refine Ev.step (f := fun k => num_Get.j2 k (a : Int) ((gv ((l.drop a).take (i + 1)) : Nat) : Int) (i : Int) (decide ((i : Int) > 0))) (fun k => ?_) (step _ _ ⟨fun h => ⟨hz, by have := of_decide_eq_true h; omega⟩, fun h => decide_eq_true (by omega)⟩ rfl)
          simp only [num_Get.l0]
          rw [HW.out, H7.out, rd_drop, if_pos (by omega), if_neg (by omega), if_pos (by omega), if_pos (by omega), if_pos (by omega), if_neg (by omega), if_pos hz]
          have := HG.out
          rw [H7.out] at this
          rw [this]
        · refine Ev.step (f := fun k => num_Get.j2 k (a : Int) ((gv ((l.drop a).take (i + 1)) : Nat) : Int) (i : Int) false) (fun k => ?_) (step _ _ ⟨(fun h => (by cases h)), fun h => absurd h.1 hz⟩ rfl)
          simp only [num_Get.l0]
          rw [HW.out, H7.out, rd_drop, if_pos (by omega), if_neg (by omega), if_pos (by omega), if_pos (by omega), if_pos (by omega), if_neg (by omega), if_neg hz]
          have := HG.out
          rw [H7.out] at this
          rw [this]
  | succ d ih =>
    intro i hi
    have hlt : i < (l.drop a).length := by omega
    have hmore := rl_more 9 (l.drop a) i (by omega)
    have hc := hbr i hlt
    have hgv := gv_lt ((l.drop a).take i)
    rw [List.length_take, Nat.min_eq_left (by omega)] at hgv
    have hg := group_in (by omega) hgv hc.1 hc.2
    have hsn : gv ((l.drop a).take i) + 128 ^ i * ((l.drop a).getD i 0 % 128).toNat = gv ((l.drop a).take (i + 1)) := by
      rw [take_one _ _ hlt, gv_snoc, List.length_take, Nat.min_eq_left (by omega)]
    rw [hsn] at hg
    have HG := Aside0.mk hg
    have H7 := Aside0.mk (show wrap64 (7 * (i : Int)) = 7 * (i : Int) by unfold wrap64; omega)
    have HW := Aside0.mk (show wrap64 ((a : Int) + (i : Int)) = (a : Int) + (i : Int) by unfold wrap64; omega)
    have HI := Aside0.mk (show wrap64 ((i : Int) + 1) = ((i + 1 : Nat) : Int) by unfold wrap64; omega)
    clear hg hsn
    refine Ev.step (f := fun k => num_Get.l0 k l (a : Int) ((gv ((l.drop a).take (i + 1)) : Nat) : Int) ((i + 1 : Nat) : Int)) (fun k => ?_) (ih (i + 1) (by omega))
    simp only [num_Get.l0]
    rw [HW.out, H7.out, HI.out, rd_drop, if_pos (by omega), if_neg (by omega), if_pos (by omega), if_pos (by omega), if_pos (by omega), if_pos hmore]
    have := HG.out
    rw [H7.out] at this
    rw [this]
theorem get_of (l : List Int) (hb : ∀ x ∈ l, 0 ≤ x ∧ x ≤ 255) (hn : l.length ≤ 1000000000) (a : Int) : Ev (fun k => num_Get.f k l a) (getF l a) := by
  unfold num_Get.f
  by_cases h0 : a < 0
  · refine ev_pos h0 (Ev.step (f := fun _ => some (0, 0, 3)) (fun k => ?_) ?_)
    · simp only [num_Get.j0]; rw [if_pos trivial]
    · unfold getF; rw [if_pos (.inl h0)]; exact Ev.now _
  · refine ev_neg h0 ?_
    by_cases h1 : a > (l.length : Int)
    · rw [decide_eq_true h1]
      refine Ev.step (f := fun _ => some (0, 0, 3)) (fun k => ?_) ?_
      · simp only [num_Get.j0]; rw [if_pos trivial]
      · unfold getF; rw [if_pos (.inr h1)]; exact Ev.now _
    · rw [decide_eq_false h1]
      obtain ⟨n, rfl⟩ : ∃ n : Nat, a = (n : Int) := ⟨a.toNat, by omega⟩
      refine Ev.step (f := fun k => num_Get.l0 k l (n : Int) ((gv ((l.drop n).take 0) : Nat) : Int) ((0 : Nat) : Int)) (fun k => ?_) (get_loop l hb hn n (by omega) (rl 9 (l.drop n)) 0 (by omega))
      simp only [num_Get.j0]
      rw [if_neg (by simp)]
      rfl
theorem gv_split (D : List Int) (t : Nat) (h : t ≤ D.length) : gv D = gv (D.take t) + 128 ^ t * gv (D.drop t) := by
  conv => lhs; rw [← List.take_append_drop t D]
  rw [gv_app, List.length_take, Nat.min_eq_left h]
theorem rget_back (l : List Int) (hb : ∀ x ∈ l, 0 ≤ x ∧ x ≤ 255) (hn : l.length ≤ 1000000000) (a m : Nat) (hm : a + m < l.length) (e : Int) (he : e = (a : Int) + (m : Int)) (t : Nat) : t ≤ m + 1 →
    Ev (fun k => remoraref01_Get.l1 k l (a : Int) e ((gv (((l.drop a).take (m + 1)).drop t) : Nat) : Int) ((a : Int) + (t : Int) - 1)) (if gv ((l.drop a).take (m + 1)) > 4611686018427387903 then (0, 0, 7) else (((gv ((l.drop a).take (m + 1)) : Nat) : Int), (a : Int) + (m : Int) + 1, 0)) := by
  have hlen : ((l.drop a).take (m + 1)).length = m + 1 := by rw [List.length_take, List.length_drop]; omega
  have HE := Aside0.mk (show wrap64 (e + 1) = (a : Int) + (m : Int) + 1 by rw [he]; exact nw64 _ (by omega) (by omega))
  clear he
  induction t with
  | zero =>
    intro ht
    rw [List.drop_zero]
    generalize gv ((l.drop a).take (m + 1)) = v
    refine Ev.step (f := fun _ => some (if v > 4611686018427387903 then (0, 0, 7) else ((v : Int), (a : Int) + (m : Int) + 1, 0))) (fun k => ?_) (Ev.now _)
    simp only [remoraref01_Get.l1]
    rw [if_neg (by omega), HE.out]
    by_cases h : v > 4611686018427387903
    · rw [if_pos (by omega), if_pos h]
    · rw [if_neg (by omega), if_neg h]
  | succ t ih =>
    intro ht
    have ih := ih (by omega)
    have hsp := gv_split ((l.drop a).take (m + 1)) (t + 1) (by omega)
    have hstep : gv (((l.drop a).take (m + 1)).drop t) = (((l.drop a).getD t 0) % 128).toNat + 128 * gv (((l.drop a).take (m + 1)).drop (t + 1)) := by
      rw [List.drop_eq_getElem_cons (show t < ((l.drop a).take (m + 1)).length by omega)]
      show ((_ : Int) % 128).toNat + 128 * _ = _
      rw [List.getElem_take, List.getD_eq_getElem?_getD, List.getElem?_eq_getElem (by rw [List.length_drop]; omega)]
      rfl
    generalize hD : (l.drop a).take (m + 1) = D at *
    generalize hv : gv (D.drop (t + 1)) = v at hsp hstep ⊢
    by_cases hbig : v > 36028797018963967
    · have hgv : gv D > 4611686018427387903 := by
        have h1 : (128 : Nat) ^ (t + 1) ≥ 128 := by
          rw [Nat.pow_succ]
          have := Nat.one_le_two_pow (n := 0)
          exact Nat.le_mul_of_pos_left _ (Nat.pow_pos (by decide))
        have h2 : 128 * v ≤ 128 ^ (t + 1) * v := Nat.mul_le_mul_right _ h1
        omega
      rw [if_pos hgv]
      refine Ev.step (f := fun _ => some (0, 0, 7)) (fun k => ?_) (Ev.now _)
      simp only [remoraref01_Get.l1]
      rw [if_pos (by omega), if_pos (by omega)]
    · have hx := hb ((l.drop a).getD t 0) (by
        rw [List.getD_eq_getElem?_getD, List.getElem?_eq_getElem (by rw [List.length_drop]; omega)]
        exact List.drop_subset _ _ (List.getElem_mem _))
      have hrd : rd l ((a : Int) + ((t + 1 : Nat) : Int) - 1) = (l.drop a).getD t 0 := by
        rw [show (a : Int) + ((t + 1 : Nat) : Int) - 1 = (a : Int) + (t : Int) by omega]
        exact rd_drop l a t
      generalize (l.drop a).getD t 0 = c at hx hrd hstep
      have hacc : wrap64 (wrap64 (128 * (v : Int)) + wrap64 (Int.tmod c 128)) = ((gv (D.drop t) : Nat) : Int) := by
        rw [Int.tmod_eq_emod_of_nonneg (by omega), nw64 (128 * (v : Int)) (by omega) (by omega), nw64 (c % 128) (by omega) (by omega), nw64 _ (by omega) (by omega), hstep]
        omega
      have hi : wrap64 ((a : Int) + ((t + 1 : Nat) : Int) - 1 - 1) = (a : Int) + (t : Int) - 1 := by
        rw [nw64 _ (by omega) (by omega)]
        omega
      have HA := Aside0.mk hacc
      have HI := Aside0.mk hi
      clear hacc hi hstep hsp
      refine Ev.step (f := fun k => remoraref01_Get.l1 k l (a : Int) e ((gv (D.drop t) : Nat) : Int) ((a : Int) + (t : Int) - 1)) (fun k => ?_) ih
      simp only [remoraref01_Get.l1]
      rw [if_pos (by omega), if_neg (by omega), if_pos (by omega), if_pos (by omega), hrd, HA.out, HI.out]
theorem rget_end (l : List Int) (hb : ∀ x ∈ l, 0 ≤ x ∧ x ≤ 255) (hn : l.length ≤ 1000000000) (a : Nat) (ha : a ≤ l.length) :
    Ev (fun k => remoraref01_Get.j2 k l (a : Int) ((a : Int) + ((rl 9 (l.drop a) : Nat) : Int))) (getF l (a : Int)) := by
  have hm := rl_le 9 (l.drop a)
  have hlen : (l.drop a).length = l.length - a := List.length_drop
  unfold getF
  rw [if_neg (by omega), Int.toNat_natCast]
  simp only
  generalize hmm : rl 9 (l.drop a) = m at hm ⊢
  have HW := Aside0.mk (show wrap64 ((a : Int) + (m : Int) - (a : Int)) = (m : Int) by rw [nw64 _ (by omega) (by omega)]; omega)
  by_cases h9 : m = 9
  · rw [if_pos h9]
    refine Ev.step (f := fun _ => some (0, 0, 5)) (fun k => ?_) (Ev.now _)
    simp only [remoraref01_Get.j2]
    rw [HW.out, if_pos (by omega)]
  · rw [if_neg h9]
    by_cases he : m = (l.drop a).length
    · rw [if_pos he]
      refine Ev.step (f := fun _ => some (0, 0, 4)) (fun k => ?_) (Ev.now _)
      simp only [remoraref01_Get.j2]
      rw [HW.out, if_neg (by omega), if_pos (by omega)]
    · rw [if_neg he]
      have back : Ev (fun k => remoraref01_Get.l1 k l (a : Int) ((a : Int) + (m : Int)) 0 ((a : Int) + (m : Int))) (if gv ((l.drop a).take (m + 1)) > 4611686018427387903 then (0, 0, 7) else (((gv ((l.drop a).take (m + 1)) : Nat) : Int), (a : Int) + (m : Int) + 1, 0)) := by
        have := rget_back l hb hn a m (by omega) _ rfl (m + 1) (Nat.le_refl _)
        rw [List.drop_eq_nil_of_le (by rw [List.length_take]; omega), show (a : Int) + ((m + 1 : Nat) : Int) - 1 = (a : Int) + (m : Int) by omega] at this
        exact this
      by_cases hz : (l.drop a).getD m 0 = 0
      · refine Ev.step (f := fun k => remoraref01_Get.j3 k l (a : Int) ((a : Int) + (m : Int)) (decide ((a : Int) + (m : Int) > (a : Int)))) (fun k => ?_) ?_
        · simp only [remoraref01_Get.j2]
          rw [HW.out, if_neg (by omega), if_neg (by omega), if_pos (by omega), if_pos (by omega), rd_drop, if_pos hz]
        · by_cases h0 : 0 < m
          · rw [if_pos ⟨hz, h0⟩, decide_eq_true (by omega)]
            refine Ev.step (f := fun _ => some (0, 0, 5)) (fun k => ?_) (Ev.now _)
            simp only [remoraref01_Get.j3]
            rw [if_pos trivial]
          · rw [if_neg (fun h => h0 h.2), decide_eq_false (by omega)]
            refine Ev.step (f := fun k => remoraref01_Get.l1 k l (a : Int) ((a : Int) + (m : Int)) 0 ((a : Int) + (m : Int))) (fun k => ?_) back
            simp only [remoraref01_Get.j3]
            rw [if_neg (by simp)]
      · refine Ev.step (f := fun k => remoraref01_Get.j3 k l (a : Int) ((a : Int) + (m : Int)) false) (fun k => ?_) ?_
        · simp only [remoraref01_Get.j2]
          rw [HW.out, if_neg (by omega), if_neg (by omega), if_pos (by omega), if_pos (by omega), rd_drop, if_neg hz]
        · rw [if_neg (fun h => hz h.1)]
          refine Ev.step (f := fun k => remoraref01_Get.l1 k l (a : Int) ((a : Int) + (m : Int)) 0 ((a : Int) + (m : Int))) (fun k => ?_) back
          simp only [remoraref01_Get.j3]
          rw [if_neg (by simp)]
theorem rget_scan (l : List Int) (hb : ∀ x ∈ l, 0 ≤ x ∧ x ≤ 255) (hn : l.length ≤ 1000000000) (a : Nat) (ha : a ≤ l.length) (d : Nat) : ∀ i : Nat, i + d = rl 9 (l.drop a) →
    Ev (fun k => remoraref01_Get.l0 k l (a : Int) ((a : Int) + (i : Int))) (getF l (a : Int)) := by
  have hm := rl_le 9 (l.drop a)
  have hlen : (l.drop a).length = l.length - a := List.length_drop
  induction d with
  | zero =>
    intro i hi
    have hend := rget_end l hb hn a ha
    rw [← show i = rl 9 (l.drop a) by omega] at hend
    have HW := Aside0.mk (show wrap64 ((a : Int) + (i : Int) - (a : Int)) = (i : Int) by rw [nw64 _ (by omega) (by omega)]; omega)
    refine Ev.step (f := fun k => remoraref01_Get.j2 k l (a : Int) ((a : Int) + (i : Int))) (fun k => ?_) hend
    simp only [remoraref01_Get.l0]
    by_cases h1 : (a : Int) + (i : Int) < (l.length : Int)
    · rw [if_pos h1, HW.out]
      by_cases h2 : (i : Int) < 9
      · have h3 := rl_end 9 (l.drop a) (by omega) (by omega)
        rw [← show i = rl 9 (l.drop a) by omega] at h3
        rw [if_pos h2, if_pos (by omega), rd_drop, if_neg (by omega)]
      · rw [if_neg h2]
    · rw [if_neg h1]
  | succ d ih =>
    intro i hi
    have hmore := rl_more 9 (l.drop a) i (by omega)
    have HW := Aside0.mk (show wrap64 ((a : Int) + (i : Int) - (a : Int)) = (i : Int) by rw [nw64 _ (by omega) (by omega)]; omega)
    have HI := Aside0.mk (show wrap64 ((a : Int) + (i : Int) + 1) = (a : Int) + ((i + 1 : Nat) : Int) by rw [nw64 _ (by omega) (by omega)]; omega)
    refine Ev.step (f := fun k => remoraref01_Get.l0 k l (a : Int) ((a : Int) + ((i + 1 : Nat) : Int))) (fun k => ?_) (ih (i + 1) (by omega))
    simp only [remoraref01_Get.l0]
    rw [if_pos (by omega), HW.out, if_pos (by omega), if_pos (by omega), rd_drop, if_pos hmore, HI.out]
theorem rget_of (l : List Int) (hb : ∀ x ∈ l, 0 ≤ x ∧ x ≤ 255) (hn : l.length ≤ 1000000000) (a : Int) : Ev (fun k => remoraref01_Get.f k l a) (getF l a) := by
  unfold remoraref01_Get.f
  by_cases h0 : a < 0
  · refine ev_pos h0 (Ev.step (f := fun _ => some (0, 0, 3)) (fun k => ?_) ?_)
    · simp only [remoraref01_Get.j0]; rw [if_pos trivial]
    · unfold getF; rw [if_pos (.inl h0)]; exact Ev.now _
  · refine ev_neg h0 ?_
    by_cases h1 : a > (l.length : Int)
    · rw [decide_eq_true h1]
      refine Ev.step (f := fun _ => some (0, 0, 3)) (fun k => ?_) ?_
      · simp only [remoraref01_Get.j0]; rw [if_pos trivial]
      · unfold getF; rw [if_pos (.inr h1)]; exact Ev.now _
    · rw [decide_eq_false h1]
      obtain ⟨n, rfl⟩ : ∃ n : Nat, a = (n : Int) := ⟨a.toNat, by omega⟩
      have := rget_scan l hb hn n (by omega) (rl 9 (l.drop n)) 0 (by omega)
      rw [show (n : Int) + ((0 : Nat) : Int) = (n : Int) by omega] at this
      refine Ev.step (f := fun k => remoraref01_Get.l0 k l (n : Int) (n : Int)) (fun k => ?_) this
      simp only [remoraref01_Get.j0]
      rw [if_neg (by simp)]
def Bytes (l : List Int) : Prop := ∀ x ∈ l, 0 ≤ x ∧ x ≤ 255
/-- One bit falls out. -/
def st1 (x : Nat) : Nat := (x >>> 1) ^^^ (if x % 2 = 1 then 3988292384 else 0)
def stN : Nat → Nat → Nat
  | 0, x => x
  | d + 1, x => stN d (st1 x)
theorem st1_lt {x : Nat} (h : x < 4294967296) : st1 x < 4294967296 := by
  unfold st1
  have h1 : x >>> 1 < 2 ^ 32 := by rw [Nat.shiftRight_eq_div_pow]; omega
  refine Nat.xor_lt_two_pow h1 ?_
  split <;> decide
theorem stN_lt (d : Nat) : ∀ {x : Nat}, x < 4294967296 → stN d x < 4294967296 := by
  induction d with
  | zero => intro x h; exact h
  | succ d ih => intro x h; exact ih (st1_lt h)
theorem xor_lc (a b c : Nat) : a ^^^ (b ^^^ c) = b ^^^ (a ^^^ c) := by rw [← Nat.xor_assoc, Nat.xor_comm a b, Nat.xor_assoc]
theorem st1_xor (a b : Nat) : st1 (a ^^^ b) = st1 a ^^^ st1 b := by
  unfold st1
  rw [Nat.shiftRight_xor_distrib]
  have hm : (a ^^^ b) % 2 = (a % 2) ^^^ (b % 2) := by have := Nat.xor_mod_two_pow (a := a) (b := b) (n := 1); simpa using this
  rw [hm]
  rcases Nat.mod_two_eq_zero_or_one a with ha | ha <;> rcases Nat.mod_two_eq_zero_or_one b with hb | hb
  · rw [ha, hb]; simp
  · rw [ha, hb]; simp [Nat.xor_assoc]
  · rw [ha, hb]
    rw [if_pos (by decide), if_pos rfl, if_neg (by decide), Nat.xor_zero, Nat.xor_assoc, Nat.xor_assoc, Nat.xor_comm (b >>> 1)]
  · rw [ha, hb]
    rw [if_neg (by decide), if_pos rfl, Nat.xor_zero, Nat.xor_assoc, xor_lc 3988292384 (b >>> 1), Nat.xor_self, Nat.xor_zero]
theorem stN_xor (d : Nat) : ∀ a b : Nat, stN d (a ^^^ b) = stN d a ^^^ stN d b := by
  induction d with
  | zero => intro a b; rfl
  | succ d ih => intro a b; show stN d (st1 (a ^^^ b)) = _; rw [st1_xor, ih]; rfl
theorem st1_even (q : Nat) : st1 (2 * q) = q := by
  unfold st1
  rw [Nat.shiftRight_eq_div_pow, if_neg (by omega)]
  simp
theorem st4_high (q : Nat) : stN 4 (16 * q) = q := by
  show st1 (st1 (st1 (st1 (16 * q)))) = q
  rw [show 16 * q = 2 * (8 * q) by omega, st1_even, show 8 * q = 2 * (4 * q) by omega, st1_even, show 4 * q = 2 * (2 * q) by omega, st1_even, st1_even]
theorem st4_parts (x : Nat) : stN 4 x = (x / 16) ^^^ stN 4 (x % 16) := by
  have e : x = (16 * (x / 16)) ^^^ (x % 16) := by
    have h := Nat.two_pow_add_eq_or_of_lt (i := 4) (b := x % 16) (by omega) (x / 16)
    have hx : (16 * (x / 16)) ^^^ (x % 16) = 16 * (x / 16) ||| x % 16 := by
      apply Nat.eq_of_testBit_eq
      intro i
      rw [Nat.testBit_xor, Nat.testBit_or]
      by_cases hi : i < 4
      · have : (16 * (x / 16)).testBit i = false := by
          rw [show 16 * (x / 16) = 2 ^ 4 * (x / 16) by omega, Nat.testBit_two_pow_mul]
          simp; omega
        rw [this]; simp
      · have : (x % 16).testBit i = false := Nat.testBit_lt_two_pow (Nat.lt_of_lt_of_le (show x % 16 < 2 ^ 4 by omega) (Nat.pow_le_pow_right (by decide) (by omega)))
        rw [this]; simp
    rw [hx]
    have : (2 ^ 4 : Nat) * (x / 16) = 16 * (x / 16) := by omega
    rw [← this, ← h]
    omega
  conv => lhs; rw [e]
  rw [stN_xor, st4_high]
theorem tab_of : ∀ r : Nat, r < 16 → tab_table[r]? = some ((stN 4 r : Nat) : Int) := by decide
theorem xor_nat {a b : Nat} (ha : a < 4294967296) (hb : b < 4294967296) : Go.bits .xor .u32 (a : Int) (b : Int) = ((a ^^^ b : Nat) : Int) := by
  have h := Nat.xor_lt_two_pow (n := 32) ha hb
  unfold Go.bits
  simp only [BitVec.ofInt_natCast, BitVec.toNat_xor, BitVec.toNat_ofNat]
  rw [IntKind.wrap_u32, show IntKind.u32.bits = 32 from rfl, Nat.mod_eq_of_lt ha, Nat.mod_eq_of_lt hb]
  omega
theorem and15 {a : Nat} (ha : a < 4294967296) : Go.bits .and .u32 (a : Int) 15 = ((a % 16 : Nat) : Int) := by
  have := bits_mask .u32 32 (by decide) (fun n h0 h1 => by rw [IntKind.wrap_u32]; omega) 4 (by decide) (a : Int) (by omega) (by omega)
  rw [show (15 : Int) = 2 ^ 4 - 1 by decide, this]
  omega
theorem half_of {a : Nat} (ha : a < 4294967296) : crcHalf (a : Int) = ((stN 4 a : Nat) : Int) := by
  unfold crcHalf
  rw [and15 ha, Int.toNat_natCast, tab_of _ (Nat.mod_lt _ (by decide)), Option.getD_some, st4_parts a]
  rw [show (a : Int) / 16 = ((a / 16 : Nat) : Int) from rfl]
  exact xor_nat (by omega) (stN_lt 4 (by omega))
/-- The register behind a byte. -/
def cb (x c : Nat) : Nat := stN 8 (x ^^^ c)
theorem cb_lt {x c : Nat} (hx : x < 4294967296) (hc : c < 4294967296) : cb x c < 4294967296 := stN_lt 8 (Nat.xor_lt_two_pow (n := 32) hx hc)
theorem byte_of {x c : Nat} (hx : x < 4294967296) (hc : c < 4294967296) : crcByte (x : Int) (c : Int) = ((cb x c : Nat) : Int) := by
  unfold crcByte
  rw [show (c : Int) % 4294967296 = (c : Int) by omega, xor_nat hx hc]
  have h := Nat.xor_lt_two_pow (n := 32) hx hc
  rw [half_of h, half_of (stN_lt 4 h)]
  rfl
/-- The register behind bytes. -/
def cr (x : Nat) (l : List Int) : Nat := l.foldl (fun x c => cb x c.toNat) x
theorem cr_lt (l : List Int) (hl : Bytes l) : ∀ {x : Nat}, x < 4294967296 → cr x l < 4294967296 := by
  induction l with
  | nil => intro x hx; exact hx
  | cons c l ih =>
    intro x hx
    have := hl c List.mem_cons_self
    exact ih (fun y hy => hl y (List.mem_cons_of_mem _ hy)) (cb_lt hx (by omega))
theorem row_of (l : List Int) (hl : Bytes l) : ∀ {x : Nat}, x < 4294967296 → crcRow (x : Int) l = ((cr x l : Nat) : Int) := by
  induction l with
  | nil => intro x hx; rfl
  | cons c l ih =>
    intro x hx
    have hc := hl c List.mem_cons_self
    have e : c = ((c.toNat : Nat) : Int) := by omega
    show crcRow (crcByte (x : Int) c) l = _
    rw [e, byte_of hx (by omega)]
    exact ih (fun y hy => hl y (List.mem_cons_of_mem _ hy)) (cb_lt hx (by omega))
/-- A text's sum. -/
def cs (l : List Int) : Nat := 4294967295 - cr 4294967295 l
theorem cs_lt (l : List Int) : cs l < 4294967296 := by unfold cs; omega
theorem not_xor {a : Nat} (ha : a < 4294967296) : 4294967295 ^^^ a = 4294967295 - a := by
  have h1 : (BitVec.ofNat 32 a ^^^ BitVec.allOnes 32).toNat = (~~~ BitVec.ofNat 32 a).toNat := by rw [BitVec.xor_allOnes]
  rw [BitVec.toNat_xor, BitVec.toNat_not, BitVec.toNat_ofNat, BitVec.toNat_allOnes, Nat.mod_eq_of_lt ha] at h1
  rw [Nat.xor_comm]
  omega
theorem of_one (l : List Int) (hl : Bytes l) : crc_Of.f [l] = some ((cs l : Nat) : Int) := by
  unfold crc_Of.f cs
  show some (Go.bits .xor .u32 4294967295 (crcRow ((4294967295 : Nat) : Int) l)) = _
  have h := cr_lt l hl (x := 4294967295) (by decide)
  rw [row_of l hl (by decide), show (4294967295 : Int) = ((4294967295 : Nat) : Int) from rfl, xor_nat (by decide) h, not_xor h]
/-- A sum's bytes. -/
def sb (n : Nat) : List Int := [((n % 256 : Nat) : Int), ((n / 256 % 256 : Nat) : Int), ((n / 65536 % 256 : Nat) : Int), ((n / 16777216 : Nat) : Int)]
theorem seal4_of (l : List Int) (hl : Bytes l) : crc_seal.f l = some (((cs l % 256 : Nat) : Int), ((cs l / 256 % 256 : Nat) : Int), ((cs l / 65536 % 256 : Nat) : Int), ((cs l / 16777216 : Nat) : Int)) := by
  unfold crc_seal.f
  rw [of_one l hl]
  rfl
theorem shift_loop (d : Nat) : ∀ (i x : Nat), i + d = 8 → x < 4294967296 → Ev (fun k => remoraref02_Shift.l0 k (x : Int) 8 (i : Int)) ((stN d x : Nat) : Int) := by
  induction d with
  | zero =>
    intro i x hi hx
    refine Ev.step (f := fun _ => some (x : Int)) (fun k => ?_) (Ev.now _)
    simp only [remoraref02_Shift.l0]
    rw [if_neg (by omega)]
  | succ d ih =>
    intro i x hi hx
    have e1 : wrap64 ((i : Int) + 1) = ((i + 1 : Nat) : Int) := by unfold wrap64; omega
    have e2 : (Int.tdiv (x : Int) 2) % (4294967296 : Int) = ((x >>> 1 : Nat) : Int) := by
      rw [Int.tdiv_eq_ediv_of_nonneg (by omega), Nat.shiftRight_eq_div_pow]
      omega
    have h1 : x >>> 1 < 4294967296 := by rw [Nat.shiftRight_eq_div_pow]; omega
    refine Ev.step (f := fun k => remoraref02_Shift.l0 k ((st1 x : Nat) : Int) 8 ((i + 1 : Nat) : Int)) (fun k => ?_) (ih (i + 1) (st1 x) (by omega) (st1_lt hx))
    simp only [remoraref02_Shift.l0]
    rw [if_pos (by omega), e1, e2, Int.tmod_eq_emod_of_nonneg (by omega)]
    unfold st1
    by_cases h : x % 2 = 1
    · rw [if_pos (by omega), if_pos h, show (3988292384 : Int) = ((3988292384 : Nat) : Int) from rfl, xor_nat h1 (by decide)]
    · rw [if_neg (by omega), if_neg h, Nat.xor_zero]
theorem shift_of {x : Nat} (hx : x < 4294967296) : Ev (fun k => remoraref02_Shift.f k (x : Int) 8) ((stN 8 x : Nat) : Int) := shift_loop 8 0 x rfl hx
theorem rof_inner (l : List Int) (hl : Bytes l) (hn : l.length ≤ 9000000000000000000) (d : Nat) : ∀ (i x : Nat), i + d = l.length → x < 4294967296 →
    Ev (fun k => remoraref02_Of.l1 k [l] (x : Int) 0 (i : Int)) ((4294967295 - cr x (l.drop i) : Nat) : Int) := by
  have hrow : rd_L2 [l] 0 = l := rfl
  induction d with
  | zero =>
    intro i x hi hx
    have e1 : wrap64 (0 + 1) = 1 := by unfold wrap64; decide
    refine Ev.step (f := fun k => remoraref02_Of.l0 k [l] (x : Int) 1) (fun k => ?_) ?_
    · simp only [remoraref02_Of.l1]
      rw [hrow, if_pos (by decide), if_pos (by simp), if_neg (by omega), e1]
    · rw [List.drop_eq_nil_of_le (by omega)]
      refine Ev.step (f := fun _ => some (((4294967295 - x : Nat) : Nat) : Int)) (fun k => ?_) (Ev.now _)
      simp only [remoraref02_Of.l0]
      rw [if_neg (by simp)]
      congr 1
      omega
  | succ d ih =>
    intro i x hi hx
    have hlt : i < l.length := by omega
    have e1 : wrap64 ((i : Int) + 1) = ((i + 1 : Nat) : Int) := by unfold wrap64; omega
    have hc := hl _ (List.getElem_mem hlt)
    have hrd : rd l (i : Int) = l[i] := by unfold rd; rw [Int.toNat_natCast, List.getD_eq_getElem?_getD, List.getElem?_eq_getElem hlt, Option.getD_some]
    have hx2 : x ^^^ l[i].toNat < 4294967296 := Nat.xor_lt_two_pow (n := 32) hx (by omega)
    refine Ev.step (f := fun k => (remoraref02_Shift.f k ((x ^^^ l[i].toNat : Nat) : Int) 8).bind fun t => remoraref02_Of.l1 k [l] t 0 ((i + 1 : Nat) : Int)) (fun k => ?_) ?_
    · simp only [remoraref02_Of.l1]
      rw [hrow, if_pos (by decide), if_pos (by simp), if_pos (by omega), if_pos (by omega), e1, hrd]
      have e3 : l[i] % 4294967296 = ((l[i].toNat : Nat) : Int) := by omega
      rw [e3, xor_nat hx (by omega)]
    · refine Ev.bind (shift_of hx2) ?_
      have := ih (i + 1) (cb x l[i].toNat) (by omega) (cb_lt hx (by omega))
      rw [List.drop_eq_getElem_cons hlt]
      exact this
theorem rof_one (l : List Int) (hl : Bytes l) (hn : l.length ≤ 9000000000000000000) : Ev (fun k => remoraref02_Of.f k [l]) ((cs l : Nat) : Int) := by
  unfold remoraref02_Of.f
  refine Ev.step (f := fun k => remoraref02_Of.l1 k [l] ((4294967295 : Nat) : Int) 0 ((0 : Nat) : Int)) (fun k => ?_) ?_
  · simp only [remoraref02_Of.l0]
    rw [if_pos (by simp)]
    rfl
  · exact rof_inner l hl hn l.length 0 4294967295 (by omega) (by decide)
theorem rseal_of (l : List Int) (hl : Bytes l) (hn : l.length ≤ 1000000000) : Ev (fun k => remoraref02_Seal.f k l) (l ++ sb (cs l)) := by
  unfold remoraref02_Seal.f
  refine Ev.bind (rof_one l hl (by omega)) ?_
  simp only [Option.bind_some, List.length_nil, Nat.zero_add, List.nil_append]
  refine ev_pos (by omega) ?_
  have h := cs_lt l
  unfold sb
  generalize cs l = n at h ⊢
  have q : ∀ m : Nat, m < 4294967296 → (Int.tdiv (m : Int) 256) % (4294967296 : Int) = ((m / 256 : Nat) : Int) ∧ (Int.tmod (m : Int) 256) % 256 = ((m % 256 : Nat) : Int) := fun m hm => by
    rw [Int.tdiv_eq_ediv_of_nonneg (by omega), Int.tmod_eq_emod_of_nonneg (by omega)]
    omega
  have w0 : wrap64 (0 + 1) = 1 := by unfold wrap64; decide
  have w1 : wrap64 (1 + 1) = 2 := by unfold wrap64; decide
  have w2 : wrap64 (2 + 1) = 3 := by unfold wrap64; decide
  have w3 : wrap64 (3 + 1) = 4 := by unfold wrap64; decide
  refine Ev.step (f := fun k => remoraref02_Seal.l0 k ((n / 256 : Nat) : Int) (l ++ [((n % 256 : Nat) : Int)]) 1) (fun k => ?_) ?_
  · simp only [remoraref02_Seal.l0]
    rw [if_pos (by decide), if_pos (by omega), (q n h).1, (q n h).2, w0]
  refine Ev.step (f := fun k => remoraref02_Seal.l0 k ((n / 256 / 256 : Nat) : Int) (l ++ [((n % 256 : Nat) : Int)] ++ [((n / 256 % 256 : Nat) : Int)]) 2) (fun k => ?_) ?_
  · simp only [remoraref02_Seal.l0]
    rw [if_pos (by decide), if_pos (by simp; omega), (q (n / 256) (by omega)).1, (q (n / 256) (by omega)).2, w1]
  refine Ev.step (f := fun k => remoraref02_Seal.l0 k ((n / 256 / 256 / 256 : Nat) : Int) (l ++ [((n % 256 : Nat) : Int)] ++ [((n / 256 % 256 : Nat) : Int)] ++ [((n / 256 / 256 % 256 : Nat) : Int)]) 3) (fun k => ?_) ?_
  · simp only [remoraref02_Seal.l0]
    rw [if_pos (by decide), if_pos (by simp; omega), (q (n / 256 / 256) (by omega)).1, (q (n / 256 / 256) (by omega)).2, w2]
  refine Ev.step (f := fun k => remoraref02_Seal.l0 k ((n / 256 / 256 / 256 / 256 : Nat) : Int) (l ++ [((n % 256 : Nat) : Int)] ++ [((n / 256 % 256 : Nat) : Int)] ++ [((n / 256 / 256 % 256 : Nat) : Int)] ++ [((n / 256 / 256 / 256 % 256 : Nat) : Int)]) 4) (fun k => ?_) ?_
  · simp only [remoraref02_Seal.l0]
    rw [if_pos (by decide), if_pos (by simp; omega), (q (n / 256 / 256 / 256) (by omega)).1, (q (n / 256 / 256 / 256) (by omega)).2, w3]
  refine Ev.step (f := fun _ => some (l ++ [((n % 256 : Nat) : Int)] ++ [((n / 256 % 256 : Nat) : Int)] ++ [((n / 256 / 256 % 256 : Nat) : Int)] ++ [((n / 256 / 256 / 256 % 256 : Nat) : Int)])) (fun k => ?_) ?_
  · simp only [remoraref02_Seal.l0]
    rw [if_neg (by decide)]
  · refine ev_some ?_
    rw [Nat.div_div_eq_div_mul, Nat.div_div_eq_div_mul, show n / (256 * 256 * 256) % 256 = n / 16777216 by omega]
    simp
theorem str_inj {a b : List Int} (ha : Bytes a) (hb : Bytes b) (h : (strOfNums a).toList = (strOfNums b).toList) : a = b := by
  rw [ByteArray.toList_eq, ByteArray.toList_eq, strOfNums_data, strOfNums_data] at h
  have hl : a.length = b.length := by have := congrArg List.length h; simpa using this
  apply List.ext_getElem hl
  intro i h1 h2
  have hx := congrArg (fun l => l[i]?) h
  simp only [List.getElem?_map, List.getElem?_eq_getElem h1, List.getElem?_eq_getElem h2, Option.map_some, Option.some.injEq] at hx
  have p := ha _ (List.getElem_mem h1)
  have q := hb _ (List.getElem_mem h2)
  have := congrArg UInt8.toNat hx
  simp only [UInt8.toNat_ofNat'] at this
  omega
theorem bytes_take {l : List Int} (h : Bytes l) (n : Nat) : Bytes (l.take n) := fun x hx => h x (List.take_subset _ _ hx)
theorem bytes_drop {l : List Int} (h : Bytes l) (n : Nat) : Bytes (l.drop n) := fun x hx => h x (List.drop_subset _ _ hx)
/-- A text without its sum, or what is wrong. -/
def openF (l : List Int) : List Int × Int := if l.length < 4 then ([], 4) else if sb (cs (l.take (l.length - 4))) = l.drop (l.length - 4) then (l.take (l.length - 4), 0) else ([], 6)
theorem sb_b {n : Nat} (h : n < 4294967296) : Bytes (sb n) := by
  intro x hx
  unfold sb at hx
  simp only [List.mem_cons, List.not_mem_nil, or_false] at hx
  rcases hx with rfl | rfl | rfl | rfl <;> omega
theorem open_of (l : List Int) (hl : Bytes l) (hn : l.length ≤ 1000000000) : crc_Open.f l = some (openF l) := by
  unfold crc_Open.f openF
  by_cases h : l.length < 4
  · rw [if_pos h, if_pos h]
  · rw [if_neg h, if_neg h, seal4_of _ (bytes_take hl _), Option.bind_some, if_pos hn]
    by_cases h2 : sb (cs (l.take (l.length - 4))) = l.drop (l.length - 4)
    · rw [if_pos h2]
      exact if_pos h2
    · rw [if_neg h2]
      exact if_neg h2
theorem open_bytes (l : List Int) (hl : Bytes l) : Bytes (openF l).1 ∧ (openF l).1.length ≤ l.length := by
  unfold openF
  by_cases h : l.length < 4
  · rw [if_pos h]; exact ⟨fun x hx => (by cases hx), Nat.zero_le _⟩
  · rw [if_neg h]
    by_cases h2 : sb (cs (l.take (l.length - 4))) = l.drop (l.length - 4)
    · rw [if_pos h2]; exact ⟨bytes_take hl _, by rw [List.length_take]; exact Nat.min_le_right _ _⟩
    · rw [if_neg h2]; exact ⟨fun x hx => (by cases hx), Nat.zero_le _⟩
theorem ropen_of (l : List Int) (hl : Bytes l) (hn : l.length ≤ 1000000000) : Ev (fun k => remoraref02_Open.f k l) (openF l) := by
  unfold remoraref02_Open.f openF
  by_cases h : l.length < 4
  · rw [if_pos h]
    exact ev_pos (by omega) (Ev.now _)
  · rw [if_neg h]
    refine ev_neg (by omega) ?_
    have hw : wrap64 ((l.length : Int) - 4) = ((l.length - 4 : Nat) : Int) := by unfold wrap64; omega
    rw [hw]
    simp only [Option.bind_some, List.length_nil, Nat.zero_add, List.nil_append, Int.toNat_natCast]
    have hlt : (l.take (l.length - 4)).length ≤ l.length := by rw [List.length_take]; exact Nat.min_le_right _ _
    refine ev_pos (by omega) (ev_pos (by omega) (ev_pos (by omega) ?_))
    refine Ev.bind (rseal_of _ (bytes_take hl _) (by omega)) ?_
    by_cases h2 : sb (cs (l.take (l.length - 4))) = l.drop (l.length - 4)
    · rw [if_pos h2]
      refine ev_pos ?_ (Ev.now _)
      rw [h2, List.take_append_drop]
    · rw [if_neg h2]
      refine ev_neg (fun he => h2 ?_) (Ev.now _)
      have := str_inj (fun x hx => by
        rcases List.mem_append.1 hx with hx | hx
        · exact bytes_take hl _ x hx
        · exact sb_b (cs_lt _) x hx) hl he
      have h3 := congrArg (List.drop (l.length - 4)) this
      rwa [List.drop_left' (by rw [List.length_take]; omega)] at h3
theorem wf8 {n : Int} (h : (Lit.int .u8 n).wf = true) : 0 ≤ n ∧ n < 256 := by
  have e0 : IntKind.u8.min = 0 := by decide
  have e1 : IntKind.u8.max = 255 := by decide
  simp [Lit.wf, e0, e1] at h
  omega
theorem byte_wf {n : Int} (h : (Lit.int .u8 n).wf = true) : 0 ≤ n ∧ n ≤ 255 := by have := wf8 h; omega
/-- The op at a place, and the place behind. -/
def oneRF (l : List Int) (a : Int) : Int × Int × List Int × Int × Int :=
  let g := getF l a
  if g.2.2 = 0 then (if g.1 / 2 = 0 then (0, 0, [], 0, 5) else if g.1 / 2 > 65536 then (0, 0, [], 0, 7) else
    if g.1 % 2 = 1 then (if g.1 / 2 > (l.length : Int) - g.2.1 then (0, 0, [], 0, 4) else (0, 0, (l.take (g.2.1 + g.1 / 2).toNat).drop g.2.1.toNat, g.2.1 + g.1 / 2, 0))
    else (let h := getF l g.2.1; (h.1, g.1 / 2, [], h.2.1, h.2.2))) else (0, 0, [], 0, g.2.2)
theorem getF_bd (l : List Int) (a : Int) : 0 ≤ (getF l a).1 ∧ (getF l a).1 ≤ 4611686018427387903 ∧ 0 ≤ (getF l a).2.1 ∧ (getF l a).2.1 ≤ (l.length : Int) := by
  unfold getF
  by_cases h : a < 0 ∨ a > (l.length : Int)
  · rw [if_pos h]
    exact ⟨by decide, by decide, by decide, by simp⟩
  · rw [if_neg h]
    simp only
    have hm := rl_le 9 (l.drop a.toNat)
    have hlen : (l.drop a.toNat).length = l.length - a.toNat := List.length_drop
    by_cases h9 : rl 9 (l.drop a.toNat) = 9
    · rw [if_pos h9]; exact ⟨by decide, by decide, by decide, by simp⟩
    · rw [if_neg h9]
      by_cases he : rl 9 (l.drop a.toNat) = (l.drop a.toNat).length
      · rw [if_pos he]; exact ⟨by decide, by decide, by decide, by simp⟩
      · rw [if_neg he]
        split
        · exact ⟨by decide, by decide, by decide, by simp⟩
        · split
          · exact ⟨by decide, by decide, by decide, by simp⟩
          · exact ⟨by simp, by simp; omega, by simp; omega, by simp; omega⟩
theorem one_of_ (l : List Int) (hb : Bytes l) (hn : l.length ≤ 1000000000) (a : Int) : Ev (fun k => delta_read.f k l a) (oneRF l a) := by
  unfold delta_read.f
  refine Ev.bind (get_of l hb hn a) ?_
  unfold oneRF
  have hg := getF_bd l a
  generalize getF l a = g at hg ⊢
  obtain ⟨v, p, e⟩ := g
  simp only at hg ⊢
  have e1 : wrap64 (Int.tdiv v 2) = v / 2 := by rw [Int.tdiv_eq_ediv_of_nonneg hg.1]; exact nw64 _ (by omega) (by omega)
  have e2 : Int.tmod v 2 = v % 2 := Int.tmod_eq_emod_of_nonneg hg.1
  rw [e1, e2]
  by_cases h0 : e = 0
  · rw [if_pos h0]
    refine ev_pos h0 ?_
    by_cases h1 : v / 2 = 0
    · rw [if_pos h1]; exact ev_pos h1 (Ev.now _)
    · rw [if_neg h1]
      refine ev_neg h1 ?_
      by_cases h2 : v / 2 > 65536
      · rw [if_pos h2]; exact ev_pos h2 (Ev.now _)
      · rw [if_neg h2]
        refine ev_neg h2 ?_
        have H3 := Aside0.mk (nw64 ((l.length : Int) - p) (by omega) (by omega))
        have H4 := Aside0.mk (nw64 (p + v / 2) (by omega) (by omega))
        by_cases h3 : v % 2 = 1
        · rw [if_pos h3, H3.out, H4.out]
          refine ev_pos h3 ?_
          by_cases h4 : v / 2 > (l.length : Int) - p
          · refine ev_pos h4 ?_
            rw [if_pos h4]; exact Ev.now _
          · refine ev_neg h4 (ev_pos (by omega) (ev_pos (by omega) (ev_pos (by omega) ?_)))
            rw [if_neg h4]
            unfold bytes_Clone.f
            have hl : ((l.take (p + v / 2).toNat).drop p.toNat).length ≤ l.length := by rw [List.length_drop, List.length_take]; omega
            rw [if_pos (by omega)]
            exact ev_some rfl
        · rw [if_neg h3]
          refine ev_neg h3 (Ev.bind (get_of l hb hn p) ?_)
          exact Ev.now _
  · rw [if_neg h0]
    exact ev_neg h0 (Ev.now _)
theorem rone_of_ (l : List Int) (hb : Bytes l) (hn : l.length ≤ 1000000000) (a : Int) : Ev (fun k => remoraref08_One.f k l a) (oneRF l a) := by
  unfold remoraref08_One.f
  refine Ev.bind (rget_of l hb hn a) ?_
  unfold oneRF
  have hg := getF_bd l a
  generalize getF l a = g at hg ⊢
  obtain ⟨v, p, e⟩ := g
  simp only at hg ⊢
  have e1 : wrap64 (Int.tdiv v 2) = v / 2 := by rw [Int.tdiv_eq_ediv_of_nonneg hg.1]; exact nw64 _ (by omega) (by omega)
  have e2 : Int.tmod v 2 = v % 2 := Int.tmod_eq_emod_of_nonneg hg.1
  rw [e1, e2]
  by_cases h0 : e = 0
  · rw [if_pos h0]
    refine ev_pos h0 ?_
    by_cases h1 : v / 2 = 0
    · rw [if_pos h1]; exact ev_pos h1 (Ev.now _)
    · rw [if_neg h1]
      refine ev_neg h1 ?_
      by_cases h2 : v / 2 > 65536
      · rw [if_pos h2]; exact ev_pos h2 (Ev.now _)
      · rw [if_neg h2]
        refine ev_neg h2 ?_
        have H3 := Aside0.mk (nw64 ((l.length : Int) - p) (by omega) (by omega))
        have H4 := Aside0.mk (nw64 (p + v / 2) (by omega) (by omega))
        by_cases h3 : v % 2 = 1
        · rw [if_pos h3, H3.out, H4.out]
          refine ev_neg (by omega) ?_
          by_cases h4 : v / 2 > (l.length : Int) - p
          · refine ev_pos (by omega) ?_
            rw [if_pos h4]; exact Ev.now _
          · refine ev_neg (by omega) ?_
            rw [if_neg h4]
            have hl : ((l.take (p + v / 2).toNat).drop p.toNat).length ≤ l.length := by rw [List.length_drop, List.length_take]; omega
            simp only [Option.bind_some, List.length_nil, Nat.zero_add, List.nil_append]
            exact ev_pos (by omega) (ev_pos (by omega) (ev_pos (by omega) (ev_pos (by omega) (Ev.now _))))
        · rw [if_neg h3]
          refine ev_pos (by omega) (Ev.bind (rget_of l hb hn p) ?_)
          exact Ev.now _
  · rw [if_neg h0]
    exact ev_neg h0 (Ev.now _)
/-- d more ops from a place on, behind those that came. -/
def opsRF (l : List Int) : Nat → Int → List S38 → List S38 × Int
  | 0, a, x => if a < (l.length : Int) then ([], 5) else if chkF 131072 x = 0 then (x, 0) else ([], chkF 131072 x)
  | d + 1, a, x => let o := oneRF l a; if o.2.2.2.2 = 0 then opsRF l d o.2.2.2.1 (x ++ [⟨o.1, o.2.1, o.2.2.1⟩]) else ([], o.2.2.2.2)
theorem opsRF_few (l : List Int) (d : Nat) : ∀ (a : Int) (x : List S38), (opsRF l d a x).1.length ≤ x.length + d := by
  induction d with
  | zero =>
    intro a x
    unfold opsRF
    split
    · exact Nat.zero_le _
    · split
      · exact Nat.le_refl _
      · exact Nat.zero_le _
  | succ d ih =>
    intro a x
    unfold opsRF
    simp only
    split
    · have := ih (oneRF l a).2.2.2.1 (x ++ [⟨(oneRF l a).1, (oneRF l a).2.1, (oneRF l a).2.2.1⟩])
      rw [List.length_append] at this
      simp at this
      omega
    · exact Nat.zero_le _
theorem read_loop (l : List Int) (hb : Bytes l) (hn : l.length ≤ 1000000000) (n : Nat) (hN : n ≤ 8192) (d : Nat) : ∀ (i : Nat) (a : Int) (x : List S38), i + d = n → x.length = i →
    Ev (fun k => delta_Read.l0 k l a x (n : Int) (i : Int)) (opsRF l d a x) := by
  induction d with
  | zero =>
    intro i a x hi hx
    refine Ev.step (f := fun k => if a < (l.length : Int) then some ([], 5) else (delta_Check.f k x 131072).bind fun t => if t = 0 then some (x, 0) else some ([], t)) (fun k => ?_) ?_
    · simp only [delta_Read.l0]
      rw [if_neg (by omega)]
    · unfold opsRF
      by_cases h : a < (l.length : Int)
      · rw [if_pos h]; exact ev_pos h (Ev.now _)
      · rw [if_neg h]
        refine ev_neg h (Ev.bind (a := chkF 131072 x) ⟨x.length + 3, fun k hk => check_d 131072 x (by omega) (by omega)⟩ ?_)
        by_cases h2 : chkF 131072 x = 0
        · refine ev_pos h2 ?_
          rw [if_pos h2]; exact Ev.now _
        · refine ev_neg h2 ?_
          rw [if_neg h2]; exact Ev.now _
  | succ d ih =>
    intro i a x hi hx
    have hw : wrap64 ((i : Int) + 1) = ((i + 1 : Nat) : Int) := by unfold wrap64; omega
    refine Ev.step (f := fun k => (delta_read.f k l a).bind fun o => if o.2.2.2.2 = 0 then (if x.length < 3518437208883 then delta_Read.l0 k l o.2.2.2.1 (x ++ [(⟨o.1, o.2.1, o.2.2.1⟩ : S38)]) (n : Int) ((i + 1 : Nat) : Int) else none) else some ([], o.2.2.2.2)) (fun k => ?_) ?_
    · simp only [delta_Read.l0]
      rw [if_pos (by omega), hw]
    · refine Ev.bind (one_of_ l hb hn a) ?_
      unfold opsRF
      simp only
      by_cases h : (oneRF l a).2.2.2.2 = 0
      · rw [if_pos h]
        exact ev_pos h (ev_pos (by omega) (ih (i + 1) _ _ (by omega) (by rw [List.length_append]; simp; omega)))
      · rw [if_neg h]; exact ev_neg h (Ev.now _)
theorem rread_loop (l : List Int) (hb : Bytes l) (hn : l.length ≤ 1000000000) (n : Nat) (hN : n ≤ 8192) (d : Nat) : ∀ (i : Nat) (a : Int) (x : List S38), i + d = n → x.length = i →
    Ev (fun k => remoraref08_Read.l0 k l (n : Int) a x (i : Int)) (opsRF l d a x) := by
  induction d with
  | zero =>
    intro i a x hi hx
    refine Ev.step (f := fun k => if a < (l.length : Int) then some ([], 5) else (remoraref08_Check.f k x 131072).bind fun t => if t = 0 then some (x, 0) else some ([], t)) (fun k => ?_) ?_
    · simp only [remoraref08_Read.l0]
      rw [if_neg (by omega)]
    · unfold opsRF
      by_cases h : a < (l.length : Int)
      · rw [if_pos h]; exact ev_pos h (Ev.now _)
      · rw [if_neg h]
        refine ev_neg h (Ev.bind (a := chkF 131072 x) ⟨2 * x.length + 3, fun k hk => check_r 131072 x (by omega) (by omega)⟩ ?_)
        by_cases h2 : chkF 131072 x = 0
        · refine ev_pos h2 ?_
          rw [if_pos h2]; exact Ev.now _
        · refine ev_neg h2 ?_
          rw [if_neg h2]; exact Ev.now _
  | succ d ih =>
    intro i a x hi hx
    have hw : wrap64 ((i : Int) + 1) = ((i + 1 : Nat) : Int) := by unfold wrap64; omega
    refine Ev.step (f := fun k => (remoraref08_One.f k l a).bind fun o => if o.2.2.2.2 = 0 then (if x.length < 3518437208883 then remoraref08_Read.l0 k l (n : Int) o.2.2.2.1 (x ++ [(⟨o.1, o.2.1, o.2.2.1⟩ : S38)]) ((i + 1 : Nat) : Int) else none) else some ([], o.2.2.2.2)) (fun k => ?_) ?_
    · simp only [remoraref08_Read.l0]
      rw [if_pos (by omega), hw]
    · refine Ev.bind (rone_of_ l hb hn a) ?_
      unfold opsRF
      simp only
      by_cases h : (oneRF l a).2.2.2.2 = 0
      · rw [if_pos h]
        exact ev_pos h (ev_pos (by omega) (ih (i + 1) _ _ (by omega) (by rw [List.length_append]; simp; omega)))
      · rw [if_neg h]; exact ev_neg h (Ev.now _)
/-- What bytes are as ops, or what is wrong. -/
def readF (l : List Int) : List S38 × Int :=
  let o := openF l
  if o.2 = 0 then (let g := getF o.1 0; if g.2.2 = 0 then (if g.1 > 8192 then ([], 7) else opsRF o.1 g.1.toNat g.2.1 []) else ([], g.2.2)) else ([], o.2)
theorem readF_few (l : List Int) : (readF l).1.length ≤ 8192 := by
  unfold readF
  simp only
  split
  · split
    · split
      · exact Nat.zero_le _
      · have h := opsRF_few (openF l).1 (getF (openF l).1 0).1.toNat (getF (openF l).1 0).2.1 []
        have := (getF_bd (openF l).1 0).1
        simp at h
        omega
    · exact Nat.zero_le _
  · exact Nat.zero_le _
theorem read_d (l : List Int) (hb : Bytes l) (hn : l.length ≤ 1000000000) : Ev (fun k => delta_Read.f k l) (readF l) := by
  unfold delta_Read.f
  rw [open_of l hb hn]
  simp only [Option.bind_some]
  unfold readF
  have ho := open_bytes l hb
  generalize openF l = o at ho ⊢
  simp only
  by_cases h : o.2 = 0
  · rw [if_pos h]
    refine ev_pos h (Ev.bind (get_of o.1 ho.1 (by omega) 0) ?_)
    have hg := (getF_bd o.1 0).1
    generalize getF o.1 0 = g at hg ⊢
    by_cases h2 : g.2.2 = 0
    · rw [if_pos h2]
      refine ev_pos h2 ?_
      by_cases h3 : g.1 > 8192
      · rw [if_pos h3]; exact ev_pos h3 (Ev.now _)
      · rw [if_neg h3]
        refine ev_neg h3 ?_
        have := read_loop o.1 ho.1 (by omega) g.1.toNat (by omega) g.1.toNat 0 g.2.1 [] (by omega) rfl
        rwa [Int.toNat_of_nonneg hg] at this
    · rw [if_neg h2]; exact ev_neg h2 (Ev.now _)
  · rw [if_neg h]; exact ev_neg h (Ev.now _)
theorem read_r (l : List Int) (hb : Bytes l) (hn : l.length ≤ 1000000000) : Ev (fun k => remoraref08_Read.f k l) (readF l) := by
  unfold remoraref08_Read.f
  refine Ev.bind (ropen_of l hb hn) ?_
  unfold readF
  have ho := open_bytes l hb
  generalize openF l = o at ho ⊢
  simp only
  by_cases h : o.2 = 0
  · rw [if_pos h]
    refine ev_pos h (Ev.bind (rget_of o.1 ho.1 (by omega) 0) ?_)
    have hg := (getF_bd o.1 0).1
    generalize getF o.1 0 = g at hg ⊢
    by_cases h2 : g.2.2 = 0
    · rw [if_pos h2]
      refine ev_pos h2 ?_
      by_cases h3 : g.1 > 8192
      · rw [if_pos h3]; exact ev_pos h3 (Ev.now _)
      · rw [if_neg h3]
        refine ev_neg h3 ?_
        have := rread_loop o.1 ho.1 (by omega) g.1.toNat (by omega) g.1.toNat 0 g.2.1 [] (by omega) rfl
        rwa [Int.toNat_of_nonneg hg] at this
    · rw [if_neg h2]; exact ev_neg h2 (Ev.now _)
  · rw [if_neg h]; exact ev_neg h (Ev.now _)

theorem DeltaReads : remoralaw08_DeltaReads.Pure := by
  intro l b hl h1
  have hb : Bytes l := fun x hx => byte_wf (hl.2 x hx)
  refine Ev.rounds ?_
  unfold remoralaw08_DeltaReads.f
  by_cases h0 : (l.length : Int) > 2000
  · exact ev_pos h0 (ev_some rfl)
  · refine ev_neg h0 ?_
    have one : ∀ x : List Int, Bytes x → x.length ≤ 1000000000 → Ev (fun k => (delta_Read.f k x).bind fun bt236 => (remoraref08_Read.f k x).bind fun bt240 => (remoraref08_Same.f k bt236.1 bt240.1).bind fun t244 => if t244 = true then (if bt236.2 = bt240.2 then (remoralaw08_awake.f).bind fun t245 => some t245 else none) else none) true := fun x hx hn => by
      have hf := readF_few x
      refine Ev.bind (read_d x hx hn) (Ev.bind (read_r x hx hn) (Ev.bind (a := true) ⟨(readF x).1.length + 1, fun k hk => same_of _ (by omega) (by omega)⟩ ?_))
      exact ev_pos rfl (ev_pos rfl (ev_some rfl))
    by_cases hs : b = true
    · refine ev_pos hs (Ev.bind (rseal_of l hb (by omega)) (one _ ?_ ?_))
      · intro x hx
        rcases List.mem_append.1 hx with hx | hx
        · exact hb x hx
        · exact sb_b (cs_lt _) x hx
      · rw [List.length_append]
        show l.length + 4 ≤ _
        omega
    · exact ev_neg hs (one l hb (by omega))

end Go.Proofs.YtifmajnhcbicnaaDoor.Pure
