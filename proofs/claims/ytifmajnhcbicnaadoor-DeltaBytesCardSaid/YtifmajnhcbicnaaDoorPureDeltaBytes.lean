/- The program and the reference agree on the bytes of any ops, or why there are none, for at most 60 ops of at most 400 bytes. Conditions: none. -/
import Derived.Test.YtifmajnhcbicnaaDoorPDeltaBytesx6
namespace Go.Proofs.YtifmajnhcbicnaaDoor.Pure
open Go.RowKit Go.Proofs.YtifmajnhcbicnaaDoor.PDeltaBytes Go.Proofs.YtifmajnhcbicnaaDoorW.PrintWords Go.Proofs.YtifmajnhcbicnaaDoorW.PrintLast Go.Proofs.YtifmajnhcbicnaaDoorW.PrintMore
set_option maxRecDepth 100000
set_option linter.unusedVariables false
theorem w64 (n : Int) (h0 : -9223372036854775808 ≤ n) (h1 : n ≤ 9223372036854775807) : wrap64 n = n := by unfold wrap64; omega
theorem wq (n : Int) : ∃ q : Int, wrap64 n = n + q * 18446744073709551616 ∧ -9223372036854775808 ≤ wrap64 n ∧ wrap64 n ≤ 9223372036854775807 := by
  refine ⟨-((n + 9223372036854775808) / 18446744073709551616), ?_, ?_, ?_⟩ <;> unfold wrap64 <;> omega
theorem wrap_comm (a b c : Int) : wrap64 (wrap64 (a + c) + b) = wrap64 (wrap64 (a + b) + c) := by
  obtain ⟨q1, e1, _, _⟩ := wq (a + c)
  obtain ⟨q2, e2, l2, u2⟩ := wq (wrap64 (a + c) + b)
  obtain ⟨q3, e3, _, _⟩ := wq (a + b)
  obtain ⟨q4, e4, l4, u4⟩ := wq (wrap64 (a + b) + c)
  generalize wrap64 (wrap64 (a + c) + b) = x2 at *
  generalize wrap64 (wrap64 (a + b) + c) = x4 at *
  generalize wrap64 (a + c) = x1 at *
  generalize wrap64 (a + b) = x3 at *
  omega
theorem wrap_add (a b c : Int) : wrap64 (a + wrap64 (b + c)) = wrap64 (wrap64 (a + b) + c) := by
  obtain ⟨q1, e1, _, _⟩ := wq (b + c)
  obtain ⟨q2, e2, l2, u2⟩ := wq (a + wrap64 (b + c))
  obtain ⟨q3, e3, _, _⟩ := wq (a + b)
  obtain ⟨q4, e4, l4, u4⟩ := wq (wrap64 (a + b) + c)
  generalize wrap64 (a + wrap64 (b + c)) = x2 at *
  generalize wrap64 (wrap64 (a + b) + c) = x4 at *
  generalize wrap64 (b + c) = x1 at *
  generalize wrap64 (a + b) = x3 at *
  omega
theorem rd40 {l : List S38} {i : Nat} (h : i < l.length) : rd_T38 l (i : Int) = l[i] := by
  unfold rd_T38
  rw [Int.toNat_natCast, List.getD_eq_getElem?_getD, List.getElem?_eq_getElem h, Option.getD_some]
theorem step40 {l : List S38} {i : Nat} (h : i < l.length) : l.drop i = rd_T38 l (i : Int) :: l.drop (i + 1) := by
  rw [rd40 h]
  exact List.drop_eq_getElem_cons h
theorem end40 {l : List S38} {i : Nat} (h : i + 0 = l.length) : l.drop i = [] := List.drop_eq_nil_of_le (by omega)
theorem inc {i n : Nat} (h : i < n) (hn : n ≤ 4000000000000) : wrap64 ((i : Int) + 1) = ((i + 1 : Nat) : Int) := by unfold wrap64; omega
/-- How many bytes an op makes. -/
def ln (o : S38) : Int := if (o.f2.length : Int) > 0 then (o.f2.length : Int) else mx o.f1 0
theorem mx0 (x : Int) : 0 ≤ mx x 0 ∧ x ≤ mx x 0 ∧ (mx x 0 = x ∨ mx x 0 = 0) := by unfold mx; split <;> omega
theorem ln_nonneg (o : S38) : 0 ≤ ln o := by
  unfold ln
  split
  · omega
  · exact (mx0 _).1
theorem told_d (o : S38) : delta_told.f o.f0 o.f1 o.f2 = some (decide ((o.f2.length : Int) > 0)) := rfl
theorem len_d (o : S38) : delta_length.f o.f0 o.f1 o.f2 = some (ln o) := by
  unfold delta_length.f delta_told.f ln
  by_cases h : (o.f2.length : Int) > 0
  · rw [Option.bind_some, decide_eq_true h, if_pos rfl, if_pos h]
  · rw [Option.bind_some, decide_eq_false h, if_neg (by decide), if_neg h]
/-- What is wrong with an op over a basis. -/
def oneF (b : Int) (o : S38) : Int := if (o.f2.length : Int) > 0 then (if o.f0 = 0 then (if o.f1 = 0 then 0 else 2) else 2) else if o.f0 < 0 then 2 else if o.f1 < 1 then 2 else if o.f0 > b then 3 else if o.f1 > wrap64 (b - o.f0) then 3 else 0
theorem one_d {k : Nat} (hk : 0 < k) (o : S38) (b : Int) : delta_one.f k o.f0 o.f1 o.f2 b = some (oneF b o) := by
  obtain ⟨k, rfl⟩ : ∃ m, k = m + 1 := ⟨k - 1, by omega⟩
  unfold delta_one.f oneF
  rw [told_d, Option.bind_some]
  by_cases h : (o.f2.length : Int) > 0
  · rw [decide_eq_true h, if_pos rfl, if_pos h]
    (repeat' split) <;> rfl
  · rw [decide_eq_false h, if_neg (by decide), if_neg h]
    by_cases h0 : o.f0 < 0
    · rw [if_pos h0, if_pos h0]
      simp only [delta_one.j0]
      rw [if_pos trivial]
    · rw [if_neg h0, if_neg h0]
      simp only [delta_one.j0]
      by_cases h1 : o.f1 < 1
      · rw [decide_eq_true h1, if_pos rfl, if_pos h1]
      · rw [decide_eq_false h1, if_neg (by decide), if_neg h1]
        (repeat' split) <;> rfl
/-- The first that is wrong with ops over a basis. -/
def chkL (b : Int) : List S38 → Int
  | [] => 0
  | o :: l => if oneF b o = 0 then chkL b l else oneF b o
/-- How many bytes ops make, behind n, as the machine counts. -/
def sizeL : Int → List S38 → Int
  | n, [] => n
  | n, o :: l => sizeL (wrap64 (n + ln o)) l
def endF (len : Int) (n : Int) : Int := if len > 8192 then 7 else if n > 65536 then 7 else 0
def resF (b len n : Int) (l : List S38) : Int := if chkL b l = 0 then endF len n else chkL b l
theorem res_yes {b len n : Int} {o : S38} {l : List S38} (h : oneF b o = 0) : resF b len n (o :: l) = resF b len n l := by
  have e : chkL b (o :: l) = chkL b l := by rw [chkL, if_pos h]
  unfold resF
  rw [e]
theorem res_no {b len n : Int} {o : S38} {l : List S38} (h : ¬ oneF b o = 0) : resF b len n (o :: l) = oneF b o := by
  have e : chkL b (o :: l) = oneF b o := by rw [chkL, if_neg h]
  unfold resF
  rw [e, if_neg h]
theorem end_if (len n : Int) : (if len > 8192 then some 7 else if n > 65536 then some 7 else some 0 : Option Int) = some (endF len n) := by
  unfold endF
  by_cases h : len > 8192
  · rw [if_pos h, if_pos h]
  · rw [if_neg h, if_neg h]
    by_cases h : n > 65536
    · rw [if_pos h, if_pos h]
    · rw [if_neg h, if_neg h]
def chkF (b : Int) (l : List S38) : Int := if b < 0 then 2 else if b > 131072 then 2 else resF b (l.length : Int) (sizeL 0 l) l
theorem check_loop (b : Int) (l : List S38) (hn : l.length ≤ 4000000000000) : ∀ (d k i : Nat) (n : Int), i + d = l.length → d + 1 < k → delta_Check.l0 k l b n l (l.length : Int) (i : Int) = some (resF b (l.length : Int) (sizeL n (l.drop i)) (l.drop i)) := by
  intro d
  induction d with
  | zero =>
    intro k i n hi hk
    obtain ⟨k, rfl⟩ : ∃ m, k = m + 1 := ⟨k - 1, by omega⟩
    simp only [delta_Check.l0]
    rw [if_neg (by omega), end40 hi, end_if]
    rfl
  | succ d ih =>
    intro k i n hi hk
    obtain ⟨k, rfl⟩ : ∃ m, k = m + 1 := ⟨k - 1, by omega⟩
    have hlt : i < l.length := by omega
    simp only [delta_Check.l0]
    rw [if_pos (by omega), if_pos (by omega), if_pos (by omega), one_d (by omega), Option.bind_some, step40 hlt, inc hlt hn, len_d]
    by_cases h : oneF b (rd_T38 l (i : Int)) = 0
    · rw [if_pos h, Option.bind_some, res_yes h]
      exact ih k (i + 1) _ (by omega) (by omega)
    · rw [if_neg h, res_no h]
theorem check_d (b : Int) (l : List S38) (hn : l.length ≤ 4000000000000) {k : Nat} (hk : l.length + 2 < k) : delta_Check.f k l b = some (chkF b l) := by
  obtain ⟨k, rfl⟩ : ∃ m, k = m + 1 := ⟨k - 1, by omega⟩
  unfold delta_Check.f chkF
  by_cases h0 : b < 0
  · rw [if_pos h0, if_pos h0]
    simp only [delta_Check.j0]
    rw [if_pos trivial]
  · rw [if_neg h0, if_neg h0]
    simp only [delta_Check.j0]
    by_cases h1 : b > 131072
    · rw [decide_eq_true h1, if_pos rfl, if_pos h1]
    · rw [decide_eq_false h1, if_neg (by decide), if_neg h1]
      have := check_loop b l hn l.length k 0 0 (by omega) (by omega)
      rw [List.drop_zero] at this
      exact this
/-- Few ops, of few bytes. -/
def sml (l : List S38) : Prop := (∀ o ∈ l, o.f2.length ≤ 400) ∧ l.length ≤ 60
theorem small_loop (l : List S38) (hn : l.length ≤ 4000000000000) : ∀ (d k i : Nat), i + d = l.length → d < k → ∃ t, remoraref08_Small.l0 k l (i : Int) = some t ∧ (t = true → (∀ o ∈ l.drop i, o.f2.length ≤ 400) ∧ l.length ≤ 60) ∧ ((∀ o ∈ l.drop i, o.f2.length ≤ 400) ∧ l.length ≤ 60 → t = true) := by
  intro d
  induction d with
  | zero =>
    intro k i hi hk
    obtain ⟨k, rfl⟩ : ∃ m, k = m + 1 := ⟨k - 1, by omega⟩
    simp only [remoraref08_Small.l0]
    rw [if_neg (by omega), end40 hi]
    exact ⟨_, rfl, fun h => ⟨fun o ho => (by cases ho), by have := of_decide_eq_true h; omega⟩, fun h => decide_eq_true (by omega)⟩
  | succ d ih =>
    intro k i hi hk
    obtain ⟨k, rfl⟩ : ∃ m, k = m + 1 := ⟨k - 1, by omega⟩
    have hlt : i < l.length := by omega
    simp only [remoraref08_Small.l0]
    rw [if_pos (by omega), if_pos (by omega), step40 hlt, inc hlt hn]
    by_cases h : ((rd_T38 l (i : Int)).f2.length : Int) > 400
    · rw [if_pos h]
      refine ⟨_, rfl, fun h => (by cases h), fun h2 => ?_⟩
      have := h2.1 _ List.mem_cons_self
      omega
    · rw [if_neg h]
      obtain ⟨t, h1, h2, h3⟩ := ih k (i + 1) (by omega) (by omega)
      refine ⟨t, h1, fun ht => ⟨fun o ho => ?_, (h2 ht).2⟩, fun h4 => h3 ⟨fun o ho => h4.1 o (List.mem_cons_of_mem _ ho), h4.2⟩⟩
      rcases List.mem_cons.1 ho with rfl | ho
      · omega
      · exact (h2 ht).1 o ho
theorem small_of (l : List S38) (hn : l.length ≤ 4000000000000) {k : Nat} (hk : l.length < k) : ∃ t, remoraref08_Small.f k l = some t ∧ (t = true → sml l) := by
  obtain ⟨t, h1, h2, h3⟩ := small_loop l hn l.length k 0 (by omega) (by omega)
  rw [List.drop_zero] at h2
  exact ⟨t, h1, h2⟩
theorem few {l : List S38} (h : l.length * 40 ≤ 140737488351232) : l.length ≤ 4000000000000 := by omega
theorem len_r (o : S38) : remoraref08_Length.f o.f0 o.f1 o.f2 = some (ln o) := by
  unfold remoraref08_Length.f ln
  split <;> rfl
theorem rsize_loop (l : List S38) (hn : l.length ≤ 4000000000000) : ∀ (d k i : Nat) (n : Int), i + d = l.length → d < k → remoraref08_Size.l0 k l n (i : Int) = some (sizeL n (l.drop i)) := by
  intro d
  induction d with
  | zero =>
    intro k i n hi hk
    obtain ⟨k, rfl⟩ : ∃ m, k = m + 1 := ⟨k - 1, by omega⟩
    simp only [remoraref08_Size.l0]
    rw [if_neg (by omega), end40 hi]
    rfl
  | succ d ih =>
    intro k i n hi hk
    obtain ⟨k, rfl⟩ : ∃ m, k = m + 1 := ⟨k - 1, by omega⟩
    have hlt : i < l.length := by omega
    simp only [remoraref08_Size.l0]
    rw [if_pos (by omega), if_pos (by omega), len_r, Option.bind_some, step40 hlt, inc hlt hn]
    exact ih k (i + 1) _ (by omega) (by omega)
theorem size_r (l : List S38) (hn : l.length ≤ 4000000000000) {k : Nat} (hk : l.length < k) : remoraref08_Size.f k l = some (sizeL 0 l) := by
  have := rsize_loop l hn l.length k 0 0 (by omega) (by omega)
  rw [List.drop_zero] at this
  exact this
theorem right_r (b : Int) (o : S38) (K : Option Int) : ((remoraref08_Right.f o.f0 o.f1 o.f2).bind fun t => (if t = true then (if (o.f2.length : Int) = 0 then (if o.f0 > b then (some 3) else (if o.f1 > (wrap64 (b - o.f0)) then (some 3) else K)) else K) else (some 2))) = if oneF b o = 0 then K else some (oneF b o) := by
  unfold remoraref08_Right.f oneF
  by_cases h : (o.f2.length : Int) > 0
  · rw [if_pos h, if_pos h]
    by_cases h0 : o.f0 = 0
    · rw [if_pos h0, if_pos h0, Option.bind_some]
      by_cases h1 : o.f1 = 0
      · rw [if_pos h1, if_pos (by rw [h1]; rfl), if_neg (by omega), if_pos rfl]
      · rw [if_neg h1, if_neg (by simpa using h1), if_neg (by decide)]
    · rw [if_neg h0, if_neg h0, Option.bind_some, if_neg (by decide), if_neg (by decide)]
  · rw [if_neg h, if_neg h]
    by_cases h0 : o.f0 < 0
    · rw [if_pos h0, if_neg (by omega), Option.bind_some, if_neg (by decide), if_neg (by decide)]
    · rw [if_neg h0, if_pos (by omega), Option.bind_some]
      by_cases h1 : o.f1 < 1
      · rw [if_pos h1, decide_eq_false (by omega), if_neg (by decide), if_neg (by decide)]
      · rw [if_neg h1, decide_eq_true (by omega), if_pos rfl, if_pos (by omega)]
        by_cases h2 : o.f0 > b
        · rw [if_pos h2, if_pos h2, if_neg (by decide)]
        · rw [if_neg h2, if_neg h2]
          by_cases h3 : o.f1 > wrap64 (b - o.f0)
          · rw [if_pos h3, if_pos h3, if_neg (by decide)]
          · rw [if_neg h3, if_neg h3, if_pos rfl]
theorem rcheck_loop (b : Int) (l : List S38) (hn : l.length ≤ 4000000000000) : ∀ (d k i : Nat), i + d = l.length → d + l.length + 1 < k → remoraref08_Check.l0 k l b (i : Int) = some (resF b (l.length : Int) (sizeL 0 l) (l.drop i)) := by
  intro d
  induction d with
  | zero =>
    intro k i hi hk
    obtain ⟨k, rfl⟩ : ∃ m, k = m + 1 := ⟨k - 1, by omega⟩
    simp only [remoraref08_Check.l0]
    rw [if_neg (by omega), end40 hi, size_r l hn (by omega), Option.bind_some, end_if]
    rfl
  | succ d ih =>
    intro k i hi hk
    obtain ⟨k, rfl⟩ : ∃ m, k = m + 1 := ⟨k - 1, by omega⟩
    have hlt : i < l.length := by omega
    simp only [remoraref08_Check.l0]
    rw [if_pos (by omega), if_pos (by omega), right_r, step40 hlt, inc hlt hn]
    by_cases h : oneF b (rd_T38 l (i : Int)) = 0
    · rw [if_pos h, res_yes h]
      exact ih k (i + 1) (by omega) (by omega)
    · rw [if_neg h, res_no h]
theorem check_r (b : Int) (l : List S38) (hn : l.length ≤ 4000000000000) {k : Nat} (hk : 2 * l.length + 2 < k) : remoraref08_Check.f k l b = some (chkF b l) := by
  obtain ⟨k, rfl⟩ : ∃ m, k = m + 1 := ⟨k - 1, by omega⟩
  unfold remoraref08_Check.f chkF
  by_cases h0 : b < 0
  · rw [if_pos h0, if_pos h0]
    simp only [remoraref08_Check.j0]
    rw [if_pos trivial]
  · rw [if_neg h0, if_neg h0]
    simp only [remoraref08_Check.j0]
    by_cases h1 : b > 131072
    · rw [decide_eq_true h1, if_pos rfl, if_pos h1]
    · rw [decide_eq_false h1, if_neg (by decide), if_neg h1]
      have := rcheck_loop b l hn l.length k 0 (by omega) (by omega)
      rw [List.drop_zero] at this
      exact this
/-- The bytes of a number: seven bits each, the lowest first. -/
def nb (n : Nat) : List Int := if n < 128 then [(n : Int)] else ((128 + n % 128 : Nat) : Int) :: nb (n / 128)
termination_by n
decreasing_by omega
theorem nb_small {n : Nat} (h : n < 128) : nb n = [(n : Int)] := by rw [nb, if_pos h]
theorem nb_more {n : Nat} (h : ¬ n < 128) : nb n = ((128 + n % 128 : Nat) : Int) :: nb (n / 128) := by rw [nb, if_neg h]
theorem nb_pos (n : Nat) : 1 ≤ (nb n).length := by
  by_cases h : n < 128
  · rw [nb_small h]; exact Nat.le_refl _
  · rw [nb_more h]; simp
theorem nb_len (m : Nat) : ∀ n : Nat, n < 128 ^ m → 0 < m → (nb n).length ≤ m := by
  induction m with
  | zero => intro n h h0; omega
  | succ m ih =>
    intro n h _
    by_cases hs : n < 128
    · rw [nb_small hs]; simp
    · rw [nb_more hs, List.length_cons]
      have hm : 0 < m := by
        rcases Nat.eq_zero_or_pos m with rfl | hm
        · simp at h; omega
        · exact hm
      have := ih (n / 128) (by rw [Nat.div_lt_iff_lt_mul (by decide), ← Nat.pow_succ]; exact h) hm
      omega
theorem nb_nine {n : Nat} (h : n ≤ 4611686018427387903) : (nb n).length ≤ 9 := nb_len 9 n (by omega) (by decide)
theorem nb_bytes (n : Nat) : ∀ x ∈ nb n, 0 ≤ x ∧ x ≤ 255 := by
  induction n using Nat.strongRecOn with
  | _ n ih =>
    by_cases h : n < 128
    · rw [nb_small h]; intro x hx; obtain rfl := List.mem_singleton.1 hx; omega
    · rw [nb_more h]
      intro x hx
      rcases List.mem_cons.1 hx with rfl | hx
      · omega
      · exact ih (n / 128) (by omega) x hx
/-- A number within what may be put. -/
def cl (a : Int) : Nat := (mn (mx a 0) 4611686018427387903).toNat
theorem cl_le (a : Int) : cl a ≤ 4611686018427387903 := by unfold cl mn mx; split <;> split <;> omega
theorem cl_eq (a : Int) : mn (mx a 0) 4611686018427387903 = (cl a : Int) := by unfold cl mn mx; split <;> split <;> omega
theorem cl_of {a : Int} (h0 : 0 ≤ a) (h : a ≤ 4611686018427387903) : (cl a : Int) = a := by unfold cl mn mx; split <;> split <;> omega
theorem ev_pos {α : Type} {c : Prop} [Decidable c] (h : c) {f g : Nat → Option α} {r : α} (k : Ev f r) : Ev (fun k => if c then f k else g k) r := Ev.congr (fun _ => if_pos h) k
theorem ev_neg {α : Type} {c : Prop} [Decidable c] (h : ¬ c) {f g : Nat → Option α} {r : α} (k : Ev g r) : Ev (fun k => if c then f k else g k) r := Ev.congr (fun _ => if_neg h) k
theorem ev_some {α : Type} {o : Option α} {r : α} (h : o = some r) : Ev (fun _ => o) r := by subst h; exact Ev.now _
theorem size_loop (d : Nat) : ∀ (n : Nat) (s : Int), (nb n).length ≤ d → n ≤ 4611686018427387903 → 0 ≤ s → s + (d : Int) ≤ 1000 → Ev (fun k => num_Size.l0 k n s) (s + ((nb n).length : Int) - 1) := by
  induction d with
  | zero => intro n s h; have := nb_pos n; omega
  | succ d ih =>
    intro n s h hn h0 h1
    by_cases hs : n < 128
    · refine Ev.step (f := fun _ => some s) (fun k => ?_) ?_
      · simp only [num_Size.l0]; rw [if_neg (by omega)]
      · rw [nb_small hs]
        have e : s + (([(n : Int)] : List Int).length : Int) - 1 = s := by simp
        rw [e]; exact Ev.now _
    · have e1 : wrap64 (s + 1) = s + 1 := by unfold wrap64; omega
      have hl : (nb n).length = (nb (n / 128)).length + 1 := by rw [nb_more hs, List.length_cons]
      refine Ev.step (f := fun k => num_Size.l0 k ((n / 128 : Nat) : Int) (s + 1)) (fun k => ?_) ?_
      · simp only [num_Size.l0]; rw [if_pos (by omega), e1]; rfl
      · have := ih (n / 128) (s + 1) (by omega) (by omega) (by omega) (by omega)
        rw [hl]
        rw [show s + (((nb (n / 128)).length + 1 : Nat) : Int) - 1 = s + 1 + ((nb (n / 128)).length : Int) - 1 by omega]
        exact this
theorem size_of (a : Int) : Ev (fun k => num_Size.f k (mn (mx a 0) 4611686018427387903)) ((nb (cl a)).length : Int) := by
  unfold num_Size.f
  have e : mn (mx (cl a : Int) 0) 4611686018427387903 = (cl a : Int) := by have := cl_le a; unfold mn mx; split <;> split <;> omega
  rw [cl_eq a, e]
  have := size_loop (nb (cl a)).length (cl a) 1 (Nat.le_refl _) (cl_le a) (by decide) (by have := nb_nine (cl_le a); omega)
  rwa [show (1 : Int) + ((nb (cl a)).length : Int) - 1 = ((nb (cl a)).length : Int) by omega] at this
theorem wrap62 (n : Int) (h0 : 0 ≤ n) (h1 : n < 2 ^ 62) : IntKind.i64.wrap n = n := by rw [IntKind.wrap_i64]; omega
theorem low7 {n : Nat} (h : n ≤ 4611686018427387903) : (Go.bits .or .i64 (Go.bits .and .i64 (n : Int) 127) 128) % 256 = ((128 + n % 128 : Nat) : Int) := by
  have h1 : Go.bits .and .i64 (n : Int) 127 = (n : Int) % 128 := bits_mask .i64 62 (by decide) wrap62 7 (by decide) n (by omega) (by omega)
  have e : (n : Int) % 128 = ((n % 128 : Nat) : Int) := by omega
  have h2 := (bits_nat .i64 62 (by decide) wrap62 (n % 128) 128 (by omega) (by decide)).2
  have h3 : n % 128 ||| 128 = 128 + n % 128 := by
    rw [Nat.or_comm]
    have := Nat.two_pow_add_eq_or_of_lt (i := 7) (b := n % 128) (by omega) 1
    rw [Nat.mul_one] at this
    exact this.symm
  rw [h1, e, show (128 : Int) = ((128 : Nat) : Int) from rfl, h2, h3]
  omega
theorem putN_loop (m : Nat) (hm : m ≤ 9) (d : Nat) : ∀ (i n : Nat) (l : List Int), (nb n).length = d + 1 → i + d = m → n ≤ 4611686018427387903 → l.length ≤ 2000000000 + i → Ev (fun k => num_Put.l0 k n l (m : Int) (i : Int)) (l ++ nb n) := by
  induction d with
  | zero =>
    intro i n l hd hi hn hl
    have hs : n < 128 := by
      by_cases hs : n < 128
      · exact hs
      · rw [nb_more hs, List.length_cons] at hd
        have := nb_pos (n / 128)
        omega
    rw [nb_small hs]
    refine Ev.step (f := fun _ => some (l ++ [(n : Int)])) (fun k => ?_) (Ev.now _)
    simp only [num_Put.l0]
    rw [if_neg (by omega), if_pos (by omega), show (n : Int) % 256 = (n : Int) by omega]
  | succ d ih =>
    intro i n l hd hi hn hl
    have hs : ¬ n < 128 := by
      intro hs
      rw [nb_small hs] at hd
      simp at hd
    rw [nb_more hs] at hd ⊢
    have hd' : (nb (n / 128)).length = d + 1 := by rw [List.length_cons] at hd; omega
    have e1 : wrap64 ((i : Int) + 1) = ((i + 1 : Nat) : Int) := by unfold wrap64; omega
    refine Ev.step (f := fun k => num_Put.l0 k ((n / 128 : Nat) : Int) (l ++ [((128 + n % 128 : Nat) : Int)]) (m : Int) ((i + 1 : Nat) : Int)) (fun k => ?_) ?_
    · simp only [num_Put.l0]
      rw [if_pos (by omega), if_pos (by omega), low7 hn, e1]
      rfl
    · have := ih (i + 1) (n / 128) (l ++ [((128 + n % 128 : Nat) : Int)]) hd' (by omega) (by omega) (by rw [List.length_append]; simp; omega)
      rwa [List.append_assoc, List.singleton_append] at this
theorem put_of (l : List Int) (a : Int) (hl : l.length ≤ 2000000000) : Ev (fun k => num_Put.f k l a) (l ++ nb (cl a)) := by
  unfold num_Put.f
  refine Ev.bind (size_of a) ?_
  have h9 := nb_nine (cl_le a)
  have h1 := nb_pos (cl a)
  have e1 : wrap64 ((l.length : Int) + ((nb (cl a)).length : Int)) = (l.length : Int) + ((nb (cl a)).length : Int) := by unfold wrap64; omega
  have e2 : wrap64 (((nb (cl a)).length : Int) - 1) = (((nb (cl a)).length - 1 : Nat) : Int) := by unfold wrap64; omega
  rw [e1]
  refine ev_pos (by omega) (ev_pos (by omega) ?_)
  simp only [Option.bind_some, List.replicate_zero, List.nil_append, List.length_nil, Nat.zero_add]
  refine ev_pos (by omega) (Ev.bind (size_of a) ?_)
  rw [e2, cl_eq]
  exact putN_loop ((nb (cl a)).length - 1) (by omega) ((nb (cl a)).length - 1) 0 (cl a) l (by omega) (by omega) (cl_le a) (by omega)
theorem groups_loop (d : Nat) : ∀ (n : Nat) (l : List Int), (nb n).length ≤ d → n ≤ 4611686018427387903 → l.length + d ≤ 1000 → Ev (fun k => remoraref01_groups.l0 k n l) (l ++ nb n) := by
  induction d with
  | zero => intro n l h; have := nb_pos n; omega
  | succ d ih =>
    intro n l h hn hl
    by_cases hs : n < 128
    · rw [nb_small hs]
      refine Ev.step (f := fun _ => some (l ++ [(n : Int)])) (fun k => ?_) (Ev.now _)
      simp only [remoraref01_groups.l0]
      rw [if_neg (by omega), if_pos (by omega), show (n : Int) % 256 = (n : Int) by omega]
    · have hl' : (nb n).length = (nb (n / 128)).length + 1 := by rw [nb_more hs, List.length_cons]
      rw [nb_more hs]
      have e1 : wrap64 (Int.tdiv (n : Int) 128) = ((n / 128 : Nat) : Int) := by
        rw [Int.tdiv_eq_ediv_of_nonneg (by omega)]
        unfold wrap64
        omega
      have e2 : (wrap64 (128 + Int.tmod (n : Int) 128)) % 256 = ((128 + n % 128 : Nat) : Int) := by
        rw [Int.tmod_eq_emod_of_nonneg (by omega)]
        unfold wrap64
        omega
      refine Ev.step (f := fun k => remoraref01_groups.l0 k ((n / 128 : Nat) : Int) (l ++ [((128 + n % 128 : Nat) : Int)])) (fun k => ?_) ?_
      · simp only [remoraref01_groups.l0]
        rw [if_pos (by omega), if_pos (by omega), e1, e2]
      · have := ih (n / 128) (l ++ [((128 + n % 128 : Nat) : Int)]) (by omega) (by omega) (by rw [List.length_append]; simp; omega)
        rwa [List.append_assoc, List.singleton_append] at this
theorem held_of (a : Int) : remoraref01_held.f a 0 4611686018427387903 = some (cl a : Int) := by
  have e := cl_eq a
  have h0 : ∀ x y : Int, x = y → some x = some y := fun x y h => by rw [h]
  unfold remoraref01_held.f
  rw [← e]
  unfold mn mx
  (repeat' split) <;> first | omega | (exact h0 _ _ (by omega)) | rfl
theorem rput_of (l : List Int) (a : Int) (hl : l.length ≤ 2000000000) : Ev (fun k => remoraref01_Put.f k l a) (l ++ nb (cl a)) := by
  unfold remoraref01_Put.f
  rw [held_of]
  simp only [Option.bind_some]
  have hg : Ev (fun k => remoraref01_groups.f k (cl a : Int)) (nb (cl a)) := by
    unfold remoraref01_groups.f
    have := groups_loop 9 (cl a) [] (nb_nine (cl_le a)) (cl_le a) (by simp)
    rwa [List.nil_append] at this
  refine Ev.bind hg ?_
  refine ev_some ?_
  have h9 := nb_nine (cl_le a)
  unfold remoraref01_behind.f
  simp only [List.length_nil, Nat.zero_add, List.nil_append]
  rw [if_pos (by omega), Option.bind_some, if_pos (by omega), Option.bind_some]
def Bytes (l : List Int) : Prop := ∀ x ∈ l, 0 ≤ x ∧ x ≤ 255
/-- One bit falls out. -/
def st1 (x : Nat) : Nat := (x >>> 1) ^^^ (if x % 2 = 1 then 3988292384 else 0)
def stN : Nat → Nat → Nat
  | 0, x => x
  | d + 1, x => stN d (st1 x)
theorem st1_lt {x : Nat} (h : x < 4294967296) : st1 x < 4294967296 := by
  unfold st1
  have h1 : x >>> 1 < 2 ^ 32 := by rw [Nat.shiftRight_eq_div_pow]; omega
  refine Nat.xor_lt_two_pow h1 ?_
  split <;> decide
theorem stN_lt (d : Nat) : ∀ {x : Nat}, x < 4294967296 → stN d x < 4294967296 := by
  induction d with
  | zero => intro x h; exact h
  | succ d ih => intro x h; exact ih (st1_lt h)
theorem xor_lc (a b c : Nat) : a ^^^ (b ^^^ c) = b ^^^ (a ^^^ c) := by rw [← Nat.xor_assoc, Nat.xor_comm a b, Nat.xor_assoc]
theorem st1_xor (a b : Nat) : st1 (a ^^^ b) = st1 a ^^^ st1 b := by
  unfold st1
  rw [Nat.shiftRight_xor_distrib]
  have hm : (a ^^^ b) % 2 = (a % 2) ^^^ (b % 2) := by have := Nat.xor_mod_two_pow (a := a) (b := b) (n := 1); simpa using this
  rw [hm]
  rcases Nat.mod_two_eq_zero_or_one a with ha | ha <;> rcases Nat.mod_two_eq_zero_or_one b with hb | hb
  · rw [ha, hb]; simp
  · rw [ha, hb]; simp [Nat.xor_assoc]
  · rw [ha, hb]
    rw [if_pos (by decide), if_pos rfl, if_neg (by decide), Nat.xor_zero, Nat.xor_assoc, Nat.xor_assoc, Nat.xor_comm (b >>> 1)]
  · rw [ha, hb]
    rw [if_neg (by decide), if_pos rfl, Nat.xor_zero, Nat.xor_assoc, xor_lc 3988292384 (b >>> 1), Nat.xor_self, Nat.xor_zero]
theorem stN_xor (d : Nat) : ∀ a b : Nat, stN d (a ^^^ b) = stN d a ^^^ stN d b := by
  induction d with
  | zero => intro a b; rfl
  | succ d ih => intro a b; show stN d (st1 (a ^^^ b)) = _; rw [st1_xor, ih]; rfl
theorem st1_even (q : Nat) : st1 (2 * q) = q := by
  unfold st1
  rw [Nat.shiftRight_eq_div_pow, if_neg (by omega)]
  simp
theorem st4_high (q : Nat) : stN 4 (16 * q) = q := by
  show st1 (st1 (st1 (st1 (16 * q)))) = q
  rw [show 16 * q = 2 * (8 * q) by omega, st1_even, show 8 * q = 2 * (4 * q) by omega, st1_even, show 4 * q = 2 * (2 * q) by omega, st1_even, st1_even]
theorem st4_parts (x : Nat) : stN 4 x = (x / 16) ^^^ stN 4 (x % 16) := by
  have e : x = (16 * (x / 16)) ^^^ (x % 16) := by
    have h := Nat.two_pow_add_eq_or_of_lt (i := 4) (b := x % 16) (by omega) (x / 16)
    have hx : (16 * (x / 16)) ^^^ (x % 16) = 16 * (x / 16) ||| x % 16 := by
      apply Nat.eq_of_testBit_eq
      intro i
      rw [Nat.testBit_xor, Nat.testBit_or]
      by_cases hi : i < 4
      · have : (16 * (x / 16)).testBit i = false := by
          rw [show 16 * (x / 16) = 2 ^ 4 * (x / 16) by omega, Nat.testBit_two_pow_mul]
          simp; omega
        rw [this]; simp
      · have : (x % 16).testBit i = false := Nat.testBit_lt_two_pow (Nat.lt_of_lt_of_le (show x % 16 < 2 ^ 4 by omega) (Nat.pow_le_pow_right (by decide) (by omega)))
        rw [this]; simp
    rw [hx]
    have : (2 ^ 4 : Nat) * (x / 16) = 16 * (x / 16) := by omega
    rw [← this, ← h]
    omega
  conv => lhs; rw [e]
  rw [stN_xor, st4_high]
theorem tab_of : ∀ r : Nat, r < 16 → tab_table[r]? = some ((stN 4 r : Nat) : Int) := by decide
theorem xor_nat {a b : Nat} (ha : a < 4294967296) (hb : b < 4294967296) : Go.bits .xor .u32 (a : Int) (b : Int) = ((a ^^^ b : Nat) : Int) := by
  have h := Nat.xor_lt_two_pow (n := 32) ha hb
  unfold Go.bits
  simp only [BitVec.ofInt_natCast, BitVec.toNat_xor, BitVec.toNat_ofNat]
  rw [IntKind.wrap_u32, show IntKind.u32.bits = 32 from rfl, Nat.mod_eq_of_lt ha, Nat.mod_eq_of_lt hb]
  omega
theorem and15 {a : Nat} (ha : a < 4294967296) : Go.bits .and .u32 (a : Int) 15 = ((a % 16 : Nat) : Int) := by
  have := bits_mask .u32 32 (by decide) (fun n h0 h1 => by rw [IntKind.wrap_u32]; omega) 4 (by decide) (a : Int) (by omega) (by omega)
  rw [show (15 : Int) = 2 ^ 4 - 1 by decide, this]
  omega
theorem half_of {a : Nat} (ha : a < 4294967296) : crcHalf (a : Int) = ((stN 4 a : Nat) : Int) := by
  unfold crcHalf
  rw [and15 ha, Int.toNat_natCast, tab_of _ (Nat.mod_lt _ (by decide)), Option.getD_some, st4_parts a]
  rw [show (a : Int) / 16 = ((a / 16 : Nat) : Int) from rfl]
  exact xor_nat (by omega) (stN_lt 4 (by omega))
/-- The register behind a byte. -/
def cb (x c : Nat) : Nat := stN 8 (x ^^^ c)
theorem cb_lt {x c : Nat} (hx : x < 4294967296) (hc : c < 4294967296) : cb x c < 4294967296 := stN_lt 8 (Nat.xor_lt_two_pow (n := 32) hx hc)
theorem byte_of {x c : Nat} (hx : x < 4294967296) (hc : c < 4294967296) : crcByte (x : Int) (c : Int) = ((cb x c : Nat) : Int) := by
  unfold crcByte
  rw [show (c : Int) % 4294967296 = (c : Int) by omega, xor_nat hx hc]
  have h := Nat.xor_lt_two_pow (n := 32) hx hc
  rw [half_of h, half_of (stN_lt 4 h)]
  rfl
/-- The register behind bytes. -/
def cr (x : Nat) (l : List Int) : Nat := l.foldl (fun x c => cb x c.toNat) x
theorem cr_lt (l : List Int) (hl : Bytes l) : ∀ {x : Nat}, x < 4294967296 → cr x l < 4294967296 := by
  induction l with
  | nil => intro x hx; exact hx
  | cons c l ih =>
    intro x hx
    have := hl c List.mem_cons_self
    exact ih (fun y hy => hl y (List.mem_cons_of_mem _ hy)) (cb_lt hx (by omega))
theorem row_of (l : List Int) (hl : Bytes l) : ∀ {x : Nat}, x < 4294967296 → crcRow (x : Int) l = ((cr x l : Nat) : Int) := by
  induction l with
  | nil => intro x hx; rfl
  | cons c l ih =>
    intro x hx
    have hc := hl c List.mem_cons_self
    have e : c = ((c.toNat : Nat) : Int) := by omega
    show crcRow (crcByte (x : Int) c) l = _
    rw [e, byte_of hx (by omega)]
    exact ih (fun y hy => hl y (List.mem_cons_of_mem _ hy)) (cb_lt hx (by omega))
/-- A text's sum. -/
def cs (l : List Int) : Nat := 4294967295 - cr 4294967295 l
theorem cs_lt (l : List Int) : cs l < 4294967296 := by unfold cs; omega
theorem not_xor {a : Nat} (ha : a < 4294967296) : 4294967295 ^^^ a = 4294967295 - a := by
  have h1 : (BitVec.ofNat 32 a ^^^ BitVec.allOnes 32).toNat = (~~~ BitVec.ofNat 32 a).toNat := by rw [BitVec.xor_allOnes]
  rw [BitVec.toNat_xor, BitVec.toNat_not, BitVec.toNat_ofNat, BitVec.toNat_allOnes, Nat.mod_eq_of_lt ha] at h1
  rw [Nat.xor_comm]
  omega
theorem of_one (l : List Int) (hl : Bytes l) : crc_Of.f [l] = some ((cs l : Nat) : Int) := by
  unfold crc_Of.f cs
  show some (Go.bits .xor .u32 4294967295 (crcRow ((4294967295 : Nat) : Int) l)) = _
  have h := cr_lt l hl (x := 4294967295) (by decide)
  rw [row_of l hl (by decide), show (4294967295 : Int) = ((4294967295 : Nat) : Int) from rfl, xor_nat (by decide) h, not_xor h]
/-- A sum's bytes. -/
def sb (n : Nat) : List Int := [((n % 256 : Nat) : Int), ((n / 256 % 256 : Nat) : Int), ((n / 65536 % 256 : Nat) : Int), ((n / 16777216 : Nat) : Int)]
theorem seal4_of (l : List Int) (hl : Bytes l) : crc_seal.f l = some (((cs l % 256 : Nat) : Int), ((cs l / 256 % 256 : Nat) : Int), ((cs l / 65536 % 256 : Nat) : Int), ((cs l / 16777216 : Nat) : Int)) := by
  unfold crc_seal.f
  rw [of_one l hl]
  rfl
theorem shift_loop (d : Nat) : ∀ (i x : Nat), i + d = 8 → x < 4294967296 → Ev (fun k => remoraref02_Shift.l0 k (x : Int) 8 (i : Int)) ((stN d x : Nat) : Int) := by
  induction d with
  | zero =>
    intro i x hi hx
    refine Ev.step (f := fun _ => some (x : Int)) (fun k => ?_) (Ev.now _)
    simp only [remoraref02_Shift.l0]
    rw [if_neg (by omega)]
  | succ d ih =>
    intro i x hi hx
    have e1 : wrap64 ((i : Int) + 1) = ((i + 1 : Nat) : Int) := by unfold wrap64; omega
    have e2 : (Int.tdiv (x : Int) 2) % (4294967296 : Int) = ((x >>> 1 : Nat) : Int) := by
      rw [Int.tdiv_eq_ediv_of_nonneg (by omega), Nat.shiftRight_eq_div_pow]
      omega
    have h1 : x >>> 1 < 4294967296 := by rw [Nat.shiftRight_eq_div_pow]; omega
    refine Ev.step (f := fun k => remoraref02_Shift.l0 k ((st1 x : Nat) : Int) 8 ((i + 1 : Nat) : Int)) (fun k => ?_) (ih (i + 1) (st1 x) (by omega) (st1_lt hx))
    simp only [remoraref02_Shift.l0]
    rw [if_pos (by omega), e1, e2, Int.tmod_eq_emod_of_nonneg (by omega)]
    unfold st1
    by_cases h : x % 2 = 1
    · rw [if_pos (by omega), if_pos h, show (3988292384 : Int) = ((3988292384 : Nat) : Int) from rfl, xor_nat h1 (by decide)]
    · rw [if_neg (by omega), if_neg h, Nat.xor_zero]
theorem shift_of {x : Nat} (hx : x < 4294967296) : Ev (fun k => remoraref02_Shift.f k (x : Int) 8) ((stN 8 x : Nat) : Int) := shift_loop 8 0 x rfl hx
theorem seal_of (l : List Int) (hl : Bytes l) (hn : l.length ≤ 1000000000) : crc_Seal.f l = some (l ++ sb (cs l)) := by
  unfold crc_Seal.f
  rw [seal4_of l hl, Option.bind_some, if_pos hn]
  rfl
theorem rof_inner (l : List Int) (hl : Bytes l) (hn : l.length ≤ 9000000000000000000) (d : Nat) : ∀ (i x : Nat), i + d = l.length → x < 4294967296 →
    Ev (fun k => remoraref02_Of.l1 k [l] (x : Int) 0 (i : Int)) ((4294967295 - cr x (l.drop i) : Nat) : Int) := by
  have hrow : rd_L2 [l] 0 = l := rfl
  induction d with
  | zero =>
    intro i x hi hx
    have e1 : wrap64 (0 + 1) = 1 := by unfold wrap64; decide
    refine Ev.step (f := fun k => remoraref02_Of.l0 k [l] (x : Int) 1) (fun k => ?_) ?_
    · simp only [remoraref02_Of.l1]
      rw [hrow, if_pos (by decide), if_pos (by simp), if_neg (by omega), e1]
    · rw [List.drop_eq_nil_of_le (by omega)]
      refine Ev.step (f := fun _ => some (((4294967295 - x : Nat) : Nat) : Int)) (fun k => ?_) (Ev.now _)
      simp only [remoraref02_Of.l0]
      rw [if_neg (by simp)]
      congr 1
      omega
  | succ d ih =>
    intro i x hi hx
    have hlt : i < l.length := by omega
    have e1 : wrap64 ((i : Int) + 1) = ((i + 1 : Nat) : Int) := by unfold wrap64; omega
    have hc := hl _ (List.getElem_mem hlt)
    have hrd : rd l (i : Int) = l[i] := by unfold rd; rw [Int.toNat_natCast, List.getD_eq_getElem?_getD, List.getElem?_eq_getElem hlt, Option.getD_some]
    have hx2 : x ^^^ l[i].toNat < 4294967296 := Nat.xor_lt_two_pow (n := 32) hx (by omega)
    refine Ev.step (f := fun k => (remoraref02_Shift.f k ((x ^^^ l[i].toNat : Nat) : Int) 8).bind fun t => remoraref02_Of.l1 k [l] t 0 ((i + 1 : Nat) : Int)) (fun k => ?_) ?_
    · simp only [remoraref02_Of.l1]
      rw [hrow, if_pos (by decide), if_pos (by simp), if_pos (by omega), if_pos (by omega), e1, hrd]
      have e3 : l[i] % 4294967296 = ((l[i].toNat : Nat) : Int) := by omega
      rw [e3, xor_nat hx (by omega)]
    · refine Ev.bind (shift_of hx2) ?_
      have := ih (i + 1) (cb x l[i].toNat) (by omega) (cb_lt hx (by omega))
      rw [List.drop_eq_getElem_cons hlt]
      exact this
theorem rof_one (l : List Int) (hl : Bytes l) (hn : l.length ≤ 9000000000000000000) : Ev (fun k => remoraref02_Of.f k [l]) ((cs l : Nat) : Int) := by
  unfold remoraref02_Of.f
  refine Ev.step (f := fun k => remoraref02_Of.l1 k [l] ((4294967295 : Nat) : Int) 0 ((0 : Nat) : Int)) (fun k => ?_) ?_
  · simp only [remoraref02_Of.l0]
    rw [if_pos (by simp)]
    rfl
  · exact rof_inner l hl hn l.length 0 4294967295 (by omega) (by decide)
theorem rseal_of (l : List Int) (hl : Bytes l) (hn : l.length ≤ 1000000000) : Ev (fun k => remoraref02_Seal.f k l) (l ++ sb (cs l)) := by
  unfold remoraref02_Seal.f
  refine Ev.bind (rof_one l hl (by omega)) ?_
  simp only [Option.bind_some, List.length_nil, Nat.zero_add, List.nil_append]
  refine ev_pos (by omega) ?_
  have h := cs_lt l
  unfold sb
  generalize cs l = n at h ⊢
  have q : ∀ m : Nat, m < 4294967296 → (Int.tdiv (m : Int) 256) % (4294967296 : Int) = ((m / 256 : Nat) : Int) ∧ (Int.tmod (m : Int) 256) % 256 = ((m % 256 : Nat) : Int) := fun m hm => by
    rw [Int.tdiv_eq_ediv_of_nonneg (by omega), Int.tmod_eq_emod_of_nonneg (by omega)]
    omega
  have w0 : wrap64 (0 + 1) = 1 := by unfold wrap64; decide
  have w1 : wrap64 (1 + 1) = 2 := by unfold wrap64; decide
  have w2 : wrap64 (2 + 1) = 3 := by unfold wrap64; decide
  have w3 : wrap64 (3 + 1) = 4 := by unfold wrap64; decide
  refine Ev.step (f := fun k => remoraref02_Seal.l0 k ((n / 256 : Nat) : Int) (l ++ [((n % 256 : Nat) : Int)]) 1) (fun k => ?_) ?_
  · simp only [remoraref02_Seal.l0]
    rw [if_pos (by decide), if_pos (by omega), (q n h).1, (q n h).2, w0]
  refine Ev.step (f := fun k => remoraref02_Seal.l0 k ((n / 256 / 256 : Nat) : Int) (l ++ [((n % 256 : Nat) : Int)] ++ [((n / 256 % 256 : Nat) : Int)]) 2) (fun k => ?_) ?_
  · simp only [remoraref02_Seal.l0]
    rw [if_pos (by decide), if_pos (by simp; omega), (q (n / 256) (by omega)).1, (q (n / 256) (by omega)).2, w1]
  refine Ev.step (f := fun k => remoraref02_Seal.l0 k ((n / 256 / 256 / 256 : Nat) : Int) (l ++ [((n % 256 : Nat) : Int)] ++ [((n / 256 % 256 : Nat) : Int)] ++ [((n / 256 / 256 % 256 : Nat) : Int)]) 3) (fun k => ?_) ?_
  · simp only [remoraref02_Seal.l0]
    rw [if_pos (by decide), if_pos (by simp; omega), (q (n / 256 / 256) (by omega)).1, (q (n / 256 / 256) (by omega)).2, w2]
  refine Ev.step (f := fun k => remoraref02_Seal.l0 k ((n / 256 / 256 / 256 / 256 : Nat) : Int) (l ++ [((n % 256 : Nat) : Int)] ++ [((n / 256 % 256 : Nat) : Int)] ++ [((n / 256 / 256 % 256 : Nat) : Int)] ++ [((n / 256 / 256 / 256 % 256 : Nat) : Int)]) 4) (fun k => ?_) ?_
  · simp only [remoraref02_Seal.l0]
    rw [if_pos (by decide), if_pos (by simp; omega), (q (n / 256 / 256 / 256) (by omega)).1, (q (n / 256 / 256 / 256) (by omega)).2, w3]
  refine Ev.step (f := fun _ => some (l ++ [((n % 256 : Nat) : Int)] ++ [((n / 256 % 256 : Nat) : Int)] ++ [((n / 256 / 256 % 256 : Nat) : Int)] ++ [((n / 256 / 256 / 256 % 256 : Nat) : Int)])) (fun k => ?_) ?_
  · simp only [remoraref02_Seal.l0]
    rw [if_neg (by decide)]
  · refine ev_some ?_
    rw [Nat.div_div_eq_div_mul, Nat.div_div_eq_div_mul, show n / (256 * 256 * 256) % 256 = n / 16777216 by omega]
    simp
/-- An op's bytes. -/
def opB (o : S38) : List Int := if (o.f2.length : Int) > 0 then nb (cl (wrap64 (wrap64 (2 * (o.f2.length : Int)) + 1))) ++ o.f2 else nb (cl (wrap64 (2 * o.f1))) ++ nb (cl o.f0)
def opsB : List S38 → List Int
  | [] => []
  | o :: l => opB o ++ opsB l
def okB (l : List S38) : Prop := ∀ o ∈ l, Bytes o.f2
theorem nb_b (n : Nat) : Bytes (nb n) := nb_bytes n
theorem bytes_app {a b : List Int} (ha : Bytes a) (hb : Bytes b) : Bytes (a ++ b) := fun x hx => by
  rcases List.mem_append.1 hx with h | h
  · exact ha x h
  · exact hb x h
theorem opB_b {o : S38} (h : Bytes o.f2) : Bytes (opB o) := by
  unfold opB
  split
  · exact bytes_app (nb_b _) h
  · exact bytes_app (nb_b _) (nb_b _)
theorem opB_len {o : S38} (h : o.f2.length ≤ 400) : (opB o).length ≤ 418 := by
  unfold opB
  have h1 := nb_nine (cl_le (wrap64 (wrap64 (2 * (o.f2.length : Int)) + 1)))
  have h2 := nb_nine (cl_le (wrap64 (2 * o.f1)))
  have h3 := nb_nine (cl_le o.f0)
  split <;> rw [List.length_append] <;> omega
theorem bytes_loop (l : List S38) (hn : l.length ≤ 60) (hs : ∀ o ∈ l, o.f2.length ≤ 400) (hb : okB l) (d : Nat) : ∀ (i : Nat) (x : List Int), i + d = l.length → Bytes x → x.length ≤ 20 + 1000 * i →
    Ev (fun k => delta_Bytes.l0 k x l (l.length : Int) (i : Int)) (x ++ opsB (l.drop i) ++ sb (cs (x ++ opsB (l.drop i))), 0) := by
  induction d with
  | zero =>
    intro i x hi hx hl
    refine Ev.step (f := fun _ => (crc_Seal.f x).bind fun t => some (t, 0)) (fun k => ?_) ?_
    · simp only [delta_Bytes.l0]
      rw [if_neg (by omega)]
    · rw [end40 hi]
      unfold opsB
      rw [List.append_nil, seal_of x hx (by omega)]
      exact ev_some rfl
  | succ d ih =>
    intro i x hi hx hl
    have hlt : i < l.length := by omega
    have hm : rd_T38 l (i : Int) ∈ l := by rw [rd40 hlt]; exact List.getElem_mem hlt
    have h4 := hs _ hm
    have hb4 := hb _ hm
    rw [step40 hlt]
    generalize ho : rd_T38 l (i : Int) = o at h4 hb4 hm ⊢
    have hnext := ih (i + 1) (x ++ opB o) (by omega) (bytes_app hx (opB_b hb4)) (by rw [List.length_append]; have := opB_len h4; omega)
    rw [show x ++ opB o ++ opsB (l.drop (i + 1)) = x ++ opsB (o :: l.drop (i + 1)) by rw [List.append_assoc]; rfl] at hnext
    have hw := inc hlt (by omega)
    by_cases h : (o.f2.length : Int) > 0
    · refine Ev.step (f := fun k => (num_Put.f k x (wrap64 (wrap64 (2 * (o.f2.length : Int)) + 1))).bind fun t => if t.length + o.f2.length < 140737488355328 then delta_Bytes.l0 k (t ++ o.f2) l (l.length : Int) ((i + 1 : Nat) : Int) else none) (fun k => ?_) ?_
      · simp only [delta_Bytes.l0]
        rw [ho, if_pos (by omega), if_pos (by omega), if_pos (by omega), told_d, Option.bind_some, decide_eq_true h, if_pos rfl, hw]
      · have h9 := nb_nine (cl_le (wrap64 (wrap64 (2 * (o.f2.length : Int)) + 1)))
        refine Ev.bind (put_of x _ (by omega)) (ev_pos (by rw [List.length_append]; omega) ?_)
        rw [List.append_assoc]
        have e : opB o = nb (cl (wrap64 (wrap64 (2 * (o.f2.length : Int)) + 1))) ++ o.f2 := by unfold opB; rw [if_pos h]
        rw [← e]
        exact hnext
    · refine Ev.step (f := fun k => (num_Put.f k x (wrap64 (2 * o.f1))).bind fun t => (num_Put.f k t o.f0).bind fun u => delta_Bytes.l0 k u l (l.length : Int) ((i + 1 : Nat) : Int)) (fun k => ?_) ?_
      · simp only [delta_Bytes.l0]
        rw [ho, if_pos (by omega), if_pos (by omega), if_pos (by omega), told_d, Option.bind_some, decide_eq_false h, if_neg (by decide), hw]
      · have h9 := nb_nine (cl_le (wrap64 (2 * o.f1)))
        refine Ev.bind (put_of x _ (by omega)) (Ev.bind (put_of _ _ (by rw [List.length_append]; omega)) ?_)
        rw [List.append_assoc]
        have e : opB o = nb (cl (wrap64 (2 * o.f1))) ++ nb (cl o.f0) := by unfold opB; rw [if_neg h]
        rw [← e]
        exact hnext
/-- What ops are as bytes, or why they are not. -/
def bytesF (l : List S38) : List Int × Int := if chkF 131072 l = 0 then (nb (cl (l.length : Int)) ++ opsB l ++ sb (cs (nb (cl (l.length : Int)) ++ opsB l)), 0) else ([], chkF 131072 l)
theorem bytes_d (l : List S38) (hn : l.length ≤ 60) (hs : ∀ o ∈ l, o.f2.length ≤ 400) (hb : okB l) : Ev (fun k => delta_Bytes.f k l) (bytesF l) := by
  unfold delta_Bytes.f bytesF
  refine Ev.bind (a := chkF 131072 l) ⟨l.length + 3, fun k hk => check_d 131072 l (by omega) (by omega)⟩ ?_
  by_cases h : chkF 131072 l = 0
  · rw [if_pos h]
    refine ev_pos h (Ev.bind (put_of [] _ (by simp)) ?_)
    have h9 := nb_nine (cl_le (l.length : Int))
    have := bytes_loop l hn hs hb l.length 0 (nb (cl (l.length : Int))) (by omega) (nb_b _) (by omega)
    rwa [List.drop_zero] at this
  · rw [if_neg h]
    exact ev_neg h (Ev.now _)
theorem rbytes_loop (l : List S38) (hn : l.length ≤ 60) (hs : ∀ o ∈ l, o.f2.length ≤ 400) (hb : okB l) (d : Nat) : ∀ (i : Nat) (x : List Int), i + d = l.length → Bytes x → x.length ≤ 20 + 1000 * i →
    Ev (fun k => remoraref08_Bytes.l0 k l x (i : Int)) (x ++ opsB (l.drop i) ++ sb (cs (x ++ opsB (l.drop i))), 0) := by
  induction d with
  | zero =>
    intro i x hi hx hl
    refine Ev.step (f := fun k => (remoraref02_Seal.f k x).bind fun t => some (t, 0)) (fun k => ?_) ?_
    · simp only [remoraref08_Bytes.l0]
      rw [if_neg (by omega)]
    · rw [end40 hi]
      unfold opsB
      rw [List.append_nil]
      exact Ev.bind (rseal_of x hx (by omega)) (Ev.now _)
  | succ d ih =>
    intro i x hi hx hl
    have hlt : i < l.length := by omega
    have hm : rd_T38 l (i : Int) ∈ l := by rw [rd40 hlt]; exact List.getElem_mem hlt
    have h4 := hs _ hm
    have hb4 := hb _ hm
    rw [step40 hlt]
    generalize ho : rd_T38 l (i : Int) = o at h4 hb4 hm ⊢
    have hnext := ih (i + 1) (x ++ opB o) (by omega) (bytes_app hx (opB_b hb4)) (by rw [List.length_append]; have := opB_len h4; omega)
    rw [show x ++ opB o ++ opsB (l.drop (i + 1)) = x ++ opsB (o :: l.drop (i + 1)) by rw [List.append_assoc]; rfl] at hnext
    have hw := inc hlt (by omega)
    by_cases h : (o.f2.length : Int) > 0
    · refine Ev.step (f := fun k => (remoraref01_Put.f k x (wrap64 (wrap64 (2 * (o.f2.length : Int)) + 1))).bind fun t => if t.length + o.f2.length < 140737488355328 then remoraref08_Bytes.l0 k l (t ++ o.f2) ((i + 1 : Nat) : Int) else none) (fun k => ?_) ?_
      · simp only [remoraref08_Bytes.l0]
        rw [ho, if_pos (by omega), if_pos (by omega), if_pos h, hw]
      · have h9 := nb_nine (cl_le (wrap64 (wrap64 (2 * (o.f2.length : Int)) + 1)))
        refine Ev.bind (rput_of x _ (by omega)) (ev_pos (by rw [List.length_append]; omega) ?_)
        rw [List.append_assoc]
        have e : opB o = nb (cl (wrap64 (wrap64 (2 * (o.f2.length : Int)) + 1))) ++ o.f2 := by unfold opB; rw [if_pos h]
        rw [← e]
        exact hnext
    · refine Ev.step (f := fun k => (remoraref01_Put.f k x (wrap64 (2 * o.f1))).bind fun t => (remoraref01_Put.f k t o.f0).bind fun u => remoraref08_Bytes.l0 k l u ((i + 1 : Nat) : Int)) (fun k => ?_) ?_
      · simp only [remoraref08_Bytes.l0]
        rw [ho, if_pos (by omega), if_pos (by omega), if_neg h, hw]
      · have h9 := nb_nine (cl_le (wrap64 (2 * o.f1)))
        refine Ev.bind (rput_of x _ (by omega)) (Ev.bind (rput_of _ _ (by rw [List.length_append]; omega)) ?_)
        rw [List.append_assoc]
        have e : opB o = nb (cl (wrap64 (2 * o.f1))) ++ nb (cl o.f0) := by unfold opB; rw [if_neg h]
        rw [← e]
        exact hnext
theorem bytes_r (l : List S38) (hn : l.length ≤ 60) (hs : ∀ o ∈ l, o.f2.length ≤ 400) (hb : okB l) : Ev (fun k => remoraref08_Bytes.f k l) (bytesF l) := by
  unfold remoraref08_Bytes.f bytesF
  refine Ev.bind (a := chkF 131072 l) ⟨2 * l.length + 3, fun k hk => check_r 131072 l (by omega) (by omega)⟩ ?_
  by_cases h : chkF 131072 l = 0
  · rw [if_pos h]
    refine ev_pos h (Ev.bind (rput_of [] _ (by simp)) ?_)
    have h9 := nb_nine (cl_le (l.length : Int))
    have := rbytes_loop l hn hs hb l.length 0 (nb (cl (l.length : Int))) (by omega) (nb_b _) (by omega)
    rwa [List.drop_zero] at this
  · rw [if_neg h]
    exact ev_neg h (Ev.now _)
theorem wf8 {n : Int} (h : (Lit.int .u8 n).wf = true) : 0 ≤ n ∧ n < 256 := by
  have e0 : IntKind.u8.min = 0 := by decide
  have e1 : IntKind.u8.max = 255 := by decide
  simp [Lit.wf, e0, e1] at h
  omega
theorem byte_wf {n : Int} (h : (Lit.int .u8 n).wf = true) : 0 ≤ n ∧ n ≤ 255 := by have := wf8 h; omega

theorem DeltaBytes : remoralaw08_DeltaBytes.Pure := by
  intro l hl h40
  have hn := few h40
  refine Ev.rounds ?_
  obtain ⟨t, h1, h2⟩ := small_of l hn (k := l.length + 1) (by omega)
  unfold remoralaw08_DeltaBytes.f
  refine Ev.bind (a := t) (Ev.of (remoraref08_Small.mono l) h1) ?_
  by_cases ht : t = true
  · obtain ⟨hs, h60⟩ := h2 ht
    have hb : okB l := fun o ho x hx => by
      have := ((hl.2 o ho).2.2.2 x hx)
      exact byte_wf this
    refine ev_pos ht (Ev.bind (bytes_d l h60 hs hb) (Ev.bind (bytes_r l h60 hs hb) (ev_pos rfl (ev_pos rfl ?_))))
    exact ev_some rfl
  · exact ev_neg ht (ev_some rfl)

end Go.Proofs.YtifmajnhcbicnaaDoor.Pure
