/- The program and the reference agree on what is wrong with ops, on how long what they make is, and on its cost, for any ops and any basis. Conditions: none. -/
import Derived.Test.YtifmajnhcbicnaaPDeltaChecksx3
namespace Go.Proofs.Ytifmajnhcbicnaa.Pure
open Go.RowKit Go.Proofs.Ytifmajnhcbicnaa.PDeltaChecks Go.Proofs.YtifmajnhcbicnaaW.PrintWords Go.Proofs.YtifmajnhcbicnaaW.PrintLast Go.Proofs.YtifmajnhcbicnaaW.PrintMore
set_option maxRecDepth 100000
set_option linter.unusedVariables false
theorem w64 (n : Int) (h0 : -9223372036854775808 ≤ n) (h1 : n ≤ 9223372036854775807) : wrap64 n = n := by unfold wrap64; omega
theorem wq (n : Int) : ∃ q : Int, wrap64 n = n + q * 18446744073709551616 ∧ -9223372036854775808 ≤ wrap64 n ∧ wrap64 n ≤ 9223372036854775807 := by
  refine ⟨-((n + 9223372036854775808) / 18446744073709551616), ?_, ?_, ?_⟩ <;> unfold wrap64 <;> omega
theorem wrap_comm (a b c : Int) : wrap64 (wrap64 (a + c) + b) = wrap64 (wrap64 (a + b) + c) := by
  obtain ⟨q1, e1, _, _⟩ := wq (a + c)
  obtain ⟨q2, e2, l2, u2⟩ := wq (wrap64 (a + c) + b)
  obtain ⟨q3, e3, _, _⟩ := wq (a + b)
  obtain ⟨q4, e4, l4, u4⟩ := wq (wrap64 (a + b) + c)
  generalize wrap64 (wrap64 (a + c) + b) = x2 at *
  generalize wrap64 (wrap64 (a + b) + c) = x4 at *
  generalize wrap64 (a + c) = x1 at *
  generalize wrap64 (a + b) = x3 at *
  omega
theorem wrap_add (a b c : Int) : wrap64 (a + wrap64 (b + c)) = wrap64 (wrap64 (a + b) + c) := by
  obtain ⟨q1, e1, _, _⟩ := wq (b + c)
  obtain ⟨q2, e2, l2, u2⟩ := wq (a + wrap64 (b + c))
  obtain ⟨q3, e3, _, _⟩ := wq (a + b)
  obtain ⟨q4, e4, l4, u4⟩ := wq (wrap64 (a + b) + c)
  generalize wrap64 (a + wrap64 (b + c)) = x2 at *
  generalize wrap64 (wrap64 (a + b) + c) = x4 at *
  generalize wrap64 (b + c) = x1 at *
  generalize wrap64 (a + b) = x3 at *
  omega
theorem rd40 {l : List S40} {i : Nat} (h : i < l.length) : rd_T40 l (i : Int) = l[i] := by
  unfold rd_T40
  rw [Int.toNat_natCast, List.getD_eq_getElem?_getD, List.getElem?_eq_getElem h, Option.getD_some]
theorem step40 {l : List S40} {i : Nat} (h : i < l.length) : l.drop i = rd_T40 l (i : Int) :: l.drop (i + 1) := by
  rw [rd40 h]
  exact List.drop_eq_getElem_cons h
theorem end40 {l : List S40} {i : Nat} (h : i + 0 = l.length) : l.drop i = [] := List.drop_eq_nil_of_le (by omega)
theorem inc {i n : Nat} (h : i < n) (hn : n ≤ 4000000000000) : wrap64 ((i : Int) + 1) = ((i + 1 : Nat) : Int) := by unfold wrap64; omega
/-- How many bytes an op makes. -/
def ln (o : S40) : Int := if (o.f2.length : Int) > 0 then (o.f2.length : Int) else mx o.f1 0
theorem mx0 (x : Int) : 0 ≤ mx x 0 ∧ x ≤ mx x 0 ∧ (mx x 0 = x ∨ mx x 0 = 0) := by unfold mx; split <;> omega
theorem ln_nonneg (o : S40) : 0 ≤ ln o := by
  unfold ln
  split
  · omega
  · exact (mx0 _).1
theorem told_d (o : S40) : delta_told.f o.f0 o.f1 o.f2 = some (decide ((o.f2.length : Int) > 0)) := rfl
theorem len_d (o : S40) : delta_length.f o.f0 o.f1 o.f2 = some (ln o) := by
  unfold delta_length.f delta_told.f ln
  by_cases h : (o.f2.length : Int) > 0
  · rw [Option.bind_some, decide_eq_true h, if_pos rfl, if_pos h]
  · rw [Option.bind_some, decide_eq_false h, if_neg (by decide), if_neg h]
/-- What is wrong with an op over a basis. -/
def oneF (b : Int) (o : S40) : Int := if (o.f2.length : Int) > 0 then (if o.f0 = 0 then (if o.f1 = 0 then 0 else 2) else 2) else if o.f0 < 0 then 2 else if o.f1 < 1 then 2 else if o.f0 > b then 3 else if o.f1 > wrap64 (b - o.f0) then 3 else 0
theorem one_d {k : Nat} (hk : 0 < k) (o : S40) (b : Int) : delta_one.f k o.f0 o.f1 o.f2 b = some (oneF b o) := by
  obtain ⟨k, rfl⟩ : ∃ m, k = m + 1 := ⟨k - 1, by omega⟩
  unfold delta_one.f oneF
  rw [told_d, Option.bind_some]
  by_cases h : (o.f2.length : Int) > 0
  · rw [decide_eq_true h, if_pos rfl, if_pos h]
    (repeat' split) <;> rfl
  · rw [decide_eq_false h, if_neg (by decide), if_neg h]
    by_cases h0 : o.f0 < 0
    · rw [if_pos h0, if_pos h0]
      simp only [delta_one.j0]
      rw [if_pos trivial]
    · rw [if_neg h0, if_neg h0]
      simp only [delta_one.j0]
      by_cases h1 : o.f1 < 1
      · rw [decide_eq_true h1, if_pos rfl, if_pos h1]
      · rw [decide_eq_false h1, if_neg (by decide), if_neg h1]
        (repeat' split) <;> rfl
/-- The first that is wrong with ops over a basis. -/
def chkL (b : Int) : List S40 → Int
  | [] => 0
  | o :: l => if oneF b o = 0 then chkL b l else oneF b o
/-- How many bytes ops make, behind n, as the machine counts. -/
def sizeL : Int → List S40 → Int
  | n, [] => n
  | n, o :: l => sizeL (wrap64 (n + ln o)) l
def endF (len : Int) (n : Int) : Int := if len > 8192 then 7 else if n > 65536 then 7 else 0
def resF (b len n : Int) (l : List S40) : Int := if chkL b l = 0 then endF len n else chkL b l
theorem res_yes {b len n : Int} {o : S40} {l : List S40} (h : oneF b o = 0) : resF b len n (o :: l) = resF b len n l := by
  have e : chkL b (o :: l) = chkL b l := by rw [chkL, if_pos h]
  unfold resF
  rw [e]
theorem res_no {b len n : Int} {o : S40} {l : List S40} (h : ¬ oneF b o = 0) : resF b len n (o :: l) = oneF b o := by
  have e : chkL b (o :: l) = oneF b o := by rw [chkL, if_neg h]
  unfold resF
  rw [e, if_neg h]
theorem end_if (len n : Int) : (if len > 8192 then some 7 else if n > 65536 then some 7 else some 0 : Option Int) = some (endF len n) := by
  unfold endF
  by_cases h : len > 8192
  · rw [if_pos h, if_pos h]
  · rw [if_neg h, if_neg h]
    by_cases h : n > 65536
    · rw [if_pos h, if_pos h]
    · rw [if_neg h, if_neg h]
def chkF (b : Int) (l : List S40) : Int := if b < 0 then 2 else if b > 131072 then 2 else resF b (l.length : Int) (sizeL 0 l) l
theorem check_loop (b : Int) (l : List S40) (hn : l.length ≤ 4000000000000) : ∀ (d k i : Nat) (n : Int), i + d = l.length → d + 1 < k → delta_Check.l0 k l b n l (l.length : Int) (i : Int) = some (resF b (l.length : Int) (sizeL n (l.drop i)) (l.drop i)) := by
  intro d
  induction d with
  | zero =>
    intro k i n hi hk
    obtain ⟨k, rfl⟩ : ∃ m, k = m + 1 := ⟨k - 1, by omega⟩
    simp only [delta_Check.l0]
    rw [if_neg (by omega), end40 hi, end_if]
    rfl
  | succ d ih =>
    intro k i n hi hk
    obtain ⟨k, rfl⟩ : ∃ m, k = m + 1 := ⟨k - 1, by omega⟩
    have hlt : i < l.length := by omega
    simp only [delta_Check.l0]
    rw [if_pos (by omega), if_pos (by omega), if_pos (by omega), one_d (by omega), Option.bind_some, step40 hlt, inc hlt hn, len_d]
    by_cases h : oneF b (rd_T40 l (i : Int)) = 0
    · rw [if_pos h, Option.bind_some, res_yes h]
      exact ih k (i + 1) _ (by omega) (by omega)
    · rw [if_neg h, res_no h]
theorem check_d (b : Int) (l : List S40) (hn : l.length ≤ 4000000000000) {k : Nat} (hk : l.length + 2 < k) : delta_Check.f k l b = some (chkF b l) := by
  obtain ⟨k, rfl⟩ : ∃ m, k = m + 1 := ⟨k - 1, by omega⟩
  unfold delta_Check.f chkF
  by_cases h0 : b < 0
  · rw [if_pos h0, if_pos h0]
    simp only [delta_Check.j0]
    rw [if_pos trivial]
  · rw [if_neg h0, if_neg h0]
    simp only [delta_Check.j0]
    by_cases h1 : b > 131072
    · rw [decide_eq_true h1, if_pos rfl, if_pos h1]
    · rw [decide_eq_false h1, if_neg (by decide), if_neg h1]
      have := check_loop b l hn l.length k 0 0 (by omega) (by omega)
      rw [List.drop_zero] at this
      exact this
/-- Few ops, of few bytes. -/
def sml (l : List S40) : Prop := (∀ o ∈ l, o.f2.length ≤ 400) ∧ l.length ≤ 60
theorem small_loop (l : List S40) (hn : l.length ≤ 4000000000000) : ∀ (d k i : Nat), i + d = l.length → d < k → ∃ t, remoraref08_Small.l0 k l (i : Int) = some t ∧ (t = true → (∀ o ∈ l.drop i, o.f2.length ≤ 400) ∧ l.length ≤ 60) ∧ ((∀ o ∈ l.drop i, o.f2.length ≤ 400) ∧ l.length ≤ 60 → t = true) := by
  intro d
  induction d with
  | zero =>
    intro k i hi hk
    obtain ⟨k, rfl⟩ : ∃ m, k = m + 1 := ⟨k - 1, by omega⟩
    simp only [remoraref08_Small.l0]
    rw [if_neg (by omega), end40 hi]
    exact ⟨_, rfl, fun h => ⟨fun o ho => (by cases ho), by have := of_decide_eq_true h; omega⟩, fun h => decide_eq_true (by omega)⟩
  | succ d ih =>
    intro k i hi hk
    obtain ⟨k, rfl⟩ : ∃ m, k = m + 1 := ⟨k - 1, by omega⟩
    have hlt : i < l.length := by omega
    simp only [remoraref08_Small.l0]
    rw [if_pos (by omega), if_pos (by omega), step40 hlt, inc hlt hn]
    by_cases h : ((rd_T40 l (i : Int)).f2.length : Int) > 400
    · rw [if_pos h]
      refine ⟨_, rfl, fun h => (by cases h), fun h2 => ?_⟩
      have := h2.1 _ List.mem_cons_self
      omega
    · rw [if_neg h]
      obtain ⟨t, h1, h2, h3⟩ := ih k (i + 1) (by omega) (by omega)
      refine ⟨t, h1, fun ht => ⟨fun o ho => ?_, (h2 ht).2⟩, fun h4 => h3 ⟨fun o ho => h4.1 o (List.mem_cons_of_mem _ ho), h4.2⟩⟩
      rcases List.mem_cons.1 ho with rfl | ho
      · omega
      · exact (h2 ht).1 o ho
theorem small_of (l : List S40) (hn : l.length ≤ 4000000000000) {k : Nat} (hk : l.length < k) : ∃ t, remoraref08_Small.f k l = some t ∧ (t = true → sml l) := by
  obtain ⟨t, h1, h2, h3⟩ := small_loop l hn l.length k 0 (by omega) (by omega)
  rw [List.drop_zero] at h2
  exact ⟨t, h1, h2⟩
theorem few {l : List S40} (h : l.length * 40 ≤ 140737488351232) : l.length ≤ 4000000000000 := by omega
/-- The bytes told, and copied. -/
def costL : Int → Int → List S40 → Int × Int
  | a, b, [] => (a, b)
  | a, b, o :: l => if (o.f2.length : Int) > 0 then costL (wrap64 (a + ln o)) b l else costL a (wrap64 (b + ln o)) l
theorem cost_size : ∀ (l : List S40) (a b : Int), wrap64 ((costL a b l).1 + (costL a b l).2) = sizeL (wrap64 (a + b)) l
  | [], a, b => rfl
  | o :: l, a, b => by
    simp only [costL, sizeL]
    by_cases h : (o.f2.length : Int) > 0
    · rw [if_pos h, cost_size l, wrap_comm]
    · rw [if_neg h, cost_size l, wrap_add]
theorem cost_loop (l : List S40) (hn : l.length ≤ 4000000000000) : ∀ (d k i : Nat) (a b : Int), i + d = l.length → d < k → delta_Cost.l0 k a b l (l.length : Int) (i : Int) = some (costL a b (l.drop i)) := by
  intro d
  induction d with
  | zero =>
    intro k i a b hi hk
    obtain ⟨k, rfl⟩ : ∃ m, k = m + 1 := ⟨k - 1, by omega⟩
    simp only [delta_Cost.l0]
    rw [if_neg (by omega), end40 hi]
    rfl
  | succ d ih =>
    intro k i a b hi hk
    obtain ⟨k, rfl⟩ : ∃ m, k = m + 1 := ⟨k - 1, by omega⟩
    have hlt : i < l.length := by omega
    simp only [delta_Cost.l0]
    rw [if_pos (by omega), if_pos (by omega), if_pos (by omega), told_d, Option.bind_some, step40 hlt, inc hlt hn, len_d]
    simp only [costL]
    by_cases h : ((rd_T40 l (i : Int)).f2.length : Int) > 0
    · rw [decide_eq_true h, if_pos rfl, if_pos h, Option.bind_some]
      exact ih k (i + 1) _ _ (by omega) (by omega)
    · rw [decide_eq_false h, if_neg (by decide), if_neg h, Option.bind_some]
      exact ih k (i + 1) _ _ (by omega) (by omega)
theorem cost_d (l : List S40) (hn : l.length ≤ 4000000000000) {k : Nat} (hk : l.length < k) : delta_Cost.f k l = some (costL 0 0 l) := by
  have := cost_loop l hn l.length k 0 0 0 (by omega) (by omega)
  rw [List.drop_zero] at this
  exact this
theorem size_d (l : List S40) (hn : l.length ≤ 4000000000000) {k : Nat} (hk : l.length < k) : delta_Size.f k l = some (sizeL 0 l) := by
  unfold delta_Size.f
  rw [cost_d l hn hk, Option.bind_some, cost_size, show wrap64 (0 + 0) = 0 by unfold wrap64; decide]
theorem len_r (o : S40) : remoraref08_Length.f o.f0 o.f1 o.f2 = some (ln o) := by
  unfold remoraref08_Length.f ln
  split <;> rfl
theorem rsize_loop (l : List S40) (hn : l.length ≤ 4000000000000) : ∀ (d k i : Nat) (n : Int), i + d = l.length → d < k → remoraref08_Size.l0 k l n (i : Int) = some (sizeL n (l.drop i)) := by
  intro d
  induction d with
  | zero =>
    intro k i n hi hk
    obtain ⟨k, rfl⟩ : ∃ m, k = m + 1 := ⟨k - 1, by omega⟩
    simp only [remoraref08_Size.l0]
    rw [if_neg (by omega), end40 hi]
    rfl
  | succ d ih =>
    intro k i n hi hk
    obtain ⟨k, rfl⟩ : ∃ m, k = m + 1 := ⟨k - 1, by omega⟩
    have hlt : i < l.length := by omega
    simp only [remoraref08_Size.l0]
    rw [if_pos (by omega), if_pos (by omega), len_r, Option.bind_some, step40 hlt, inc hlt hn]
    exact ih k (i + 1) _ (by omega) (by omega)
theorem size_r (l : List S40) (hn : l.length ≤ 4000000000000) {k : Nat} (hk : l.length < k) : remoraref08_Size.f k l = some (sizeL 0 l) := by
  have := rsize_loop l hn l.length k 0 0 (by omega) (by omega)
  rw [List.drop_zero] at this
  exact this
theorem right_r (b : Int) (o : S40) (K : Option Int) : ((remoraref08_Right.f o.f0 o.f1 o.f2).bind fun t => (if t = true then (if (o.f2.length : Int) = 0 then (if o.f0 > b then (some 3) else (if o.f1 > (wrap64 (b - o.f0)) then (some 3) else K)) else K) else (some 2))) = if oneF b o = 0 then K else some (oneF b o) := by
  unfold remoraref08_Right.f oneF
  by_cases h : (o.f2.length : Int) > 0
  · rw [if_pos h, if_pos h]
    by_cases h0 : o.f0 = 0
    · rw [if_pos h0, if_pos h0, Option.bind_some]
      by_cases h1 : o.f1 = 0
      · rw [if_pos h1, if_pos (by rw [h1]; rfl), if_neg (by omega), if_pos rfl]
      · rw [if_neg h1, if_neg (by simpa using h1), if_neg (by decide)]
    · rw [if_neg h0, if_neg h0, Option.bind_some, if_neg (by decide), if_neg (by decide)]
  · rw [if_neg h, if_neg h]
    by_cases h0 : o.f0 < 0
    · rw [if_pos h0, if_neg (by omega), Option.bind_some, if_neg (by decide), if_neg (by decide)]
    · rw [if_neg h0, if_pos (by omega), Option.bind_some]
      by_cases h1 : o.f1 < 1
      · rw [if_pos h1, decide_eq_false (by omega), if_neg (by decide), if_neg (by decide)]
      · rw [if_neg h1, decide_eq_true (by omega), if_pos rfl, if_pos (by omega)]
        by_cases h2 : o.f0 > b
        · rw [if_pos h2, if_pos h2, if_neg (by decide)]
        · rw [if_neg h2, if_neg h2]
          by_cases h3 : o.f1 > wrap64 (b - o.f0)
          · rw [if_pos h3, if_pos h3, if_neg (by decide)]
          · rw [if_neg h3, if_neg h3, if_pos rfl]
theorem rcheck_loop (b : Int) (l : List S40) (hn : l.length ≤ 4000000000000) : ∀ (d k i : Nat), i + d = l.length → d + l.length + 1 < k → remoraref08_Check.l0 k l b (i : Int) = some (resF b (l.length : Int) (sizeL 0 l) (l.drop i)) := by
  intro d
  induction d with
  | zero =>
    intro k i hi hk
    obtain ⟨k, rfl⟩ : ∃ m, k = m + 1 := ⟨k - 1, by omega⟩
    simp only [remoraref08_Check.l0]
    rw [if_neg (by omega), end40 hi, size_r l hn (by omega), Option.bind_some, end_if]
    rfl
  | succ d ih =>
    intro k i hi hk
    obtain ⟨k, rfl⟩ : ∃ m, k = m + 1 := ⟨k - 1, by omega⟩
    have hlt : i < l.length := by omega
    simp only [remoraref08_Check.l0]
    rw [if_pos (by omega), if_pos (by omega), right_r, step40 hlt, inc hlt hn]
    by_cases h : oneF b (rd_T40 l (i : Int)) = 0
    · rw [if_pos h, res_yes h]
      exact ih k (i + 1) (by omega) (by omega)
    · rw [if_neg h, res_no h]
theorem check_r (b : Int) (l : List S40) (hn : l.length ≤ 4000000000000) {k : Nat} (hk : 2 * l.length + 2 < k) : remoraref08_Check.f k l b = some (chkF b l) := by
  obtain ⟨k, rfl⟩ : ∃ m, k = m + 1 := ⟨k - 1, by omega⟩
  unfold remoraref08_Check.f chkF
  by_cases h0 : b < 0
  · rw [if_pos h0, if_pos h0]
    simp only [remoraref08_Check.j0]
    rw [if_pos trivial]
  · rw [if_neg h0, if_neg h0]
    simp only [remoraref08_Check.j0]
    by_cases h1 : b > 131072
    · rw [decide_eq_true h1, if_pos rfl, if_pos h1]
    · rw [decide_eq_false h1, if_neg (by decide), if_neg h1]
      have := rcheck_loop b l hn l.length k 0 (by omega) (by omega)
      rw [List.drop_zero] at this
      exact this
theorem rcost_loop (l : List S40) (hn : l.length ≤ 4000000000000) : ∀ (d k i : Nat) (a b : Int), i + d = l.length → d < k → remoraref08_Cost.l0 k l a b (i : Int) = some (costL a b (l.drop i)) := by
  intro d
  induction d with
  | zero =>
    intro k i a b hi hk
    obtain ⟨k, rfl⟩ : ∃ m, k = m + 1 := ⟨k - 1, by omega⟩
    simp only [remoraref08_Cost.l0]
    rw [if_neg (by omega), end40 hi]
    rfl
  | succ d ih =>
    intro k i a b hi hk
    obtain ⟨k, rfl⟩ : ∃ m, k = m + 1 := ⟨k - 1, by omega⟩
    have hlt : i < l.length := by omega
    simp only [remoraref08_Cost.l0]
    rw [if_pos (by omega), if_pos (by omega), step40 hlt, inc hlt hn, len_r]
    simp only [costL]
    by_cases h : ((rd_T40 l (i : Int)).f2.length : Int) > 0
    · rw [if_pos h, if_pos h]
      have e : ln (rd_T40 l (i : Int)) = ((rd_T40 l (i : Int)).f2.length : Int) := by unfold ln; rw [if_pos h]
      rw [e]
      exact ih k (i + 1) _ _ (by omega) (by omega)
    · rw [if_neg h, if_neg h, Option.bind_some]
      exact ih k (i + 1) _ _ (by omega) (by omega)
theorem cost_r (l : List S40) (hn : l.length ≤ 4000000000000) {k : Nat} (hk : l.length < k) : remoraref08_Cost.f k l = some (costL 0 0 l) := by
  have := rcost_loop l hn l.length k 0 0 0 (by omega) (by omega)
  rw [List.drop_zero] at this
  exact this

theorem DeltaChecks : remoralaw08_DeltaChecks.Pure := by
  intro l b hl h40 hb
  have hn := few h40
  refine ⟨2 * l.length + 3, ?_⟩
  obtain ⟨t, h1, _⟩ := small_of l hn (k := 2 * l.length + 3) (by omega)
  unfold remoralaw08_DeltaChecks.f
  rw [h1, Option.bind_some]
  by_cases ht : t = true
  · rw [if_pos ht, cost_d l hn (by omega), Option.bind_some, cost_r l hn (by omega), Option.bind_some, check_d b l hn (by omega), Option.bind_some, check_r b l hn (by omega), Option.bind_some, if_pos rfl, size_d l hn (by omega), Option.bind_some, size_r l hn (by omega), Option.bind_some, if_pos rfl, if_pos rfl, if_pos rfl]
    rfl
  · rw [if_neg ht]
    rfl

end Go.Proofs.Ytifmajnhcbicnaa.Pure
