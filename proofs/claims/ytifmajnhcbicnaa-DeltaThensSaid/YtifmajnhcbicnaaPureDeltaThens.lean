/- The program and the reference agree on what two rows of ops come to, one behind the other, for at most 60 ops of at most 400 bytes each. Conditions: none. -/
import Derived.Test.YtifmajnhcbicnaaPDeltaThensx7
namespace Go.Proofs.Ytifmajnhcbicnaa.Pure
open Go.RowKit Go.Proofs.Ytifmajnhcbicnaa.PDeltaThens Go.Proofs.YtifmajnhcbicnaaW.PrintWords Go.Proofs.YtifmajnhcbicnaaW.PrintLast Go.Proofs.YtifmajnhcbicnaaW.PrintMore
set_option maxRecDepth 100000
set_option linter.unusedVariables false
theorem w64 (n : Int) (h0 : -9223372036854775808 ≤ n) (h1 : n ≤ 9223372036854775807) : wrap64 n = n := by unfold wrap64; omega
theorem wq (n : Int) : ∃ q : Int, wrap64 n = n + q * 18446744073709551616 ∧ -9223372036854775808 ≤ wrap64 n ∧ wrap64 n ≤ 9223372036854775807 := by
  refine ⟨-((n + 9223372036854775808) / 18446744073709551616), ?_, ?_, ?_⟩ <;> unfold wrap64 <;> omega
theorem wrap_comm (a b c : Int) : wrap64 (wrap64 (a + c) + b) = wrap64 (wrap64 (a + b) + c) := by
  obtain ⟨q1, e1, _, _⟩ := wq (a + c)
  obtain ⟨q2, e2, l2, u2⟩ := wq (wrap64 (a + c) + b)
  obtain ⟨q3, e3, _, _⟩ := wq (a + b)
  obtain ⟨q4, e4, l4, u4⟩ := wq (wrap64 (a + b) + c)
  generalize wrap64 (wrap64 (a + c) + b) = x2 at *
  generalize wrap64 (wrap64 (a + b) + c) = x4 at *
  generalize wrap64 (a + c) = x1 at *
  generalize wrap64 (a + b) = x3 at *
  omega
theorem wrap_add (a b c : Int) : wrap64 (a + wrap64 (b + c)) = wrap64 (wrap64 (a + b) + c) := by
  obtain ⟨q1, e1, _, _⟩ := wq (b + c)
  obtain ⟨q2, e2, l2, u2⟩ := wq (a + wrap64 (b + c))
  obtain ⟨q3, e3, _, _⟩ := wq (a + b)
  obtain ⟨q4, e4, l4, u4⟩ := wq (wrap64 (a + b) + c)
  generalize wrap64 (a + wrap64 (b + c)) = x2 at *
  generalize wrap64 (wrap64 (a + b) + c) = x4 at *
  generalize wrap64 (b + c) = x1 at *
  generalize wrap64 (a + b) = x3 at *
  omega
theorem rd40 {l : List S40} {i : Nat} (h : i < l.length) : rd_T40 l (i : Int) = l[i] := by
  unfold rd_T40
  rw [Int.toNat_natCast, List.getD_eq_getElem?_getD, List.getElem?_eq_getElem h, Option.getD_some]
theorem step40 {l : List S40} {i : Nat} (h : i < l.length) : l.drop i = rd_T40 l (i : Int) :: l.drop (i + 1) := by
  rw [rd40 h]
  exact List.drop_eq_getElem_cons h
theorem end40 {l : List S40} {i : Nat} (h : i + 0 = l.length) : l.drop i = [] := List.drop_eq_nil_of_le (by omega)
theorem inc {i n : Nat} (h : i < n) (hn : n ≤ 4000000000000) : wrap64 ((i : Int) + 1) = ((i + 1 : Nat) : Int) := by unfold wrap64; omega
def ln (o : S40) : Int := if (o.f2.length : Int) > 0 then (o.f2.length : Int) else mx o.f1 0
theorem mx0 (x : Int) : 0 ≤ mx x 0 ∧ x ≤ mx x 0 ∧ (mx x 0 = x ∨ mx x 0 = 0) := by unfold mx; split <;> omega
theorem ln_nonneg (o : S40) : 0 ≤ ln o := by
  unfold ln
  split
  · omega
  · exact (mx0 _).1
theorem told_d (o : S40) : delta_told.f o.f0 o.f1 o.f2 = some (decide ((o.f2.length : Int) > 0)) := rfl
theorem len_d (o : S40) : delta_length.f o.f0 o.f1 o.f2 = some (ln o) := by
  unfold delta_length.f delta_told.f ln
  by_cases h : (o.f2.length : Int) > 0
  · rw [Option.bind_some, decide_eq_true h, if_pos rfl, if_pos h]
  · rw [Option.bind_some, decide_eq_false h, if_neg (by decide), if_neg h]
def oneF (b : Int) (o : S40) : Int := if (o.f2.length : Int) > 0 then (if o.f0 = 0 then (if o.f1 = 0 then 0 else 2) else 2) else if o.f0 < 0 then 2 else if o.f1 < 1 then 2 else if o.f0 > b then 3 else if o.f1 > wrap64 (b - o.f0) then 3 else 0
theorem one_d {k : Nat} (hk : 0 < k) (o : S40) (b : Int) : delta_one.f k o.f0 o.f1 o.f2 b = some (oneF b o) := by
  obtain ⟨k, rfl⟩ : ∃ m, k = m + 1 := ⟨k - 1, by omega⟩
  unfold delta_one.f oneF
  rw [told_d, Option.bind_some]
  by_cases h : (o.f2.length : Int) > 0
  · rw [decide_eq_true h, if_pos rfl, if_pos h]
    (repeat' split) <;> rfl
  · rw [decide_eq_false h, if_neg (by decide), if_neg h]
    by_cases h0 : o.f0 < 0
    · rw [if_pos h0, if_pos h0]
      simp only [delta_one.j0]
      rw [if_pos trivial]
    · rw [if_neg h0, if_neg h0]
      simp only [delta_one.j0]
      by_cases h1 : o.f1 < 1
      · rw [decide_eq_true h1, if_pos rfl, if_pos h1]
      · rw [decide_eq_false h1, if_neg (by decide), if_neg h1]
        (repeat' split) <;> rfl
def chkL (b : Int) : List S40 → Int
  | [] => 0
  | o :: l => if oneF b o = 0 then chkL b l else oneF b o
def sizeL : Int → List S40 → Int
  | n, [] => n
  | n, o :: l => sizeL (wrap64 (n + ln o)) l
def endF (len : Int) (n : Int) : Int := if len > 8192 then 7 else if n > 65536 then 7 else 0
def resF (b len n : Int) (l : List S40) : Int := if chkL b l = 0 then endF len n else chkL b l
theorem res_yes {b len n : Int} {o : S40} {l : List S40} (h : oneF b o = 0) : resF b len n (o :: l) = resF b len n l := by
  have e : chkL b (o :: l) = chkL b l := by rw [chkL, if_pos h]
  unfold resF
  rw [e]
theorem res_no {b len n : Int} {o : S40} {l : List S40} (h : ¬ oneF b o = 0) : resF b len n (o :: l) = oneF b o := by
  have e : chkL b (o :: l) = oneF b o := by rw [chkL, if_neg h]
  unfold resF
  rw [e, if_neg h]
theorem end_if (len n : Int) : (if len > 8192 then some 7 else if n > 65536 then some 7 else some 0 : Option Int) = some (endF len n) := by
  unfold endF
  by_cases h : len > 8192
  · rw [if_pos h, if_pos h]
  · rw [if_neg h, if_neg h]
    by_cases h : n > 65536
    · rw [if_pos h, if_pos h]
    · rw [if_neg h, if_neg h]
def chkF (b : Int) (l : List S40) : Int := if b < 0 then 2 else if b > 131072 then 2 else resF b (l.length : Int) (sizeL 0 l) l
theorem check_loop (b : Int) (l : List S40) (hn : l.length ≤ 4000000000000) : ∀ (d k i : Nat) (n : Int), i + d = l.length → d + 1 < k → delta_Check.l0 k l b n l (l.length : Int) (i : Int) = some (resF b (l.length : Int) (sizeL n (l.drop i)) (l.drop i)) := by
  intro d
  induction d with
  | zero =>
    intro k i n hi hk
    obtain ⟨k, rfl⟩ : ∃ m, k = m + 1 := ⟨k - 1, by omega⟩
    simp only [delta_Check.l0]
    rw [if_neg (by omega), end40 hi, end_if]
    rfl
  | succ d ih =>
    intro k i n hi hk
    obtain ⟨k, rfl⟩ : ∃ m, k = m + 1 := ⟨k - 1, by omega⟩
    have hlt : i < l.length := by omega
    simp only [delta_Check.l0]
    rw [if_pos (by omega), if_pos (by omega), if_pos (by omega), one_d (by omega), Option.bind_some, step40 hlt, inc hlt hn, len_d]
    by_cases h : oneF b (rd_T40 l (i : Int)) = 0
    · rw [if_pos h, Option.bind_some, res_yes h]
      exact ih k (i + 1) _ (by omega) (by omega)
    · rw [if_neg h, res_no h]
theorem check_d (b : Int) (l : List S40) (hn : l.length ≤ 4000000000000) {k : Nat} (hk : l.length + 2 < k) : delta_Check.f k l b = some (chkF b l) := by
  obtain ⟨k, rfl⟩ : ∃ m, k = m + 1 := ⟨k - 1, by omega⟩
  unfold delta_Check.f chkF
  by_cases h0 : b < 0
  · rw [if_pos h0, if_pos h0]
    simp only [delta_Check.j0]
    rw [if_pos trivial]
  · rw [if_neg h0, if_neg h0]
    simp only [delta_Check.j0]
    by_cases h1 : b > 131072
    · rw [decide_eq_true h1, if_pos rfl, if_pos h1]
    · rw [decide_eq_false h1, if_neg (by decide), if_neg h1]
      have := check_loop b l hn l.length k 0 0 (by omega) (by omega)
      rw [List.drop_zero] at this
      exact this
def sml (l : List S40) : Prop := (∀ o ∈ l, o.f2.length ≤ 400) ∧ l.length ≤ 60
theorem small_loop (l : List S40) (hn : l.length ≤ 4000000000000) : ∀ (d k i : Nat), i + d = l.length → d < k → ∃ t, remoraref08_Small.l0 k l (i : Int) = some t ∧ (t = true → (∀ o ∈ l.drop i, o.f2.length ≤ 400) ∧ l.length ≤ 60) ∧ ((∀ o ∈ l.drop i, o.f2.length ≤ 400) ∧ l.length ≤ 60 → t = true) := by
  intro d
  induction d with
  | zero =>
    intro k i hi hk
    obtain ⟨k, rfl⟩ : ∃ m, k = m + 1 := ⟨k - 1, by omega⟩
    simp only [remoraref08_Small.l0]
    rw [if_neg (by omega), end40 hi]
    exact ⟨_, rfl, fun h => ⟨fun o ho => (by cases ho), by have := of_decide_eq_true h; omega⟩, fun h => decide_eq_true (by omega)⟩
  | succ d ih =>
    intro k i hi hk
    obtain ⟨k, rfl⟩ : ∃ m, k = m + 1 := ⟨k - 1, by omega⟩
    have hlt : i < l.length := by omega
    simp only [remoraref08_Small.l0]
    rw [if_pos (by omega), if_pos (by omega), step40 hlt, inc hlt hn]
    by_cases h : ((rd_T40 l (i : Int)).f2.length : Int) > 400
    · rw [if_pos h]
      refine ⟨_, rfl, fun h => (by cases h), fun h2 => ?_⟩
      have := h2.1 _ List.mem_cons_self
      omega
    · rw [if_neg h]
      obtain ⟨t, h1, h2, h3⟩ := ih k (i + 1) (by omega) (by omega)
      refine ⟨t, h1, fun ht => ⟨fun o ho => ?_, (h2 ht).2⟩, fun h4 => h3 ⟨fun o ho => h4.1 o (List.mem_cons_of_mem _ ho), h4.2⟩⟩
      rcases List.mem_cons.1 ho with rfl | ho
      · omega
      · exact (h2 ht).1 o ho
theorem small_of (l : List S40) (hn : l.length ≤ 4000000000000) {k : Nat} (hk : l.length < k) : ∃ t, remoraref08_Small.f k l = some t ∧ (t = true → sml l) := by
  obtain ⟨t, h1, h2, h3⟩ := small_loop l hn l.length k 0 (by omega) (by omega)
  rw [List.drop_zero] at h2
  exact ⟨t, h1, h2⟩
theorem few {l : List S40} (h : l.length * 40 ≤ 140737488351232) : l.length ≤ 4000000000000 := by omega
def costL : Int → Int → List S40 → Int × Int
  | a, b, [] => (a, b)
  | a, b, o :: l => if (o.f2.length : Int) > 0 then costL (wrap64 (a + ln o)) b l else costL a (wrap64 (b + ln o)) l
theorem cost_size : ∀ (l : List S40) (a b : Int), wrap64 ((costL a b l).1 + (costL a b l).2) = sizeL (wrap64 (a + b)) l
  | [], a, b => rfl
  | o :: l, a, b => by
    simp only [costL, sizeL]
    by_cases h : (o.f2.length : Int) > 0
    · rw [if_pos h, cost_size l, wrap_comm]
    · rw [if_neg h, cost_size l, wrap_add]
theorem cost_loop (l : List S40) (hn : l.length ≤ 4000000000000) : ∀ (d k i : Nat) (a b : Int), i + d = l.length → d < k → delta_Cost.l0 k a b l (l.length : Int) (i : Int) = some (costL a b (l.drop i)) := by
  intro d
  induction d with
  | zero =>
    intro k i a b hi hk
    obtain ⟨k, rfl⟩ : ∃ m, k = m + 1 := ⟨k - 1, by omega⟩
    simp only [delta_Cost.l0]
    rw [if_neg (by omega), end40 hi]
    rfl
  | succ d ih =>
    intro k i a b hi hk
    obtain ⟨k, rfl⟩ : ∃ m, k = m + 1 := ⟨k - 1, by omega⟩
    have hlt : i < l.length := by omega
    simp only [delta_Cost.l0]
    rw [if_pos (by omega), if_pos (by omega), if_pos (by omega), told_d, Option.bind_some, step40 hlt, inc hlt hn, len_d]
    simp only [costL]
    by_cases h : ((rd_T40 l (i : Int)).f2.length : Int) > 0
    · rw [decide_eq_true h, if_pos rfl, if_pos h, Option.bind_some]
      exact ih k (i + 1) _ _ (by omega) (by omega)
    · rw [decide_eq_false h, if_neg (by decide), if_neg h, Option.bind_some]
      exact ih k (i + 1) _ _ (by omega) (by omega)
theorem cost_d (l : List S40) (hn : l.length ≤ 4000000000000) {k : Nat} (hk : l.length < k) : delta_Cost.f k l = some (costL 0 0 l) := by
  have := cost_loop l hn l.length k 0 0 0 (by omega) (by omega)
  rw [List.drop_zero] at this
  exact this
theorem size_d (l : List S40) (hn : l.length ≤ 4000000000000) {k : Nat} (hk : l.length < k) : delta_Size.f k l = some (sizeL 0 l) := by
  unfold delta_Size.f
  rw [cost_d l hn hk, Option.bind_some, cost_size, show wrap64 (0 + 0) = 0 by unfold wrap64; decide]
theorem len_r (o : S40) : remoraref08_Length.f o.f0 o.f1 o.f2 = some (ln o) := by
  unfold remoraref08_Length.f ln
  split <;> rfl
theorem rsize_loop (l : List S40) (hn : l.length ≤ 4000000000000) : ∀ (d k i : Nat) (n : Int), i + d = l.length → d < k → remoraref08_Size.l0 k l n (i : Int) = some (sizeL n (l.drop i)) := by
  intro d
  induction d with
  | zero =>
    intro k i n hi hk
    obtain ⟨k, rfl⟩ : ∃ m, k = m + 1 := ⟨k - 1, by omega⟩
    simp only [remoraref08_Size.l0]
    rw [if_neg (by omega), end40 hi]
    rfl
  | succ d ih =>
    intro k i n hi hk
    obtain ⟨k, rfl⟩ : ∃ m, k = m + 1 := ⟨k - 1, by omega⟩
    have hlt : i < l.length := by omega
    simp only [remoraref08_Size.l0]
    rw [if_pos (by omega), if_pos (by omega), len_r, Option.bind_some, step40 hlt, inc hlt hn]
    exact ih k (i + 1) _ (by omega) (by omega)
theorem size_r (l : List S40) (hn : l.length ≤ 4000000000000) {k : Nat} (hk : l.length < k) : remoraref08_Size.f k l = some (sizeL 0 l) := by
  have := rsize_loop l hn l.length k 0 0 (by omega) (by omega)
  rw [List.drop_zero] at this
  exact this
theorem right_r (b : Int) (o : S40) (K : Option Int) : ((remoraref08_Right.f o.f0 o.f1 o.f2).bind fun t => (if t = true then (if (o.f2.length : Int) = 0 then (if o.f0 > b then (some 3) else (if o.f1 > (wrap64 (b - o.f0)) then (some 3) else K)) else K) else (some 2))) = if oneF b o = 0 then K else some (oneF b o) := by
  unfold remoraref08_Right.f oneF
  by_cases h : (o.f2.length : Int) > 0
  · rw [if_pos h, if_pos h]
    by_cases h0 : o.f0 = 0
    · rw [if_pos h0, if_pos h0, Option.bind_some]
      by_cases h1 : o.f1 = 0
      · rw [if_pos h1, if_pos (by rw [h1]; rfl), if_neg (by omega), if_pos rfl]
      · rw [if_neg h1, if_neg (by simpa using h1), if_neg (by decide)]
    · rw [if_neg h0, if_neg h0, Option.bind_some, if_neg (by decide), if_neg (by decide)]
  · rw [if_neg h, if_neg h]
    by_cases h0 : o.f0 < 0
    · rw [if_pos h0, if_neg (by omega), Option.bind_some, if_neg (by decide), if_neg (by decide)]
    · rw [if_neg h0, if_pos (by omega), Option.bind_some]
      by_cases h1 : o.f1 < 1
      · rw [if_pos h1, decide_eq_false (by omega), if_neg (by decide), if_neg (by decide)]
      · rw [if_neg h1, decide_eq_true (by omega), if_pos rfl, if_pos (by omega)]
        by_cases h2 : o.f0 > b
        · rw [if_pos h2, if_pos h2, if_neg (by decide)]
        · rw [if_neg h2, if_neg h2]
          by_cases h3 : o.f1 > wrap64 (b - o.f0)
          · rw [if_pos h3, if_pos h3, if_neg (by decide)]
          · rw [if_neg h3, if_neg h3, if_pos rfl]
theorem rcheck_loop (b : Int) (l : List S40) (hn : l.length ≤ 4000000000000) : ∀ (d k i : Nat), i + d = l.length → d + l.length + 1 < k → remoraref08_Check.l0 k l b (i : Int) = some (resF b (l.length : Int) (sizeL 0 l) (l.drop i)) := by
  intro d
  induction d with
  | zero =>
    intro k i hi hk
    obtain ⟨k, rfl⟩ : ∃ m, k = m + 1 := ⟨k - 1, by omega⟩
    simp only [remoraref08_Check.l0]
    rw [if_neg (by omega), end40 hi, size_r l hn (by omega), Option.bind_some, end_if]
    rfl
  | succ d ih =>
    intro k i hi hk
    obtain ⟨k, rfl⟩ : ∃ m, k = m + 1 := ⟨k - 1, by omega⟩
    have hlt : i < l.length := by omega
    simp only [remoraref08_Check.l0]
    rw [if_pos (by omega), if_pos (by omega), right_r, step40 hlt, inc hlt hn]
    by_cases h : oneF b (rd_T40 l (i : Int)) = 0
    · rw [if_pos h, res_yes h]
      exact ih k (i + 1) (by omega) (by omega)
    · rw [if_neg h, res_no h]
theorem check_r (b : Int) (l : List S40) (hn : l.length ≤ 4000000000000) {k : Nat} (hk : 2 * l.length + 2 < k) : remoraref08_Check.f k l b = some (chkF b l) := by
  obtain ⟨k, rfl⟩ : ∃ m, k = m + 1 := ⟨k - 1, by omega⟩
  unfold remoraref08_Check.f chkF
  by_cases h0 : b < 0
  · rw [if_pos h0, if_pos h0]
    simp only [remoraref08_Check.j0]
    rw [if_pos trivial]
  · rw [if_neg h0, if_neg h0]
    simp only [remoraref08_Check.j0]
    by_cases h1 : b > 131072
    · rw [decide_eq_true h1, if_pos rfl, if_pos h1]
    · rw [decide_eq_false h1, if_neg (by decide), if_neg h1]
      have := rcheck_loop b l hn l.length k 0 (by omega) (by omega)
      rw [List.drop_zero] at this
      exact this
theorem map_of_to (l : List S40) : (l.map toT).map ofT = l := by
  rw [List.map_map]
  exact List.map_id l
def told (o : S40) : Prop := o.f2 ≠ []
def skp (o : S40) : Prop := o.f2 = [] ∧ o.f1 ≤ 0
def nrmS (o : S40) : S40 := if o.f2 = [] then o else ⟨0, 0, o.f2⟩
def goS (p o : S40) : Prop := o.f1 ≤ 131072 ∧ 0 ≤ p.f0 ∧ p.f0 ≤ 131072 ∧ p.f1 ≤ wrap64 (131072 - p.f0) ∧ wrap64 (p.f0 + p.f1) = o.f0
instance (p o : S40) : Decidable (goS p o) := by unfold goS; infer_instance
def joinS (p o : S40) : List S40 :=
  if p.f2 = [] then (if o.f2 = [] then (if goS p o then [⟨p.f0, wrap64 (p.f1 + o.f1), p.f2⟩] else [p, nrmS o]) else [p, nrmS o])
  else if o.f2 = [] then [p, nrmS o] else [⟨p.f0, p.f1, p.f2 ++ o.f2⟩]
def addS (xs : List S40) (o : S40) : List S40 := (Jn.addL (xs.map toT) (toT o)).map ofT
theorem nrm_of (o : S40) : ofT (Jn.nrm (toT o)) = nrmS o := by
  unfold Jn.nrm nrmS
  show ofT (if o.f2 = [] then toT o else (0, 0, o.f2)) = _
  split <;> rfl
theorem join_of (p o : S40) : (Jn.join2 (toT p) (toT o)).map ofT = joinS p o := by
  unfold Jn.join2 joinS
  show (if p.f2 = [] then (if o.f2 = [] then (if goS p o then [((toT p).1, wrap64 ((toT p).2.1 + (toT o).2.1), (toT p).2.2)] else [toT p, Jn.nrm (toT o)]) else [toT p, Jn.nrm (toT o)]) else if o.f2 = [] then [toT p, Jn.nrm (toT o)] else [((toT p).1, (toT p).2.1, (toT p).2.2 ++ (toT o).2.2)]).map ofT = _
  have hn : [toT p, Jn.nrm (toT o)].map ofT = [p, nrmS o] := by rw [List.map_cons, List.map_cons, nrm_of]; rfl
  by_cases h1 : p.f2 = []
  · rw [if_pos h1, if_pos h1]
    by_cases h2 : o.f2 = []
    · rw [if_pos h2, if_pos h2]
      by_cases h3 : goS p o
      · rw [if_pos h3, if_pos h3]; rfl
      · rw [if_neg h3, if_neg h3]; exact hn
    · rw [if_neg h2, if_neg h2]; exact hn
  · rw [if_neg h1, if_neg h1]
    by_cases h2 : o.f2 = []
    · rw [if_pos h2, if_pos h2]; exact hn
    · rw [if_neg h2, if_neg h2]; rfl
theorem add_skip {xs : List S40} {o : S40} (h : skp o) : addS xs o = xs := by
  have e : Jn.addL (xs.map toT) (toT o) = xs.map toT := by unfold Jn.addL; rw [if_pos (show (toT o).2.2 = [] ∧ (toT o).2.1 ≤ 0 from h)]
  unfold addS
  rw [e, map_of_to]
theorem add_nil {o : S40} (h : ¬ skp o) : addS [] o = [nrmS o] := by
  unfold addS
  rw [List.map_nil, Jn.addL_nil (toT o) h, List.map_cons, nrm_of]
  rfl
theorem add_snoc {ys : List S40} {p o : S40} (h : ¬ skp o) : addS (ys ++ [p]) o = ys ++ joinS p o := by
  unfold addS
  rw [List.map_append, show [p].map toT = [toT p] from rfl, Jn.addL_snoc (ys.map toT) (toT p) (toT o) h, List.map_append, map_of_to, join_of]
def normS (l : List S40) : List S40 := l.foldl addS []
theorem fold_of : ∀ (l xs : List S40), ((l.map toT).foldl Jn.addL (xs.map toT)).map ofT = l.foldl addS xs
  | [], xs => map_of_to xs
  | o :: l, xs => by
    rw [List.map_cons, List.foldl_cons, List.foldl_cons, ← fold_of l (addS xs o)]
    unfold addS
    rw [map_to_of]
theorem wt_le (l : List S40) (h : ∀ o ∈ l, o.f2.length ≤ 65536) : Jn.wt (l.map toT) ≤ l.length * 65536 := by
  induction l with
  | nil => simp [Jn.wt_nil]
  | cons o l ih =>
    rw [List.map_cons, Jn.wt_cons, List.length_cons]
    have h1 := ih (fun x hx => h x (List.mem_cons_of_mem _ hx))
    have h2 : (toT o).2.2.length ≤ 65536 := h o List.mem_cons_self
    omega
theorem norm_d {l : List S40} (hs : l.length ≤ 10000) (hd : ∀ o ∈ l, o.f2.length ≤ 65536) : delta_Norm.f l = some (normS l) := by
  unfold delta_Norm.f
  have := wt_le l hd
  rw [if_pos ⟨by omega, by omega⟩]
  exact congrArg some (fold_of l [])
def NJ (x y : S40) : Prop := ¬ (x.f2 ≠ [] ∧ y.f2 ≠ []) ∧ ¬ (x.f2 = [] ∧ y.f2 = [] ∧ goS x y)
def CH (xs : List S40) : Prop := ∀ (i : Nat) (x y : S40), xs[i]? = some x → xs[i + 1]? = some y → NJ x y
def GD (o : S40) : Prop := (o.f2 ≠ [] → o.f0 = 0 ∧ o.f1 = 0) ∧ (o.f2 = [] → 1 ≤ o.f1)
theorem ch_nil : CH [] := fun i x y h => by simp at h
theorem ch_one (p : S40) : CH [p] := fun i x y _ h => by simp at h
theorem ch_two {A : List S40} {p q : S40} (h : CH (A ++ [p])) (hn : NJ p q) : CH (A ++ [p, q]) := by
  intro i x y hx hy
  have e : A ++ [p, q] = (A ++ [p]) ++ [q] := by simp
  rw [e] at hx hy
  have hlen : (A ++ [p]).length = A.length + 1 := by simp
  by_cases hi : i + 1 < A.length + 1
  · rw [List.getElem?_append_left (by omega)] at hx hy
    exact h i x y hx hy
  · have hlt := (List.getElem?_eq_some_iff.1 hy).1
    rw [List.length_append, hlen, List.length_singleton] at hlt
    have hi2 : i = A.length := by omega
    subst hi2
    rw [List.getElem?_append_left (by omega), List.getElem?_append_right (Nat.le_refl _), Nat.sub_self] at hx
    rw [List.getElem?_append_right (by omega), hlen, Nat.sub_self] at hy
    obtain rfl := Option.some.inj hx
    obtain rfl := Option.some.inj hy
    exact hn
theorem ch_last {A : List S40} {p p' : S40} (h : CH (A ++ [p])) (hn : ∀ x, NJ x p → NJ x p') : CH (A ++ [p']) := by
  intro i x y hx hy
  have hlt := (List.getElem?_eq_some_iff.1 hy).1
  rw [List.length_append, List.length_singleton] at hlt
  rw [List.getElem?_append_left (by omega)] at hx
  by_cases hi : i + 1 < A.length
  · rw [List.getElem?_append_left hi] at hy
    exact h i x y (by rw [List.getElem?_append_left (by omega)]; exact hx) (by rw [List.getElem?_append_left hi]; exact hy)
  · have hi2 : i + 1 = A.length := by omega
    rw [List.getElem?_append_right (by omega), hi2, Nat.sub_self] at hy
    obtain rfl := Option.some.inj hy
    exact hn x (h i x p (by rw [List.getElem?_append_left (by omega)]; exact hx) (by rw [List.getElem?_append_right (by omega), hi2, Nat.sub_self]; rfl))
theorem go_sum {p o : S40} (h : goS p o) (hp : 1 ≤ p.f1) (ho : 1 ≤ o.f1) : wrap64 (p.f1 + o.f1) = p.f1 + o.f1 ∧ p.f0 + p.f1 = o.f0 ∧ p.f1 ≤ 131072 - p.f0 := by
  obtain ⟨h1, h2, h3, h4, h5⟩ := h
  rw [w64 (131072 - p.f0) (by omega) (by omega)] at h4
  rw [w64 (p.f0 + p.f1) (by omega) (by omega)] at h5
  exact ⟨w64 _ (by omega) (by omega), h5, h4⟩
theorem gd_nrm {o : S40} (h : ¬ skp o) : GD (nrmS o) := by
  unfold nrmS
  by_cases h2 : o.f2 = []
  · rw [if_pos h2]
    exact ⟨fun h3 => absurd h2 h3, fun _ => by
      rcases Int.lt_or_le o.f1 1 with h4 | h4
      · exact absurd ⟨h2, by omega⟩ h
      · exact h4⟩
  · rw [if_neg h2]
    exact ⟨fun _ => ⟨rfl, rfl⟩, fun h3 => absurd h3 h2⟩
theorem nrm_two {o : S40} : (nrmS o).f2 = o.f2 := by
  unfold nrmS
  split <;> rfl
theorem inv_add {xs : List S40} {o : S40} (hc : CH xs) (hg : ∀ x ∈ xs, GD x) : CH (addS xs o) ∧ ∀ x ∈ addS xs o, GD x := by
  by_cases hk : skp o
  · rw [add_skip hk]
    exact ⟨hc, hg⟩
  rcases Jn.snoc_cases xs with rfl | ⟨ys, p, rfl⟩
  · rw [add_nil hk]
    exact ⟨ch_one _, fun x hx => by rw [List.mem_singleton.1 hx]; exact gd_nrm hk⟩
  rw [add_snoc hk]
  have hp := hg p (by simp)
  have hg' : ∀ x ∈ ys, GD x := fun x hx => hg x (by simp [hx])
  have two : NJ p (nrmS o) → CH (ys ++ [p, nrmS o]) ∧ ∀ x ∈ ys ++ [p, nrmS o], GD x := fun hn => ⟨ch_two hc hn, fun x hx => by
    rcases List.mem_append.1 hx with hx | hx
    · exact hg' x hx
    · simp only [List.mem_cons, List.not_mem_nil, or_false] at hx
      rcases hx with rfl | rfl
      · exact hp
      · exact gd_nrm hk⟩
  have one : ∀ p' : S40, (∀ x, NJ x p → NJ x p') → GD p' → CH (ys ++ [p']) ∧ ∀ x ∈ ys ++ [p'], GD x := fun p' hn hd => ⟨ch_last hc hn, fun x hx => by
    rcases List.mem_append.1 hx with hx | hx
    · exact hg' x hx
    · rw [List.mem_singleton.1 hx]
      exact hd⟩
  unfold joinS
  by_cases h1 : p.f2 = []
  · rw [if_pos h1]
    by_cases h2 : o.f2 = []
    · rw [if_pos h2]
      have ho : 1 ≤ o.f1 := by
        rcases Int.lt_or_le o.f1 1 with h4 | h4
        · exact absurd ⟨h2, by omega⟩ hk
        · exact h4
      by_cases h3 : goS p o
      · rw [if_pos h3]
        obtain ⟨e1, e2, e3⟩ := go_sum h3 (hp.2 h1) ho
        refine one _ (fun x hx => ⟨fun h => h.2 h1, fun h => hx.2 ⟨h.1, h1, ?_⟩⟩) ⟨fun h => absurd h1 h, fun _ => ?_⟩
        · obtain ⟨_, _, q1, q2, q3, q4, q5⟩ := h
          have q1' : wrap64 (p.f1 + o.f1) ≤ 131072 := q1
          exact ⟨by rw [e1] at q1'; omega, q2, q3, q4, q5⟩
        · show 1 ≤ wrap64 (p.f1 + o.f1)
          have := hp.2 h1
          rw [e1]
          omega
      · rw [if_neg h3]
        have e : nrmS o = o := by unfold nrmS; rw [if_pos h2]
        refine two ⟨fun h => h.1 h1, fun h => h3 ?_⟩
        rw [← e]
        exact h.2.2
    · rw [if_neg h2]
      exact two ⟨fun h => h.1 h1, fun h => h2 (by rw [← nrm_two (o := o)]; exact h.2.1)⟩
  · rw [if_neg h1]
    by_cases h2 : o.f2 = []
    · rw [if_pos h2]
      exact two ⟨fun h => h.2 (by rw [nrm_two]; exact h2), fun h => h1 h.1⟩
    · rw [if_neg h2]
      exact one _ (fun x hx => ⟨fun h => hx.1 ⟨h.1, h1⟩, fun h => by
        have h3 : p.f2 ++ o.f2 = [] := h.2.1
        exact h1 (List.append_eq_nil_iff.1 h3).1⟩) ⟨fun _ => hp.1 h1, fun h => by
        have h3 : p.f2 ++ o.f2 = [] := h
        exact absurd (List.append_eq_nil_iff.1 h3).1 h1⟩
theorem inv_fold : ∀ (l xs : List S40), CH xs → (∀ x ∈ xs, GD x) → CH (l.foldl addS xs) ∧ ∀ x ∈ l.foldl addS xs, GD x
  | [], _, hc, hg => ⟨hc, hg⟩
  | o :: l, xs, hc, hg => by
    rw [List.foldl_cons]
    obtain ⟨h1, h2⟩ := inv_add (o := o) hc hg
    exact inv_fold l _ h1 h2
theorem inv_norm (l : List S40) : CH (normS l) ∧ ∀ x ∈ normS l, GD x := inv_fold l [] ch_nil (fun _ h => by cases h)
theorem join_len (p o : S40) : (joinS p o).length ≤ 2 := by
  unfold joinS
  (repeat' split) <;> simp
theorem add_len (xs : List S40) (o : S40) : (addS xs o).length ≤ xs.length + 1 := by
  by_cases hk : skp o
  · rw [add_skip hk]; omega
  rcases Jn.snoc_cases xs with rfl | ⟨ys, p, rfl⟩
  · rw [add_nil hk]; simp
  · rw [add_snoc hk, List.length_append, List.length_append]
    have := join_len p o
    simp only [List.length_singleton]
    omega
theorem fold_lenS : ∀ (l xs : List S40), (l.foldl addS xs).length ≤ xs.length + l.length
  | [], xs => by simp
  | o :: l, xs => by
    have h1 := fold_lenS l (addS xs o)
    have h2 := add_len xs o
    rw [List.foldl_cons, List.length_cons]
    omega
theorem norm_len (l : List S40) : (normS l).length ≤ l.length := by
  have := fold_lenS l []
  rw [List.length_nil, Nat.zero_add] at this
  exact this
theorem same_loop (l : List S40) (hn : l.length ≤ 4000000000000) : ∀ (d k i : Nat), i + d = l.length → d < k → remoraref08_Same.l0 k l l (i : Int) = some true := by
  intro d
  induction d with
  | zero =>
    intro k i hi hk
    obtain ⟨k, rfl⟩ : ∃ m, k = m + 1 := ⟨k - 1, by omega⟩
    simp only [remoraref08_Same.l0]
    rw [if_neg (by omega)]
  | succ d ih =>
    intro k i hi hk
    obtain ⟨k, rfl⟩ : ∃ m, k = m + 1 := ⟨k - 1, by omega⟩
    have hlt : i < l.length := by omega
    simp only [remoraref08_Same.l0]
    rw [if_pos (by omega), if_pos (by omega), if_pos (by omega), if_pos trivial, if_pos trivial, if_pos trivial, inc hlt hn]
    exact ih k (i + 1) (by omega) (by omega)
theorem same_of (l : List S40) (hn : l.length ≤ 4000000000000) {k : Nat} (hk : l.length < k) : remoraref08_Same.f k l l = some true := by
  unfold remoraref08_Same.f
  rw [if_pos rfl]
  exact same_loop l hn l.length k 0 (by omega) (by omega)
def pieceF (o : S40) (lo hi : Int) : List S40 := if lo < hi then (if (o.f2.length : Int) > 0 then [⟨0, 0, (o.f2.take hi.toNat).drop lo.toNat⟩] else [⟨wrap64 (o.f0 + lo), wrap64 (hi - lo), []⟩]) else []
def partL (a b : Int) : List S40 → Int → List S40 → List S40
  | out, _, [] => out
  | out, at_, o :: l => partL a b (out ++ pieceF o (mx (wrap64 (a - at_)) 0) (mn (wrap64 (b - at_)) (ln o))) (wrap64 (at_ + ln o)) l
theorem piece_len (o : S40) (lo hi : Int) : (pieceF o lo hi).length ≤ 1 := by
  unfold pieceF
  (repeat' split) <;> simp
theorem mn_le (x y : Int) : mn x y ≤ y := by unfold mn; split <;> omega
theorem clone_of {l : List Int} (h : l.length ≤ 400) : bytes_Clone.f l = some l := by unfold bytes_Clone.f; rw [if_pos (by omega)]
theorem cut_len (l : List Int) (n m : Nat) : ((l.take n).drop m).length ≤ l.length := by
  rw [List.length_drop, List.length_take]
  omega
theorem ln_told {o : S40} (h : (o.f2.length : Int) > 0) : ln o = (o.f2.length : Int) := by unfold ln; rw [if_pos h]
theorem part_loop (a b : Int) (l : List S40) (hs : sml l) : ∀ (d k i : Nat) (out : List S40) (at_ : Int), i + d = l.length → d + 1 < k → out.length ≤ i → delta_Part.l0 k a b out at_ l (l.length : Int) (i : Int) = some (partL a b out at_ (l.drop i), 0) := by
  intro d
  have hn : l.length ≤ 4000000000000 := by have := hs.2; omega
  induction d with
  | zero =>
    intro k i out at_ hi hk ho
    obtain ⟨k, rfl⟩ : ∃ m, k = m + 1 := ⟨k - 1, by omega⟩
    simp only [delta_Part.l0]
    rw [if_neg (by omega), end40 hi]
    rfl
  | succ d ih =>
    intro k i out at_ hi hk ho
    obtain ⟨k, rfl⟩ : ∃ m, k = m + 1 := ⟨k - 1, by omega⟩
    have hlt : i < l.length := by omega
    have hd : (rd_T40 l (i : Int)).f2.length ≤ 400 := by rw [rd40 hlt]; exact hs.1 _ (List.getElem_mem hlt)
    have h60 := hs.2
    simp only [delta_Part.l0]
    rw [if_pos (by omega), if_pos (by omega), if_pos (by omega), len_d, Option.bind_some, step40 hlt, inc hlt hn]
    simp only [partL]
    obtain ⟨o, ho'⟩ : ∃ o, o = rd_T40 l (i : Int) := ⟨_, rfl⟩
    rw [← ho'] at hd ⊢
    have hlo := (mx0 (wrap64 (a - at_))).1
    have hhi := mn_le (wrap64 (b - at_)) (ln o)
    generalize mx (wrap64 (a - at_)) 0 = lo at *
    generalize mn (wrap64 (b - at_)) (ln o) = hi' at *
    by_cases h : lo ≥ hi'
    · rw [if_pos h, show pieceF o lo hi' = [] by unfold pieceF; rw [if_neg (by omega)], List.append_nil]
      exact ih k (i + 1) _ _ (by omega) (by omega) (by omega)
    · rw [if_neg h, told_d, Option.bind_some]
      by_cases ht : (o.f2.length : Int) > 0
      · rw [decide_eq_true ht, if_pos rfl, if_pos hlo, if_pos (by omega), if_pos (by rw [ln_told ht] at hhi; exact hhi), clone_of (Nat.le_trans (cut_len _ _ _) hd), Option.bind_some, if_pos (by omega), show pieceF o lo hi' = [⟨0, 0, (o.f2.take hi'.toNat).drop lo.toNat⟩] by unfold pieceF; rw [if_pos (by omega), if_pos ht]]
        exact ih k (i + 1) _ _ (by omega) (by omega) (by simp; omega)
      · rw [decide_eq_false ht, if_neg (by decide), if_pos (by omega), show pieceF o lo hi' = [⟨wrap64 (o.f0 + lo), wrap64 (hi' - lo), []⟩] by unfold pieceF; rw [if_pos (by omega), if_neg ht]]
        exact ih k (i + 1) _ _ (by omega) (by omega) (by simp; omega)
def partF (l : List S40) (a b : Int) : List S40 × Int := if chkF 131072 l = 0 then (if a < 0 then ([], 3) else if a > b then ([], 3) else if b > sizeL 0 l then ([], 3) else (partL a b [] 0 l, 0)) else ([], chkF 131072 l)
theorem part_d (l : List S40) (a b : Int) (hs : sml l) {k : Nat} (hk : l.length + 3 < k) : delta_Part.f k l a b = some (partF l a b) := by
  have hn : l.length ≤ 4000000000000 := by have := hs.2; omega
  obtain ⟨k, rfl⟩ : ∃ m, k = m + 1 := ⟨k - 1, by omega⟩
  unfold delta_Part.f partF
  rw [check_d 131072 l hn (by omega), Option.bind_some]
  by_cases hc : chkF 131072 l = 0
  · rw [if_pos hc, if_pos hc]
    simp only [delta_Part.j0]
    by_cases h0 : a < 0
    · rw [if_pos h0, if_pos h0, if_pos trivial]
    · rw [if_neg h0, if_neg h0]
      by_cases h1 : a > b
      · rw [if_pos h1, if_pos h1, if_pos trivial]
      · rw [if_neg h1, if_neg h1, size_d l hn (by omega), Option.bind_some]
        by_cases h2 : b > sizeL 0 l
        · rw [decide_eq_true h2, if_pos rfl, if_pos h2]
        · rw [decide_eq_false h2, if_neg (by decide), if_neg h2]
          have := part_loop a b l hs l.length k 0 [] 0 (by omega) (by omega) (by simp)
          rw [List.drop_zero] at this
          exact this
  · rw [if_neg hc, if_neg hc]
theorem part_few (a b : Int) : ∀ (l out : List S40) (at_ : Int), (partL a b out at_ l).length ≤ out.length + l.length
  | [], out, _ => Nat.le_refl _
  | o :: l, out, at_ => by
    simp only [partL]
    have h1 := part_few a b l (out ++ pieceF o (mx (wrap64 (a - at_)) 0) (mn (wrap64 (b - at_)) (ln o))) (wrap64 (at_ + ln o))
    have h2 := piece_len o (mx (wrap64 (a - at_)) 0) (mn (wrap64 (b - at_)) (ln o))
    rw [List.length_append] at h1
    rw [List.length_cons]
    omega
theorem partF_few (l : List S40) (a b : Int) : (partF l a b).1.length ≤ l.length := by
  unfold partF
  (repeat' split) <;> simp
  have := part_few a b l [] 0
  simpa using this
theorem rpart_loop (a b : Int) (l : List S40) (hs : sml l) : ∀ (d k i : Nat) (out : List S40) (at_ : Int), i + d = l.length → 2 * d + 1 < k → out.length ≤ i → remoraref08_Part.l0 k l a b out at_ (i : Int) = some (partL a b out at_ (l.drop i), 0) := by
  intro d
  have hn : l.length ≤ 4000000000000 := by have := hs.2; omega
  induction d with
  | zero =>
    intro k i out at_ hi hk ho
    obtain ⟨k, rfl⟩ : ∃ m, k = m + 1 := ⟨k - 1, by omega⟩
    rw [remoraref08_Part.l0]
    rw [if_neg (by omega), end40 hi]
    rfl
  | succ d ih =>
    intro k i out at_ hi hk ho
    obtain ⟨k, rfl⟩ : ∃ m, k = m + 1 + 1 := ⟨k - 2, by omega⟩
    have hlt : i < l.length := by omega
    have hd : (rd_T40 l (i : Int)).f2.length ≤ 400 := by rw [rd40 hlt]; exact hs.1 _ (List.getElem_mem hlt)
    have h60 := hs.2
    rw [remoraref08_Part.l0]
    rw [if_pos (by omega), if_pos (by omega), len_r, Option.bind_some, step40 hlt]
    simp only [partL]
    have hlo := (mx0 (wrap64 (a - at_))).1
    have hhi := mn_le (wrap64 (b - at_)) (ln (rd_T40 l (i : Int)))
    generalize mx (wrap64 (a - at_)) 0 = lo at *
    generalize mn (wrap64 (b - at_)) (ln (rd_T40 l (i : Int))) = hi' at *
    by_cases h : lo < hi'
    · rw [if_pos h, remoraref08_Part.j2]
      by_cases ht : ((rd_T40 l (i : Int)).f2.length : Int) > 0
      · have hc := cut_len (rd_T40 l (i : Int)).f2 hi'.toNat lo.toNat
        rw [decide_eq_true ht, if_pos rfl, Option.bind_some, if_pos (by omega), if_pos (by omega), if_pos hlo, if_pos (by omega), if_pos (by rw [ln_told ht] at hhi; exact hhi), if_pos (by rw [List.length_nil]; omega), if_pos (by omega), List.nil_append, inc hlt hn, show pieceF (rd_T40 l (i : Int)) lo hi' = [⟨0, 0, ((rd_T40 l (i : Int)).f2.take hi'.toNat).drop lo.toNat⟩] by unfold pieceF; rw [if_pos h, if_pos ht]]
        exact ih k (i + 1) _ _ (by omega) (by omega) (by simp; omega)
      · rw [decide_eq_false ht, if_neg (by decide), if_pos h, if_pos (by omega), if_pos (by omega), if_pos (by omega), inc hlt hn, show pieceF (rd_T40 l (i : Int)) lo hi' = [⟨wrap64 ((rd_T40 l (i : Int)).f0 + lo), wrap64 (hi' - lo), []⟩] by unfold pieceF; rw [if_pos h, if_neg ht]]
        exact ih k (i + 1) _ _ (by omega) (by omega) (by simp; omega)
    · rw [if_neg h, remoraref08_Part.j2, if_neg (by decide), if_neg h, inc hlt hn, show pieceF (rd_T40 l (i : Int)) lo hi' = [] by unfold pieceF; rw [if_neg h], List.append_nil]
      exact ih k (i + 1) _ _ (by omega) (by omega) (by omega)
theorem part_r (l : List S40) (a b : Int) (hs : sml l) {k : Nat} (hk : 2 * l.length + 3 < k) : remoraref08_Part.f k l a b = some (partF l a b) := by
  have hn : l.length ≤ 4000000000000 := by have := hs.2; omega
  obtain ⟨k, rfl⟩ : ∃ m, k = m + 1 := ⟨k - 1, by omega⟩
  unfold remoraref08_Part.f partF
  rw [check_r 131072 l hn (by omega), Option.bind_some]
  by_cases hc : chkF 131072 l = 0
  · rw [if_pos hc, if_pos hc]
    simp only [remoraref08_Part.j0]
    by_cases h0 : a < 0
    · rw [if_pos h0, if_pos h0, if_pos trivial]
    · rw [if_neg h0, if_neg h0]
      by_cases h1 : a > b
      · rw [if_pos (show b < a from h1), if_pos h1, if_pos trivial]
      · rw [if_neg (show ¬ b < a from h1), if_neg h1, size_r l hn (by omega), Option.bind_some]
        by_cases h2 : b > sizeL 0 l
        · rw [decide_eq_true h2, if_pos rfl, if_pos h2]
        · rw [decide_eq_false h2, if_neg (by decide), if_neg h2]
          have := rpart_loop a b l hs l.length k 0 [] 0 (by omega) (by omega) (by simp)
          rw [List.drop_zero] at this
          exact this
  · rw [if_neg hc, if_neg hc]
theorem piece_data {o : S40} {n : Nat} (h : o.f2.length ≤ n) (lo hi : Int) : ∀ x ∈ pieceF o lo hi, x.f2.length ≤ n := by
  intro x hx
  unfold pieceF at hx
  by_cases h1 : lo < hi
  · rw [if_pos h1] at hx
    by_cases h2 : (o.f2.length : Int) > 0
    · rw [if_pos h2] at hx
      rw [List.mem_singleton.1 hx]
      exact Nat.le_trans (cut_len _ _ _) h
    · rw [if_neg h2] at hx
      rw [List.mem_singleton.1 hx]
      exact Nat.zero_le _
  · rw [if_neg h1] at hx; cases hx
theorem part_data (a b : Int) : ∀ (l out : List S40) (at_ : Int), (∀ o ∈ l, o.f2.length ≤ 400) → (∀ o ∈ out, o.f2.length ≤ 400) → ∀ x ∈ partL a b out at_ l, x.f2.length ≤ 400
  | [], _, _, _, ho => ho
  | o :: l, out, at_, hl, ho => part_data a b l _ _ (fun x hx => hl x (List.mem_cons_of_mem _ hx)) (fun x hx => (List.mem_append.1 hx).elim (ho x) (piece_data (hl o List.mem_cons_self) _ _ x))
theorem partF_data {l : List S40} (hs : sml l) (a b : Int) : ∀ x ∈ (partF l a b).1, x.f2.length ≤ 400 := by
  unfold partF
  (repeat' split) <;> intro x hx
  · cases hx
  · cases hx
  · cases hx
  · exact part_data a b l [] 0 hs.1 (fun _ h => by cases h) x hx
  · cases hx
theorem wt_cap (c : Nat) : ∀ l : List S40, (∀ o ∈ l, o.f2.length ≤ c) → Jn.wt (l.map toT) ≤ l.length * c
  | [], _ => by simp [Jn.wt_nil]
  | o :: l, h => by
    rw [List.map_cons, Jn.wt_cons, List.length_cons, Nat.add_mul]
    have h1 := wt_cap c l (fun x hx => h x (List.mem_cons_of_mem _ hx))
    have h2 : (toT o).2.2.length ≤ c := h o List.mem_cons_self
    omega
def seqL (a : List S40) : List S40 → List S40
  | [] => []
  | o :: b => (if (o.f2.length : Int) > 0 then [o] else (partF a o.f0 (wrap64 (o.f0 + o.f1))).1) ++ seqL a b
theorem then_loop {a : List S40} (hs : sml a) {k : Nat} (hk : a.length + 3 < k) : ∀ (b : List S40) (acc : List Jn.T3), (∀ o ∈ b, o.f2.length ≤ 400) → acc.length + 60 * b.length ≤ 10000 → Jn.wt acc + 24000 * b.length ≤ 100000000 → delta_Then.l0 k a b acc = some (((seqL a b).map toT).foldl Jn.addL acc)
  | [], acc, _, _, _ => rfl
  | o :: b, acc, hb, h1, h2 => by
    have hd := hb o List.mem_cons_self
    have hb' : ∀ x ∈ b, x.f2.length ≤ 400 := fun x hx => hb x (List.mem_cons_of_mem _ hx)
    rw [List.length_cons] at h1 h2
    unfold delta_Then.l0 seqL
    rw [if_neg (by
      intro h
      rcases h with h | h
      · exact h ⟨by omega, by omega⟩
      · omega), told_d, Option.bind_some]
    by_cases ht : (o.f2.length : Int) > 0
    · rw [decide_eq_true ht, if_pos rfl, if_pos ht]
      have h3 := Jn.addL_len acc (toT o)
      have h4 : (toT o).2.2.length = o.f2.length := rfl
      rw [then_loop hs hk b _ hb' (by omega) (by omega), List.map_append, List.foldl_append]
      rfl
    · rw [decide_eq_false ht, if_neg (by decide), if_neg ht, part_d a o.f0 (wrap64 (o.f0 + o.f1)) hs hk, Option.bind_some]
      have h60 := hs.2
      have h3 := partF_few a o.f0 (wrap64 (o.f0 + o.f1))
      have h4 := wt_cap 400 _ (partF_data hs o.f0 (wrap64 (o.f0 + o.f1)))
      have h5 := Jn.fold_len ((partF a o.f0 (wrap64 (o.f0 + o.f1))).1.map toT) acc
      rw [List.length_map] at h5
      rw [if_neg (by omega), then_loop hs hk b _ hb' (by omega) (by omega), List.map_append, List.foldl_append]
theorem seq_len {a : List S40} (hs : sml a) : ∀ b : List S40, (seqL a b).length ≤ 60 * b.length
  | [] => by simp [seqL]
  | o :: b => by
    have h1 := seq_len hs b
    have h60 := hs.2
    have h3 := partF_few a o.f0 (wrap64 (o.f0 + o.f1))
    simp only [seqL, List.length_append, List.length_cons]
    split
    · simp; omega
    · omega
theorem then_d {a b : List S40} (ha : sml a) (hb : sml b) {k : Nat} (hk : a.length + b.length + 3 < k) : delta_Then.f k a b = some (if chkF 131072 a = 0 then (if chkF (sizeL 0 a) b = 0 then (normS (seqL a b), 0) else ([], chkF (sizeL 0 a) b)) else ([], chkF 131072 a)) := by
  have h1 := ha.2
  have h2 := hb.2
  unfold delta_Then.f
  rw [check_d 131072 a (by omega) (by omega), Option.bind_some]
  by_cases c1 : chkF 131072 a = 0
  · rw [if_pos c1, if_pos c1, size_d a (by omega) (by omega), Option.bind_some, check_d _ b (by omega) (by omega), Option.bind_some]
    by_cases c2 : chkF (sizeL 0 a) b = 0
    · have h3 := seq_len ha b
      have h4 := (Jn.fold_len ((seqL a b).map toT) []).1
      rw [List.length_nil, List.length_map] at h4
      rw [if_pos c2, if_pos c2, if_neg (by omega), then_loop ha (by omega) b [] hb.1 (by rw [List.length_nil]; omega) (by rw [Jn.wt_nil]; omega), Option.bind_some, if_neg (by omega)]
      have := fold_of (seqL a b) []
      rw [List.map_nil] at this
      rw [this]
      rfl
    · rw [if_neg c2, if_neg c2]
  · rw [if_neg c1, if_neg c1]
theorem to_of (t : Jn.T3) : toT (ofT t) = t := rfl
theorem nrm_to (o : S40) : Jn.nrm (toT o) = toT (nrmS o) := by rw [← nrm_of, to_of]
theorem ln_zero (o : S40) : ln o = 0 ↔ skp o := by
  unfold ln skp
  by_cases h : o.f2 = []
  · rw [if_neg (by rw [h]; decide)]
    unfold mx
    constructor
    · intro h1
      refine ⟨h, ?_⟩
      split at h1 <;> omega
    · intro h1
      have := h1.2
      split <;> omega
  · have := List.length_pos_iff.2 h
    rw [if_pos (by omega)]
    constructor
    · intro h1; omega
    · intro h1; exact absurd h1.1 h
theorem goes_copy {x y : S40} (h1 : x.f2 = []) (h2 : y.f2 = []) (h3 : 1 ≤ x.f1) (h4 : 1 ≤ y.f1) : remoraref08_Goes.f x.f0 x.f1 x.f2 y.f0 y.f1 y.f2 = some (decide (goS x y)) := by
  unfold remoraref08_Goes.f
  rw [if_neg (by rw [h1]; decide), if_neg (by rw [h2]; decide), if_pos (show x.f1 ≥ 1 from h3), if_pos (show y.f1 ≥ 1 from h4)]
  by_cases c3 : y.f1 ≤ 131072
  · rw [if_pos c3]
    by_cases c4 : x.f0 ≥ 0
    · rw [if_pos c4]
      by_cases c5 : x.f0 ≤ 131072
      · rw [if_pos c5]
        by_cases c6 : x.f1 ≤ wrap64 (131072 - x.f0)
        · rw [if_pos c6]
          by_cases c7 : wrap64 (x.f0 + x.f1) = y.f0
          · rw [decide_eq_true (show goS x y from ⟨c3, c4, c5, c6, c7⟩), c7, beq_self_eq_true]
          · rw [decide_eq_false (show ¬ goS x y from fun h => c7 h.2.2.2.2), beq_eq_false_iff_ne.mpr (fun e => c7 e.symm)]
        · rw [if_neg c6, decide_eq_false (show ¬ goS x y from fun h => c6 h.2.2.2.1)]
      · rw [if_neg c5, decide_eq_false (show ¬ goS x y from fun h => c5 h.2.2.1)]
    · rw [if_neg c4, decide_eq_false (show ¬ goS x y from fun h => c4 h.2.1)]
  · rw [if_neg c3, decide_eq_false (show ¬ goS x y from fun h => c3 h.1)]
theorem addR_of {xs : List S40} {o : S40} (hg : ∀ x ∈ xs, GD x) : addR (xs.map toT) o = some ((addS xs o).map toT) := by
  unfold addR
  rw [len_r, Option.bind_some]
  by_cases hk : skp o
  · rw [if_pos ((ln_zero o).2 hk), add_skip hk]
  rw [if_neg (fun h => hk ((ln_zero o).1 h))]
  rcases Jn.snoc_cases xs with rfl | ⟨ys, p, rfl⟩
  · rw [add_nil hk, nrm_to]
    rfl
  rw [List.map_append, show [p].map toT = [toT p] from rfl, List.getLast?_concat]
  simp only []
  rw [add_snoc hk, List.map_append, nrm_to]
  have hp := hg p (by simp)
  have two : some (ys.map toT ++ [toT p] ++ [toT (nrmS o)]) = some (ys.map toT ++ [p, nrmS o].map toT) := by simp
  unfold joinS
  show ((remoraref08_Goes.f p.f0 p.f1 p.f2 (nrmS o).f0 (nrmS o).f1 (nrmS o).f2).bind _) = _
  by_cases h1 : p.f2 = []
  · rw [if_pos h1]
    by_cases h2 : o.f2 = []
    · have e : nrmS o = o := by unfold nrmS; rw [if_pos h2]
      have ho : 1 ≤ o.f1 := by
        rcases Int.lt_or_le o.f1 1 with h4 | h4
        · exact absurd ⟨h2, by omega⟩ hk
        · exact h4
      rw [if_pos h2, e, goes_copy h1 h2 (hp.2 h1) ho, Option.bind_some]
      by_cases h3 : goS p o
      · rw [decide_eq_true h3, if_pos rfl, if_pos h2, if_pos h3, List.dropLast_concat]
        rfl
      · rw [decide_eq_false h3, if_neg (by decide), if_neg h3]
        rw [e] at two
        rw [two]
        (repeat' split) <;> rfl
    · have hpos := List.length_pos_iff.2 h2
      have e : remoraref08_Goes.f p.f0 p.f1 p.f2 (nrmS o).f0 (nrmS o).f1 (nrmS o).f2 = some false := by
        unfold remoraref08_Goes.f
        rw [if_neg (by rw [h1]; decide), if_pos (by rw [nrm_two]; omega)]
      rw [e, Option.bind_some, if_neg (by decide), two, if_neg h2]
  · have hpp := List.length_pos_iff.2 h1
    rw [if_neg h1]
    by_cases h2 : o.f2 = []
    · have e : remoraref08_Goes.f p.f0 p.f1 p.f2 (nrmS o).f0 (nrmS o).f1 (nrmS o).f2 = some false := by
        unfold remoraref08_Goes.f
        rw [if_pos (by omega), decide_eq_false (by rw [nrm_two, h2]; decide)]
      rw [e, Option.bind_some, if_neg (by decide), two, if_pos h2]
    · have hpos := List.length_pos_iff.2 h2
      have e : remoraref08_Goes.f p.f0 p.f1 p.f2 (nrmS o).f0 (nrmS o).f1 (nrmS o).f2 = some true := by
        unfold remoraref08_Goes.f
        rw [if_pos (by omega), decide_eq_true (by rw [nrm_two]; omega)]
      rw [if_neg h2, e, Option.bind_some, if_pos rfl, if_neg h2, List.dropLast_concat]
      rfl
theorem rnorm_loop : ∀ (l xs : List S40), CH xs → (∀ x ∈ xs, GD x) → xs.length + l.length ≤ 10000 → Jn.wt (xs.map toT) + l.length * 65536 ≤ 900000000 → (∀ o ∈ l, o.f2.length ≤ 65536) → rnormL l (xs.map toT) = some ((l.foldl addS xs).map toT)
  | [], _, _, _, _, _, _ => rfl
  | o :: l, xs, hc, hg, h1, h2, hd => by
    rw [List.length_cons] at h1 h2
    have h3 := hd o List.mem_cons_self
    obtain ⟨h4, h5⟩ := inv_add (o := o) hc hg
    have h6 := Jn.addL_len (xs.map toT) (toT o)
    have h7 : (addS xs o).map toT = Jn.addL (xs.map toT) (toT o) := map_to_of _
    rw [← h7, List.length_map, List.length_map] at h6
    have h8 : (toT o).2.2.length = o.f2.length := rfl
    rw [rnormL, if_neg (by
      intro h
      rcases h with h | h
      · exact h ⟨by rw [List.length_map]; omega, by omega⟩
      · omega), addR_of hg, Option.bind_some, List.foldl_cons]
    exact rnorm_loop l (addS xs o) h4 h5 (by omega) (by omega) (fun x hx => hd x (List.mem_cons_of_mem _ hx))
theorem norm_r {l : List S40} (h1 : l.length ≤ 10000) (hd : ∀ o ∈ l, o.f2.length ≤ 65536) : remoraref08_Norm.f l = some (normS l) := by
  unfold remoraref08_Norm.f
  have := rnorm_loop l [] ch_nil (fun _ h => by cases h) (by rw [List.length_nil]; omega) (by rw [List.map_nil, Jn.wt_nil]; omega) hd
  rw [List.map_nil] at this
  rw [if_neg (by omega), this, Option.bind_some, map_of_to]
  rfl
theorem seq_data {a : List S40} (hs : sml a) : ∀ b : List S40, (∀ o ∈ b, o.f2.length ≤ 400) → ∀ x ∈ seqL a b, x.f2.length ≤ 400
  | [], _, _, h => by cases h
  | o :: b, hb, x, hx => by
    simp only [seqL] at hx
    rcases List.mem_append.1 hx with hx | hx
    · by_cases ht : (o.f2.length : Int) > 0
      · rw [if_pos ht] at hx
        rw [List.mem_singleton.1 hx]
        exact hb o List.mem_cons_self
      · rw [if_neg ht] at hx
        exact partF_data hs _ _ x hx
    · exact seq_data hs b (fun x hx => hb x (List.mem_cons_of_mem _ hx)) x hx
def endT (out : List S40) : List S40 × Int := if (out.length : Int) > 8192 then ([], 7) else (out, 0)
theorem rthen_loop {a b : List S40} (ha : sml a) (hb : sml b) : ∀ (d k i : Nat) (out : List S40), i + d = b.length → d + 2 * a.length + 4 < k → out.length ≤ 60 * i → (∀ x ∈ out, x.f2.length ≤ 400) → remoraref08_Then.l0 k a b out (i : Int) = some (endT (normS (out ++ seqL a (b.drop i)))) := by
  intro d
  have h60 := ha.2
  have h60' := hb.2
  induction d with
  | zero =>
    intro k i out hi hk ho hd
    obtain ⟨k, rfl⟩ : ∃ m, k = m + 1 := ⟨k - 1, by omega⟩
    rw [remoraref08_Then.l0, if_neg (by omega), end40 hi, norm_r (by omega) (fun o h => Nat.le_trans (hd o h) (by omega)), Option.bind_some]
    simp only [seqL, List.append_nil]
    unfold endT
    split <;> rfl
  | succ d ih =>
    intro k i out hi hk ho hd
    obtain ⟨k, rfl⟩ : ∃ m, k = m + 1 := ⟨k - 1, by omega⟩
    have hlt : i < b.length := by omega
    have hm : rd_T40 b (i : Int) ∈ b := by rw [rd40 hlt]; exact List.getElem_mem hlt
    have h4 := hb.1 _ hm
    rw [remoraref08_Then.l0, if_pos (by omega), if_pos (by omega), step40 hlt]
    simp only [seqL]
    by_cases ht : ((rd_T40 b (i : Int)).f2.length : Int) > 0
    · rw [if_pos ht, if_pos (by omega), if_pos ht, inc hlt (by omega), ih k (i + 1) _ (by omega) (by omega) (by rw [List.length_append]; simp; omega) (fun x hx => (List.mem_append.1 hx).elim (hd x) (fun h => by rw [List.mem_singleton.1 h]; exact h4)), List.append_assoc]
    · have h5 := partF_few a (rd_T40 b (i : Int)).f0 (wrap64 ((rd_T40 b (i : Int)).f0 + (rd_T40 b (i : Int)).f1))
      rw [if_neg ht, if_neg ht, part_r a _ _ ha (by omega), Option.bind_some, if_pos (by omega), inc hlt (by omega), ih k (i + 1) _ (by omega) (by omega) (by rw [List.length_append]; omega) (fun x hx => (List.mem_append.1 hx).elim (hd x) (partF_data ha _ _ x)), List.append_assoc]
theorem then_r {a b : List S40} (ha : sml a) (hb : sml b) {k : Nat} (hk : 2 * a.length + 2 * b.length + 4 < k) : remoraref08_Then.f k a b = some (if chkF 131072 a = 0 then (if chkF (sizeL 0 a) b = 0 then (normS (seqL a b), 0) else ([], chkF (sizeL 0 a) b)) else ([], chkF 131072 a)) := by
  have h1 := ha.2
  have h2 := hb.2
  unfold remoraref08_Then.f
  rw [check_r 131072 a (by omega) (by omega), Option.bind_some]
  by_cases c1 : chkF 131072 a = 0
  · rw [if_pos c1, if_pos c1, size_r a (by omega) (by omega), Option.bind_some, check_r _ b (by omega) (by omega), Option.bind_some]
    by_cases c2 : chkF (sizeL 0 a) b = 0
    · have h3 := seq_len ha b
      have h4 := norm_len (seqL a b)
      have := rthen_loop ha hb b.length k 0 [] (by omega) (by omega) (by simp) (fun _ h => by cases h)
      rw [List.drop_zero, List.nil_append] at this
      rw [if_pos c2, if_pos c2]
      refine this.trans ?_
      unfold endT
      rw [if_neg (by omega)]
    · rw [if_neg c2, if_neg c2]
  · rw [if_neg c1, if_neg c1]

theorem DeltaThens : remoralaw08_DeltaThens.Pure := by
  intro a b hla ha40 hlb hb40
  have hna := few ha40
  have hnb := few hb40
  have awake : ∀ k, remoralaw08_DeltaThens.j0 (k + 1) a b true = some true := fun k => by
    rw [remoralaw08_DeltaThens.j0, if_pos rfl]
    rfl
  obtain ⟨K, hK⟩ : ∃ K, K = 2 * a.length + 2 * b.length + 4000 := ⟨_, rfl⟩
  refine ⟨K + 1, ?_⟩
  obtain ⟨t, h1, h2⟩ := small_of a hna (k := K + 1) (by omega)
  obtain ⟨t', h1', h2'⟩ := small_of b hnb (k := K + 1) (by omega)
  unfold remoralaw08_DeltaThens.f
  rw [h1, Option.bind_some]
  by_cases ht : t = true
  · rw [if_pos ht, h1', Option.bind_some]
    by_cases ht' : t' = true
    · have hsa := h2 ht
      have hsb := h2' ht'
      have h60 := hsa.2
      have h60' := hsb.2
      have hl1 := seq_len hsa b
      have hl2 := norm_len (seqL a b)
      rw [ht', show (!true) = false from rfl, remoralaw08_DeltaThens.j0, if_neg (by decide), then_d hsa hsb (by omega), Option.bind_some, then_r hsa hsb (by omega), Option.bind_some]
      generalize hR : (if chkF 131072 a = 0 then (if chkF (sizeL 0 a) b = 0 then (normS (seqL a b), 0) else ([], chkF (sizeL 0 a) b)) else ([], chkF 131072 a) : List S40 × Int) = R
      have hRl : R.1.length ≤ 3600 := by
        rw [← hR]
        split
        · split
          · show (normS (seqL a b)).length ≤ 3600
            omega
          · simp
        · simp
      rw [same_of R.1 (by omega) (by omega), Option.bind_some, if_pos rfl, if_pos rfl]
      rfl
    · rw [Bool.eq_false_iff.mpr ht']
      exact awake _
  · rw [if_neg ht]
    exact awake _

end Go.Proofs.Ytifmajnhcbicnaa.Pure
