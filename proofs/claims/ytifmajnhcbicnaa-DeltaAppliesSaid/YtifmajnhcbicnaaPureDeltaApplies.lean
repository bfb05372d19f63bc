/- The program and the reference agree on what ops make, on what they come to, on a text told, and on whether two rows are alike, for at most 60 ops of at most 400 bytes and a basis of at most 2,000. Conditions: none. -/
import Derived.Test.YtifmajnhcbicnaaPDeltaAppliesx6
namespace Go.Proofs.Ytifmajnhcbicnaa.Pure
open Go.RowKit Go.Proofs.Ytifmajnhcbicnaa.PDeltaApplies Go.Proofs.YtifmajnhcbicnaaW.PrintWords Go.Proofs.YtifmajnhcbicnaaW.PrintLast Go.Proofs.YtifmajnhcbicnaaW.PrintMore
set_option maxRecDepth 100000
set_option linter.unusedVariables false
theorem w64 (n : Int) (h0 : -9223372036854775808 ≤ n) (h1 : n ≤ 9223372036854775807) : wrap64 n = n := by unfold wrap64; omega
theorem wq (n : Int) : ∃ q : Int, wrap64 n = n + q * 18446744073709551616 ∧ -9223372036854775808 ≤ wrap64 n ∧ wrap64 n ≤ 9223372036854775807 := by
  refine ⟨-((n + 9223372036854775808) / 18446744073709551616), ?_, ?_, ?_⟩ <;> unfold wrap64 <;> omega
theorem wrap_comm (a b c : Int) : wrap64 (wrap64 (a + c) + b) = wrap64 (wrap64 (a + b) + c) := by
  obtain ⟨q1, e1, _, _⟩ := wq (a + c)
  obtain ⟨q2, e2, l2, u2⟩ := wq (wrap64 (a + c) + b)
  obtain ⟨q3, e3, _, _⟩ := wq (a + b)
  obtain ⟨q4, e4, l4, u4⟩ := wq (wrap64 (a + b) + c)
  generalize wrap64 (wrap64 (a + c) + b) = x2 at *
  generalize wrap64 (wrap64 (a + b) + c) = x4 at *
  generalize wrap64 (a + c) = x1 at *
  generalize wrap64 (a + b) = x3 at *
  omega
theorem wrap_add (a b c : Int) : wrap64 (a + wrap64 (b + c)) = wrap64 (wrap64 (a + b) + c) := by
  obtain ⟨q1, e1, _, _⟩ := wq (b + c)
  obtain ⟨q2, e2, l2, u2⟩ := wq (a + wrap64 (b + c))
  obtain ⟨q3, e3, _, _⟩ := wq (a + b)
  obtain ⟨q4, e4, l4, u4⟩ := wq (wrap64 (a + b) + c)
  generalize wrap64 (a + wrap64 (b + c)) = x2 at *
  generalize wrap64 (wrap64 (a + b) + c) = x4 at *
  generalize wrap64 (b + c) = x1 at *
  generalize wrap64 (a + b) = x3 at *
  omega
theorem rd40 {l : List S40} {i : Nat} (h : i < l.length) : rd_T40 l (i : Int) = l[i] := by
  unfold rd_T40
  rw [Int.toNat_natCast, List.getD_eq_getElem?_getD, List.getElem?_eq_getElem h, Option.getD_some]
theorem step40 {l : List S40} {i : Nat} (h : i < l.length) : l.drop i = rd_T40 l (i : Int) :: l.drop (i + 1) := by
  rw [rd40 h]
  exact List.drop_eq_getElem_cons h
theorem end40 {l : List S40} {i : Nat} (h : i + 0 = l.length) : l.drop i = [] := List.drop_eq_nil_of_le (by omega)
theorem inc {i n : Nat} (h : i < n) (hn : n ≤ 4000000000000) : wrap64 ((i : Int) + 1) = ((i + 1 : Nat) : Int) := by unfold wrap64; omega
def ln (o : S40) : Int := if (o.f2.length : Int) > 0 then (o.f2.length : Int) else mx o.f1 0
theorem mx0 (x : Int) : 0 ≤ mx x 0 ∧ x ≤ mx x 0 ∧ (mx x 0 = x ∨ mx x 0 = 0) := by unfold mx; split <;> omega
theorem ln_nonneg (o : S40) : 0 ≤ ln o := by
  unfold ln
  split
  · omega
  · exact (mx0 _).1
theorem told_d (o : S40) : delta_told.f o.f0 o.f1 o.f2 = some (decide ((o.f2.length : Int) > 0)) := rfl
theorem len_d (o : S40) : delta_length.f o.f0 o.f1 o.f2 = some (ln o) := by
  unfold delta_length.f delta_told.f ln
  by_cases h : (o.f2.length : Int) > 0
  · rw [Option.bind_some, decide_eq_true h, if_pos rfl, if_pos h]
  · rw [Option.bind_some, decide_eq_false h, if_neg (by decide), if_neg h]
def oneF (b : Int) (o : S40) : Int := if (o.f2.length : Int) > 0 then (if o.f0 = 0 then (if o.f1 = 0 then 0 else 2) else 2) else if o.f0 < 0 then 2 else if o.f1 < 1 then 2 else if o.f0 > b then 3 else if o.f1 > wrap64 (b - o.f0) then 3 else 0
theorem one_d {k : Nat} (hk : 0 < k) (o : S40) (b : Int) : delta_one.f k o.f0 o.f1 o.f2 b = some (oneF b o) := by
  obtain ⟨k, rfl⟩ : ∃ m, k = m + 1 := ⟨k - 1, by omega⟩
  unfold delta_one.f oneF
  rw [told_d, Option.bind_some]
  by_cases h : (o.f2.length : Int) > 0
  · rw [decide_eq_true h, if_pos rfl, if_pos h]
    (repeat' split) <;> rfl
  · rw [decide_eq_false h, if_neg (by decide), if_neg h]
    by_cases h0 : o.f0 < 0
    · rw [if_pos h0, if_pos h0]
      simp only [delta_one.j0]
      rw [if_pos trivial]
    · rw [if_neg h0, if_neg h0]
      simp only [delta_one.j0]
      by_cases h1 : o.f1 < 1
      · rw [decide_eq_true h1, if_pos rfl, if_pos h1]
      · rw [decide_eq_false h1, if_neg (by decide), if_neg h1]
        (repeat' split) <;> rfl
def chkL (b : Int) : List S40 → Int
  | [] => 0
  | o :: l => if oneF b o = 0 then chkL b l else oneF b o
def sizeL : Int → List S40 → Int
  | n, [] => n
  | n, o :: l => sizeL (wrap64 (n + ln o)) l
def endF (len : Int) (n : Int) : Int := if len > 8192 then 7 else if n > 65536 then 7 else 0
def resF (b len n : Int) (l : List S40) : Int := if chkL b l = 0 then endF len n else chkL b l
theorem res_yes {b len n : Int} {o : S40} {l : List S40} (h : oneF b o = 0) : resF b len n (o :: l) = resF b len n l := by
  have e : chkL b (o :: l) = chkL b l := by rw [chkL, if_pos h]
  unfold resF
  rw [e]
theorem res_no {b len n : Int} {o : S40} {l : List S40} (h : ¬ oneF b o = 0) : resF b len n (o :: l) = oneF b o := by
  have e : chkL b (o :: l) = oneF b o := by rw [chkL, if_neg h]
  unfold resF
  rw [e, if_neg h]
theorem end_if (len n : Int) : (if len > 8192 then some 7 else if n > 65536 then some 7 else some 0 : Option Int) = some (endF len n) := by
  unfold endF
  by_cases h : len > 8192
  · rw [if_pos h, if_pos h]
  · rw [if_neg h, if_neg h]
    by_cases h : n > 65536
    · rw [if_pos h, if_pos h]
    · rw [if_neg h, if_neg h]
def chkF (b : Int) (l : List S40) : Int := if b < 0 then 2 else if b > 131072 then 2 else resF b (l.length : Int) (sizeL 0 l) l
theorem check_loop (b : Int) (l : List S40) (hn : l.length ≤ 4000000000000) : ∀ (d k i : Nat) (n : Int), i + d = l.length → d + 1 < k → delta_Check.l0 k l b n l (l.length : Int) (i : Int) = some (resF b (l.length : Int) (sizeL n (l.drop i)) (l.drop i)) := by
  intro d
  induction d with
  | zero =>
    intro k i n hi hk
    obtain ⟨k, rfl⟩ : ∃ m, k = m + 1 := ⟨k - 1, by omega⟩
    simp only [delta_Check.l0]
    rw [if_neg (by omega), end40 hi, end_if]
    rfl
  | succ d ih =>
    intro k i n hi hk
    obtain ⟨k, rfl⟩ : ∃ m, k = m + 1 := ⟨k - 1, by omega⟩
    have hlt : i < l.length := by omega
    simp only [delta_Check.l0]
    rw [if_pos (by omega), if_pos (by omega), if_pos (by omega), one_d (by omega), Option.bind_some, step40 hlt, inc hlt hn, len_d]
    by_cases h : oneF b (rd_T40 l (i : Int)) = 0
    · rw [if_pos h, Option.bind_some, res_yes h]
      exact ih k (i + 1) _ (by omega) (by omega)
    · rw [if_neg h, res_no h]
theorem check_d (b : Int) (l : List S40) (hn : l.length ≤ 4000000000000) {k : Nat} (hk : l.length + 2 < k) : delta_Check.f k l b = some (chkF b l) := by
  obtain ⟨k, rfl⟩ : ∃ m, k = m + 1 := ⟨k - 1, by omega⟩
  unfold delta_Check.f chkF
  by_cases h0 : b < 0
  · rw [if_pos h0, if_pos h0]
    simp only [delta_Check.j0]
    rw [if_pos trivial]
  · rw [if_neg h0, if_neg h0]
    simp only [delta_Check.j0]
    by_cases h1 : b > 131072
    · rw [decide_eq_true h1, if_pos rfl, if_pos h1]
    · rw [decide_eq_false h1, if_neg (by decide), if_neg h1]
      have := check_loop b l hn l.length k 0 0 (by omega) (by omega)
      rw [List.drop_zero] at this
      exact this
def sml (l : List S40) : Prop := (∀ o ∈ l, o.f2.length ≤ 400) ∧ l.length ≤ 60
theorem small_loop (l : List S40) (hn : l.length ≤ 4000000000000) : ∀ (d k i : Nat), i + d = l.length → d < k → ∃ t, remoraref08_Small.l0 k l (i : Int) = some t ∧ (t = true → (∀ o ∈ l.drop i, o.f2.length ≤ 400) ∧ l.length ≤ 60) ∧ ((∀ o ∈ l.drop i, o.f2.length ≤ 400) ∧ l.length ≤ 60 → t = true) := by
  intro d
  induction d with
  | zero =>
    intro k i hi hk
    obtain ⟨k, rfl⟩ : ∃ m, k = m + 1 := ⟨k - 1, by omega⟩
    simp only [remoraref08_Small.l0]
    rw [if_neg (by omega), end40 hi]
    exact ⟨_, rfl, fun h => ⟨fun o ho => (by cases ho), by have := of_decide_eq_true h; omega⟩, fun h => decide_eq_true (by omega)⟩
  | succ d ih =>
    intro k i hi hk
    obtain ⟨k, rfl⟩ : ∃ m, k = m + 1 := ⟨k - 1, by omega⟩
    have hlt : i < l.length := by omega
    simp only [remoraref08_Small.l0]
    rw [if_pos (by omega), if_pos (by omega), step40 hlt, inc hlt hn]
    by_cases h : ((rd_T40 l (i : Int)).f2.length : Int) > 400
    · rw [if_pos h]
      refine ⟨_, rfl, fun h => (by cases h), fun h2 => ?_⟩
      have := h2.1 _ List.mem_cons_self
      omega
    · rw [if_neg h]
      obtain ⟨t, h1, h2, h3⟩ := ih k (i + 1) (by omega) (by omega)
      refine ⟨t, h1, fun ht => ⟨fun o ho => ?_, (h2 ht).2⟩, fun h4 => h3 ⟨fun o ho => h4.1 o (List.mem_cons_of_mem _ ho), h4.2⟩⟩
      rcases List.mem_cons.1 ho with rfl | ho
      · omega
      · exact (h2 ht).1 o ho
theorem small_of (l : List S40) (hn : l.length ≤ 4000000000000) {k : Nat} (hk : l.length < k) : ∃ t, remoraref08_Small.f k l = some t ∧ (t = true → sml l) := by
  obtain ⟨t, h1, h2, h3⟩ := small_loop l hn l.length k 0 (by omega) (by omega)
  rw [List.drop_zero] at h2
  exact ⟨t, h1, h2⟩
theorem few {l : List S40} (h : l.length * 40 ≤ 140737488351232) : l.length ≤ 4000000000000 := by omega
theorem len_r (o : S40) : remoraref08_Length.f o.f0 o.f1 o.f2 = some (ln o) := by
  unfold remoraref08_Length.f ln
  split <;> rfl
theorem rsize_loop (l : List S40) (hn : l.length ≤ 4000000000000) : ∀ (d k i : Nat) (n : Int), i + d = l.length → d < k → remoraref08_Size.l0 k l n (i : Int) = some (sizeL n (l.drop i)) := by
  intro d
  induction d with
  | zero =>
    intro k i n hi hk
    obtain ⟨k, rfl⟩ : ∃ m, k = m + 1 := ⟨k - 1, by omega⟩
    simp only [remoraref08_Size.l0]
    rw [if_neg (by omega), end40 hi]
    rfl
  | succ d ih =>
    intro k i n hi hk
    obtain ⟨k, rfl⟩ : ∃ m, k = m + 1 := ⟨k - 1, by omega⟩
    have hlt : i < l.length := by omega
    simp only [remoraref08_Size.l0]
    rw [if_pos (by omega), if_pos (by omega), len_r, Option.bind_some, step40 hlt, inc hlt hn]
    exact ih k (i + 1) _ (by omega) (by omega)
theorem size_r (l : List S40) (hn : l.length ≤ 4000000000000) {k : Nat} (hk : l.length < k) : remoraref08_Size.f k l = some (sizeL 0 l) := by
  have := rsize_loop l hn l.length k 0 0 (by omega) (by omega)
  rw [List.drop_zero] at this
  exact this
theorem right_r (b : Int) (o : S40) (K : Option Int) : ((remoraref08_Right.f o.f0 o.f1 o.f2).bind fun t => (if t = true then (if (o.f2.length : Int) = 0 then (if o.f0 > b then (some 3) else (if o.f1 > (wrap64 (b - o.f0)) then (some 3) else K)) else K) else (some 2))) = if oneF b o = 0 then K else some (oneF b o) := by
  unfold remoraref08_Right.f oneF
  by_cases h : (o.f2.length : Int) > 0
  · rw [if_pos h, if_pos h]
    by_cases h0 : o.f0 = 0
    · rw [if_pos h0, if_pos h0, Option.bind_some]
      by_cases h1 : o.f1 = 0
      · rw [if_pos h1, if_pos (by rw [h1]; rfl), if_neg (by omega), if_pos rfl]
      · rw [if_neg h1, if_neg (by simpa using h1), if_neg (by decide)]
    · rw [if_neg h0, if_neg h0, Option.bind_some, if_neg (by decide), if_neg (by decide)]
  · rw [if_neg h, if_neg h]
    by_cases h0 : o.f0 < 0
    · rw [if_pos h0, if_neg (by omega), Option.bind_some, if_neg (by decide), if_neg (by decide)]
    · rw [if_neg h0, if_pos (by omega), Option.bind_some]
      by_cases h1 : o.f1 < 1
      · rw [if_pos h1, decide_eq_false (by omega), if_neg (by decide), if_neg (by decide)]
      · rw [if_neg h1, decide_eq_true (by omega), if_pos rfl, if_pos (by omega)]
        by_cases h2 : o.f0 > b
        · rw [if_pos h2, if_pos h2, if_neg (by decide)]
        · rw [if_neg h2, if_neg h2]
          by_cases h3 : o.f1 > wrap64 (b - o.f0)
          · rw [if_pos h3, if_pos h3, if_neg (by decide)]
          · rw [if_neg h3, if_neg h3, if_pos rfl]
theorem rcheck_loop (b : Int) (l : List S40) (hn : l.length ≤ 4000000000000) : ∀ (d k i : Nat), i + d = l.length → d + l.length + 1 < k → remoraref08_Check.l0 k l b (i : Int) = some (resF b (l.length : Int) (sizeL 0 l) (l.drop i)) := by
  intro d
  induction d with
  | zero =>
    intro k i hi hk
    obtain ⟨k, rfl⟩ : ∃ m, k = m + 1 := ⟨k - 1, by omega⟩
    simp only [remoraref08_Check.l0]
    rw [if_neg (by omega), end40 hi, size_r l hn (by omega), Option.bind_some, end_if]
    rfl
  | succ d ih =>
    intro k i hi hk
    obtain ⟨k, rfl⟩ : ∃ m, k = m + 1 := ⟨k - 1, by omega⟩
    have hlt : i < l.length := by omega
    simp only [remoraref08_Check.l0]
    rw [if_pos (by omega), if_pos (by omega), right_r, step40 hlt, inc hlt hn]
    by_cases h : oneF b (rd_T40 l (i : Int)) = 0
    · rw [if_pos h, res_yes h]
      exact ih k (i + 1) (by omega) (by omega)
    · rw [if_neg h, res_no h]
theorem check_r (b : Int) (l : List S40) (hn : l.length ≤ 4000000000000) {k : Nat} (hk : 2 * l.length + 2 < k) : remoraref08_Check.f k l b = some (chkF b l) := by
  obtain ⟨k, rfl⟩ : ∃ m, k = m + 1 := ⟨k - 1, by omega⟩
  unfold remoraref08_Check.f chkF
  by_cases h0 : b < 0
  · rw [if_pos h0, if_pos h0]
    simp only [remoraref08_Check.j0]
    rw [if_pos trivial]
  · rw [if_neg h0, if_neg h0]
    simp only [remoraref08_Check.j0]
    by_cases h1 : b > 131072
    · rw [decide_eq_true h1, if_pos rfl, if_pos h1]
    · rw [decide_eq_false h1, if_neg (by decide), if_neg h1]
      have := rcheck_loop b l hn l.length k 0 (by omega) (by omega)
      rw [List.drop_zero] at this
      exact this
theorem one_zero {b : Int} {o : S40} (hb : 0 ≤ b ∧ b ≤ 131072) (h : oneF b o = 0) : ((o.f2.length : Int) > 0 ∧ o.f0 = 0 ∧ o.f1 = 0) ∨ (o.f2 = [] ∧ 0 ≤ o.f0 ∧ o.f0 ≤ b ∧ 1 ≤ o.f1 ∧ o.f0 + o.f1 ≤ b) := by
  unfold oneF at h
  by_cases h0 : (o.f2.length : Int) > 0
  · rw [if_pos h0] at h
    by_cases h1 : o.f0 = 0
    · rw [if_pos h1] at h
      by_cases h2 : o.f1 = 0
      · exact .inl ⟨h0, h1, h2⟩
      · rw [if_neg h2] at h; cases h
    · rw [if_neg h1] at h; cases h
  · rw [if_neg h0] at h
    by_cases h1 : o.f0 < 0
    · rw [if_pos h1] at h; cases h
    · rw [if_neg h1] at h
      by_cases h2 : o.f1 < 1
      · rw [if_pos h2] at h; cases h
      · rw [if_neg h2] at h
        by_cases h3 : o.f0 > b
        · rw [if_pos h3] at h; cases h
        · rw [if_neg h3] at h
          by_cases h4 : o.f1 > wrap64 (b - o.f0)
          · rw [if_pos h4] at h; cases h
          · rw [w64 _ (by omega) (by omega)] at h4
            exact .inr ⟨List.eq_nil_of_length_eq_zero (by omega), by omega, by omega, by omega, by omega⟩
theorem one_of_told {b : Int} {o : S40} (h0 : (o.f2.length : Int) > 0) (h1 : o.f0 = 0) (h2 : o.f1 = 0) : oneF b o = 0 := by
  unfold oneF
  rw [if_pos h0, if_pos h1, if_pos h2]
theorem one_of_copy {b : Int} {o : S40} (hb : 0 ≤ b ∧ b ≤ 131072) (h0 : o.f2 = []) (h1 : 0 ≤ o.f0) (h2 : 1 ≤ o.f1) (h3 : o.f0 + o.f1 ≤ b) : oneF b o = 0 := by
  unfold oneF
  rw [if_neg (by rw [h0]; decide), if_neg (by omega), if_neg (by omega), if_neg (by omega), if_neg (by rw [w64 _ (by omega) (by omega)]; omega)]
theorem chk_all {b : Int} : ∀ {l : List S40}, chkL b l = 0 → ∀ o ∈ l, oneF b o = 0
  | [], _, _, h => by cases h
  | x :: l, hc, o, ho => by
    by_cases hx : oneF b x = 0
    · rw [chkL, if_pos hx] at hc
      rcases List.mem_cons.1 ho with rfl | ho
      · exact hx
      · exact chk_all hc o ho
    · rw [chkL, if_neg hx] at hc
      exact absurd hc hx
theorem all_chk {b : Int} : ∀ {l : List S40}, (∀ o ∈ l, oneF b o = 0) → chkL b l = 0
  | [], _ => rfl
  | x :: l, h => by
    rw [chkL, if_pos (h x List.mem_cons_self)]
    exact all_chk (fun o ho => h o (List.mem_cons_of_mem _ ho))
theorem chkF_zero {b : Int} {l : List S40} (h : chkF b l = 0) : (0 ≤ b ∧ b ≤ 131072) ∧ (∀ o ∈ l, oneF b o = 0) ∧ l.length ≤ 8192 ∧ sizeL 0 l ≤ 65536 := by
  unfold chkF at h
  by_cases h0 : b < 0
  · rw [if_pos h0] at h; cases h
  rw [if_neg h0] at h
  by_cases h1 : b > 131072
  · rw [if_pos h1] at h; cases h
  rw [if_neg h1] at h
  unfold resF at h
  by_cases h2 : chkL b l = 0
  · rw [if_pos h2] at h
    unfold endF at h
    by_cases h3 : (l.length : Int) > 8192
    · rw [if_pos h3] at h; cases h
    rw [if_neg h3] at h
    by_cases h4 : sizeL 0 l > 65536
    · rw [if_pos h4] at h; cases h
    exact ⟨by omega, chk_all h2, by omega, by omega⟩
  · rw [if_neg h2] at h
    exact absurd h h2
theorem zero_chkF {b : Int} {l : List S40} (hb : 0 ≤ b ∧ b ≤ 131072) (h1 : ∀ o ∈ l, oneF b o = 0) (h2 : l.length ≤ 8192) (h3 : sizeL 0 l ≤ 65536) : chkF b l = 0 := by
  unfold chkF resF endF
  rw [if_neg (by omega), if_neg (by omega), if_pos (all_chk h1), if_neg (by omega), if_neg (by omega)]
def mkF (base : List Int) (o : S40) : List Int := if (o.f2.length : Int) > 0 then o.f2 else (base.take (wrap64 (o.f0 + o.f1)).toNat).drop o.f0.toNat
def mkL (base : List Int) : List S40 → List Int
  | [] => []
  | o :: l => mkF base o ++ mkL base l
theorem mkL_append (base : List Int) : ∀ (l m : List S40), mkL base (l ++ m) = mkL base l ++ mkL base m
  | [], _ => rfl
  | o :: l, m => by
    show mkF base o ++ mkL base (l ++ m) = (mkF base o ++ mkL base l) ++ mkL base m
    rw [mkL_append, List.append_assoc]
theorem apply_loop (base : List Int) (hb : base.length ≤ 131072) (l : List S40) (hn : l.length ≤ 10000) (hd : ∀ o ∈ l, o.f2.length ≤ 131072) (hc : ∀ o ∈ l, oneF (base.length : Int) o = 0) : ∀ (d k i : Nat) (out : List Int), i + d = l.length → d < k → out.length ≤ i * 131072 → delta_Apply.l0 k base out l (l.length : Int) (i : Int) = some (out ++ mkL base (l.drop i), 0) := by
  intro d
  induction d with
  | zero =>
    intro k i out hi hk ho
    obtain ⟨k, rfl⟩ : ∃ m, k = m + 1 := ⟨k - 1, by omega⟩
    simp only [delta_Apply.l0]
    rw [if_neg (by omega), end40 hi]
    simp only [mkL, List.append_nil]
  | succ d ih =>
    intro k i out hi hk ho
    obtain ⟨k, rfl⟩ : ∃ m, k = m + 1 := ⟨k - 1, by omega⟩
    have hlt : i < l.length := by omega
    have hm : rd_T40 l (i : Int) ∈ l := by rw [rd40 hlt]; exact List.getElem_mem hlt
    have h1 := hd _ hm
    have h2 := one_zero (b := (base.length : Int)) (by omega) (hc _ hm)
    simp only [delta_Apply.l0]
    rw [if_pos (by omega), if_pos (by omega), if_pos (by omega), told_d, Option.bind_some, step40 hlt, inc hlt (by omega)]
    simp only [mkL]
    generalize rd_T40 l (i : Int) = o at *
    rcases h2 with ⟨ht, _, _⟩ | ⟨he, h3, h4, h5, h6⟩
    · rw [decide_eq_true ht, if_pos rfl, if_pos (by omega), ih k (i + 1) _ (by omega) (by omega) (by rw [List.length_append]; omega), List.append_assoc, show mkF base o = o.f2 by unfold mkF; rw [if_pos ht]]
    · have hw : wrap64 (o.f0 + o.f1) = o.f0 + o.f1 := w64 _ (by omega) (by omega)
      have hl : ((base.take (wrap64 (o.f0 + o.f1)).toNat).drop o.f0.toNat).length ≤ 131072 := by
        rw [List.length_drop, List.length_take]
        omega
      rw [decide_eq_false (by rw [he]; decide), if_neg (by decide), if_pos h3, if_pos (by rw [hw]; omega), if_pos (by rw [hw]; omega), if_pos (by omega), ih k (i + 1) _ (by omega) (by omega) (by rw [List.length_append]; omega), List.append_assoc, show mkF base o = (base.take (wrap64 (o.f0 + o.f1)).toNat).drop o.f0.toNat by unfold mkF; rw [if_neg (by rw [he]; decide)]]
def applyF (base : List Int) (l : List S40) : List Int × Int := if chkF (base.length : Int) l = 0 then (mkL base l, 0) else ([], chkF (base.length : Int) l)
theorem apply_d (base : List Int) (l : List S40) (hn : l.length ≤ 10000) (hd : ∀ o ∈ l, o.f2.length ≤ 131072) {k : Nat} (hk : l.length + 2 < k) : delta_Apply.f k base l = some (applyF base l) := by
  unfold delta_Apply.f applyF
  rw [check_d _ l (by omega) hk, Option.bind_some]
  by_cases h : chkF (base.length : Int) l = 0
  · rw [if_pos h, if_pos h]
    obtain ⟨h1, h2, _, _⟩ := chkF_zero h
    have := apply_loop base (by omega) l hn hd h2 l.length k 0 [] (by omega) (by omega) (by simp)
    rw [List.drop_zero, List.nil_append] at this
    exact this
  · rw [if_neg h, if_neg h]
theorem map_of_to (l : List S40) : (l.map toT).map ofT = l := by
  rw [List.map_map]
  exact List.map_id l
def told (o : S40) : Prop := o.f2 ≠ []
def skp (o : S40) : Prop := o.f2 = [] ∧ o.f1 ≤ 0
def nrmS (o : S40) : S40 := if o.f2 = [] then o else ⟨0, 0, o.f2⟩
def goS (p o : S40) : Prop := o.f1 ≤ 131072 ∧ 0 ≤ p.f0 ∧ p.f0 ≤ 131072 ∧ p.f1 ≤ wrap64 (131072 - p.f0) ∧ wrap64 (p.f0 + p.f1) = o.f0
instance (p o : S40) : Decidable (goS p o) := by unfold goS; infer_instance
def joinS (p o : S40) : List S40 :=
  if p.f2 = [] then (if o.f2 = [] then (if goS p o then [⟨p.f0, wrap64 (p.f1 + o.f1), p.f2⟩] else [p, nrmS o]) else [p, nrmS o])
  else if o.f2 = [] then [p, nrmS o] else [⟨p.f0, p.f1, p.f2 ++ o.f2⟩]
def addS (xs : List S40) (o : S40) : List S40 := (Jn.addL (xs.map toT) (toT o)).map ofT
theorem nrm_of (o : S40) : ofT (Jn.nrm (toT o)) = nrmS o := by
  unfold Jn.nrm nrmS
  show ofT (if o.f2 = [] then toT o else (0, 0, o.f2)) = _
  split <;> rfl
theorem join_of (p o : S40) : (Jn.join2 (toT p) (toT o)).map ofT = joinS p o := by
  unfold Jn.join2 joinS
  show (if p.f2 = [] then (if o.f2 = [] then (if goS p o then [((toT p).1, wrap64 ((toT p).2.1 + (toT o).2.1), (toT p).2.2)] else [toT p, Jn.nrm (toT o)]) else [toT p, Jn.nrm (toT o)]) else if o.f2 = [] then [toT p, Jn.nrm (toT o)] else [((toT p).1, (toT p).2.1, (toT p).2.2 ++ (toT o).2.2)]).map ofT = _
  have hn : [toT p, Jn.nrm (toT o)].map ofT = [p, nrmS o] := by rw [List.map_cons, List.map_cons, nrm_of]; rfl
  by_cases h1 : p.f2 = []
  · rw [if_pos h1, if_pos h1]
    by_cases h2 : o.f2 = []
    · rw [if_pos h2, if_pos h2]
      by_cases h3 : goS p o
      · rw [if_pos h3, if_pos h3]; rfl
      · rw [if_neg h3, if_neg h3]; exact hn
    · rw [if_neg h2, if_neg h2]; exact hn
  · rw [if_neg h1, if_neg h1]
    by_cases h2 : o.f2 = []
    · rw [if_pos h2, if_pos h2]; exact hn
    · rw [if_neg h2, if_neg h2]; rfl
theorem add_skip {xs : List S40} {o : S40} (h : skp o) : addS xs o = xs := by
  have e : Jn.addL (xs.map toT) (toT o) = xs.map toT := by unfold Jn.addL; rw [if_pos (show (toT o).2.2 = [] ∧ (toT o).2.1 ≤ 0 from h)]
  unfold addS
  rw [e, map_of_to]
theorem add_nil {o : S40} (h : ¬ skp o) : addS [] o = [nrmS o] := by
  unfold addS
  rw [List.map_nil, Jn.addL_nil (toT o) h, List.map_cons, nrm_of]
  rfl
theorem add_snoc {ys : List S40} {p o : S40} (h : ¬ skp o) : addS (ys ++ [p]) o = ys ++ joinS p o := by
  unfold addS
  rw [List.map_append, show [p].map toT = [toT p] from rfl, Jn.addL_snoc (ys.map toT) (toT p) (toT o) h, List.map_append, map_of_to, join_of]
def normS (l : List S40) : List S40 := l.foldl addS []
theorem fold_of : ∀ (l xs : List S40), ((l.map toT).foldl Jn.addL (xs.map toT)).map ofT = l.foldl addS xs
  | [], xs => map_of_to xs
  | o :: l, xs => by
    rw [List.map_cons, List.foldl_cons, List.foldl_cons, ← fold_of l (addS xs o)]
    unfold addS
    rw [map_to_of]
theorem wt_le (l : List S40) (h : ∀ o ∈ l, o.f2.length ≤ 65536) : Jn.wt (l.map toT) ≤ l.length * 65536 := by
  induction l with
  | nil => simp [Jn.wt_nil]
  | cons o l ih =>
    rw [List.map_cons, Jn.wt_cons, List.length_cons]
    have h1 := ih (fun x hx => h x (List.mem_cons_of_mem _ hx))
    have h2 : (toT o).2.2.length ≤ 65536 := h o List.mem_cons_self
    omega
theorem norm_d {l : List S40} (hs : l.length ≤ 10000) (hd : ∀ o ∈ l, o.f2.length ≤ 65536) : delta_Norm.f l = some (normS l) := by
  unfold delta_Norm.f
  have := wt_le l hd
  rw [if_pos ⟨by omega, by omega⟩]
  exact congrArg some (fold_of l [])
def NJ (x y : S40) : Prop := ¬ (x.f2 ≠ [] ∧ y.f2 ≠ []) ∧ ¬ (x.f2 = [] ∧ y.f2 = [] ∧ goS x y)
def CH (xs : List S40) : Prop := ∀ (i : Nat) (x y : S40), xs[i]? = some x → xs[i + 1]? = some y → NJ x y
def GD (o : S40) : Prop := (o.f2 ≠ [] → o.f0 = 0 ∧ o.f1 = 0) ∧ (o.f2 = [] → 1 ≤ o.f1)
theorem ch_nil : CH [] := fun i x y h => by simp at h
theorem ch_one (p : S40) : CH [p] := fun i x y _ h => by simp at h
theorem ch_two {A : List S40} {p q : S40} (h : CH (A ++ [p])) (hn : NJ p q) : CH (A ++ [p, q]) := by
  intro i x y hx hy
  have e : A ++ [p, q] = (A ++ [p]) ++ [q] := by simp
  rw [e] at hx hy
  have hlen : (A ++ [p]).length = A.length + 1 := by simp
  by_cases hi : i + 1 < A.length + 1
  · rw [List.getElem?_append_left (by omega)] at hx hy
    exact h i x y hx hy
  · have hlt := (List.getElem?_eq_some_iff.1 hy).1
    rw [List.length_append, hlen, List.length_singleton] at hlt
    have hi2 : i = A.length := by omega
    subst hi2
    rw [List.getElem?_append_left (by omega), List.getElem?_append_right (Nat.le_refl _), Nat.sub_self] at hx
    rw [List.getElem?_append_right (by omega), hlen, Nat.sub_self] at hy
    obtain rfl := Option.some.inj hx
    obtain rfl := Option.some.inj hy
    exact hn
theorem ch_last {A : List S40} {p p' : S40} (h : CH (A ++ [p])) (hn : ∀ x, NJ x p → NJ x p') : CH (A ++ [p']) := by
  intro i x y hx hy
  have hlt := (List.getElem?_eq_some_iff.1 hy).1
  rw [List.length_append, List.length_singleton] at hlt
  rw [List.getElem?_append_left (by omega)] at hx
  by_cases hi : i + 1 < A.length
  · rw [List.getElem?_append_left hi] at hy
    exact h i x y (by rw [List.getElem?_append_left (by omega)]; exact hx) (by rw [List.getElem?_append_left hi]; exact hy)
  · have hi2 : i + 1 = A.length := by omega
    rw [List.getElem?_append_right (by omega), hi2, Nat.sub_self] at hy
    obtain rfl := Option.some.inj hy
    exact hn x (h i x p (by rw [List.getElem?_append_left (by omega)]; exact hx) (by rw [List.getElem?_append_right (by omega), hi2, Nat.sub_self]; rfl))
theorem go_sum {p o : S40} (h : goS p o) (hp : 1 ≤ p.f1) (ho : 1 ≤ o.f1) : wrap64 (p.f1 + o.f1) = p.f1 + o.f1 ∧ p.f0 + p.f1 = o.f0 ∧ p.f1 ≤ 131072 - p.f0 := by
  obtain ⟨h1, h2, h3, h4, h5⟩ := h
  rw [w64 (131072 - p.f0) (by omega) (by omega)] at h4
  rw [w64 (p.f0 + p.f1) (by omega) (by omega)] at h5
  exact ⟨w64 _ (by omega) (by omega), h5, h4⟩
theorem gd_nrm {o : S40} (h : ¬ skp o) : GD (nrmS o) := by
  unfold nrmS
  by_cases h2 : o.f2 = []
  · rw [if_pos h2]
    exact ⟨fun h3 => absurd h2 h3, fun _ => by
      rcases Int.lt_or_le o.f1 1 with h4 | h4
      · exact absurd ⟨h2, by omega⟩ h
      · exact h4⟩
  · rw [if_neg h2]
    exact ⟨fun _ => ⟨rfl, rfl⟩, fun h3 => absurd h3 h2⟩
theorem nrm_two {o : S40} : (nrmS o).f2 = o.f2 := by
  unfold nrmS
  split <;> rfl
theorem inv_add {xs : List S40} {o : S40} (hc : CH xs) (hg : ∀ x ∈ xs, GD x) : CH (addS xs o) ∧ ∀ x ∈ addS xs o, GD x := by
  by_cases hk : skp o
  · rw [add_skip hk]
    exact ⟨hc, hg⟩
  rcases Jn.snoc_cases xs with rfl | ⟨ys, p, rfl⟩
  · rw [add_nil hk]
    exact ⟨ch_one _, fun x hx => by rw [List.mem_singleton.1 hx]; exact gd_nrm hk⟩
  rw [add_snoc hk]
  have hp := hg p (by simp)
  have hg' : ∀ x ∈ ys, GD x := fun x hx => hg x (by simp [hx])
  have two : NJ p (nrmS o) → CH (ys ++ [p, nrmS o]) ∧ ∀ x ∈ ys ++ [p, nrmS o], GD x := fun hn => ⟨ch_two hc hn, fun x hx => by
    rcases List.mem_append.1 hx with hx | hx
    · exact hg' x hx
    · simp only [List.mem_cons, List.not_mem_nil, or_false] at hx
      rcases hx with rfl | rfl
      · exact hp
      · exact gd_nrm hk⟩
  have one : ∀ p' : S40, (∀ x, NJ x p → NJ x p') → GD p' → CH (ys ++ [p']) ∧ ∀ x ∈ ys ++ [p'], GD x := fun p' hn hd => ⟨ch_last hc hn, fun x hx => by
    rcases List.mem_append.1 hx with hx | hx
    · exact hg' x hx
    · rw [List.mem_singleton.1 hx]
      exact hd⟩
  unfold joinS
  by_cases h1 : p.f2 = []
  · rw [if_pos h1]
    by_cases h2 : o.f2 = []
    · rw [if_pos h2]
      have ho : 1 ≤ o.f1 := by
        rcases Int.lt_or_le o.f1 1 with h4 | h4
        · exact absurd ⟨h2, by omega⟩ hk
        · exact h4
      by_cases h3 : goS p o
      · rw [if_pos h3]
        obtain ⟨e1, e2, e3⟩ := go_sum h3 (hp.2 h1) ho
        refine one _ (fun x hx => ⟨fun h => h.2 h1, fun h => hx.2 ⟨h.1, h1, ?_⟩⟩) ⟨fun h => absurd h1 h, fun _ => ?_⟩
        · obtain ⟨_, _, q1, q2, q3, q4, q5⟩ := h
          have q1' : wrap64 (p.f1 + o.f1) ≤ 131072 := q1
          exact ⟨by rw [e1] at q1'; omega, q2, q3, q4, q5⟩
        · show 1 ≤ wrap64 (p.f1 + o.f1)
          have := hp.2 h1
          rw [e1]
          omega
      · rw [if_neg h3]
        have e : nrmS o = o := by unfold nrmS; rw [if_pos h2]
        refine two ⟨fun h => h.1 h1, fun h => h3 ?_⟩
        rw [← e]
        exact h.2.2
    · rw [if_neg h2]
      exact two ⟨fun h => h.1 h1, fun h => h2 (by rw [← nrm_two (o := o)]; exact h.2.1)⟩
  · rw [if_neg h1]
    by_cases h2 : o.f2 = []
    · rw [if_pos h2]
      exact two ⟨fun h => h.2 (by rw [nrm_two]; exact h2), fun h => h1 h.1⟩
    · rw [if_neg h2]
      exact one _ (fun x hx => ⟨fun h => hx.1 ⟨h.1, h1⟩, fun h => by
        have h3 : p.f2 ++ o.f2 = [] := h.2.1
        exact h1 (List.append_eq_nil_iff.1 h3).1⟩) ⟨fun _ => hp.1 h1, fun h => by
        have h3 : p.f2 ++ o.f2 = [] := h
        exact absurd (List.append_eq_nil_iff.1 h3).1 h1⟩
theorem inv_fold : ∀ (l xs : List S40), CH xs → (∀ x ∈ xs, GD x) → CH (l.foldl addS xs) ∧ ∀ x ∈ l.foldl addS xs, GD x
  | [], _, hc, hg => ⟨hc, hg⟩
  | o :: l, xs, hc, hg => by
    rw [List.foldl_cons]
    obtain ⟨h1, h2⟩ := inv_add (o := o) hc hg
    exact inv_fold l _ h1 h2
theorem inv_norm (l : List S40) : CH (normS l) ∧ ∀ x ∈ normS l, GD x := inv_fold l [] ch_nil (fun _ h => by cases h)
theorem join_len (p o : S40) : (joinS p o).length ≤ 2 := by
  unfold joinS
  (repeat' split) <;> simp
theorem add_len (xs : List S40) (o : S40) : (addS xs o).length ≤ xs.length + 1 := by
  by_cases hk : skp o
  · rw [add_skip hk]; omega
  rcases Jn.snoc_cases xs with rfl | ⟨ys, p, rfl⟩
  · rw [add_nil hk]; simp
  · rw [add_snoc hk, List.length_append, List.length_append]
    have := join_len p o
    simp only [List.length_singleton]
    omega
theorem fold_lenS : ∀ (l xs : List S40), (l.foldl addS xs).length ≤ xs.length + l.length
  | [], xs => by simp
  | o :: l, xs => by
    have h1 := fold_lenS l (addS xs o)
    have h2 := add_len xs o
    rw [List.foldl_cons, List.length_cons]
    omega
theorem norm_len (l : List S40) : (normS l).length ≤ l.length := by
  have := fold_lenS l []
  rw [List.length_nil, Nat.zero_add] at this
  exact this
theorem same_loop (l : List S40) (hn : l.length ≤ 4000000000000) : ∀ (d k i : Nat), i + d = l.length → d < k → remoraref08_Same.l0 k l l (i : Int) = some true := by
  intro d
  induction d with
  | zero =>
    intro k i hi hk
    obtain ⟨k, rfl⟩ : ∃ m, k = m + 1 := ⟨k - 1, by omega⟩
    simp only [remoraref08_Same.l0]
    rw [if_neg (by omega)]
  | succ d ih =>
    intro k i hi hk
    obtain ⟨k, rfl⟩ : ∃ m, k = m + 1 := ⟨k - 1, by omega⟩
    have hlt : i < l.length := by omega
    simp only [remoraref08_Same.l0]
    rw [if_pos (by omega), if_pos (by omega), if_pos (by omega), if_pos trivial, if_pos trivial, if_pos trivial, inc hlt hn]
    exact ih k (i + 1) (by omega) (by omega)
theorem same_of (l : List S40) (hn : l.length ≤ 4000000000000) {k : Nat} (hk : l.length < k) : remoraref08_Same.f k l l = some true := by
  unfold remoraref08_Same.f
  rw [if_pos rfl]
  exact same_loop l hn l.length k 0 (by omega) (by omega)
theorem dsame_loop (l : List S40) (hn : l.length ≤ 4000000000000) : ∀ (d k i : Nat), i + d = l.length → d < k → delta_Same.l0 k l l (l.length : Int) (i : Int) = some true := by
  intro d
  induction d with
  | zero =>
    intro k i hi hk
    obtain ⟨k, rfl⟩ : ∃ m, k = m + 1 := ⟨k - 1, by omega⟩
    simp only [delta_Same.l0]
    rw [if_neg (by omega)]
  | succ d ih =>
    intro k i hi hk
    obtain ⟨k, rfl⟩ : ∃ m, k = m + 1 := ⟨k - 1, by omega⟩
    have hlt : i < l.length := by omega
    have he : ∀ x : List Int, bytes_Equal.f x x = some true := fun x => by unfold bytes_Equal.f; rw [beq_self_eq_true]
    simp only [delta_Same.l0]
    rw [if_pos (by omega), if_pos (by omega), if_pos (by omega), if_pos (by omega), if_pos trivial, if_pos trivial, he, Option.bind_some, if_pos rfl, inc hlt hn]
    exact ih k (i + 1) (by omega) (by omega)
theorem dsame_of (l : List S40) (hn : l.length ≤ 4000000000000) {k : Nat} (hk : l.length < k) : delta_Same.f k l l = some true := by
  unfold delta_Same.f
  rw [if_pos rfl]
  exact dsame_loop l hn l.length k 0 (by omega) (by omega)
theorem to_of (t : Jn.T3) : toT (ofT t) = t := rfl
theorem nrm_to (o : S40) : Jn.nrm (toT o) = toT (nrmS o) := by rw [← nrm_of, to_of]
theorem ln_zero (o : S40) : ln o = 0 ↔ skp o := by
  unfold ln skp
  by_cases h : o.f2 = []
  · rw [if_neg (by rw [h]; decide)]
    unfold mx
    constructor
    · intro h1
      refine ⟨h, ?_⟩
      split at h1 <;> omega
    · intro h1
      have := h1.2
      split <;> omega
  · have := List.length_pos_iff.2 h
    rw [if_pos (by omega)]
    constructor
    · intro h1; omega
    · intro h1; exact absurd h1.1 h
theorem goes_copy {x y : S40} (h1 : x.f2 = []) (h2 : y.f2 = []) (h3 : 1 ≤ x.f1) (h4 : 1 ≤ y.f1) : remoraref08_Goes.f x.f0 x.f1 x.f2 y.f0 y.f1 y.f2 = some (decide (goS x y)) := by
  unfold remoraref08_Goes.f
  rw [if_neg (by rw [h1]; decide), if_neg (by rw [h2]; decide), if_pos (show x.f1 ≥ 1 from h3), if_pos (show y.f1 ≥ 1 from h4)]
  by_cases c3 : y.f1 ≤ 131072
  · rw [if_pos c3]
    by_cases c4 : x.f0 ≥ 0
    · rw [if_pos c4]
      by_cases c5 : x.f0 ≤ 131072
      · rw [if_pos c5]
        by_cases c6 : x.f1 ≤ wrap64 (131072 - x.f0)
        · rw [if_pos c6]
          by_cases c7 : wrap64 (x.f0 + x.f1) = y.f0
          · rw [decide_eq_true (show goS x y from ⟨c3, c4, c5, c6, c7⟩), c7, beq_self_eq_true]
          · rw [decide_eq_false (show ¬ goS x y from fun h => c7 h.2.2.2.2), beq_eq_false_iff_ne.mpr (fun e => c7 e.symm)]
        · rw [if_neg c6, decide_eq_false (show ¬ goS x y from fun h => c6 h.2.2.2.1)]
      · rw [if_neg c5, decide_eq_false (show ¬ goS x y from fun h => c5 h.2.2.1)]
    · rw [if_neg c4, decide_eq_false (show ¬ goS x y from fun h => c4 h.2.1)]
  · rw [if_neg c3, decide_eq_false (show ¬ goS x y from fun h => c3 h.1)]
theorem addR_of {xs : List S40} {o : S40} (hg : ∀ x ∈ xs, GD x) : addR (xs.map toT) o = some ((addS xs o).map toT) := by
  unfold addR
  rw [len_r, Option.bind_some]
  by_cases hk : skp o
  · rw [if_pos ((ln_zero o).2 hk), add_skip hk]
  rw [if_neg (fun h => hk ((ln_zero o).1 h))]
  rcases Jn.snoc_cases xs with rfl | ⟨ys, p, rfl⟩
  · rw [add_nil hk, nrm_to]
    rfl
  rw [List.map_append, show [p].map toT = [toT p] from rfl, List.getLast?_concat]
  simp only []
  rw [add_snoc hk, List.map_append, nrm_to]
  have hp := hg p (by simp)
  have two : some (ys.map toT ++ [toT p] ++ [toT (nrmS o)]) = some (ys.map toT ++ [p, nrmS o].map toT) := by simp
  unfold joinS
  show ((remoraref08_Goes.f p.f0 p.f1 p.f2 (nrmS o).f0 (nrmS o).f1 (nrmS o).f2).bind _) = _
  by_cases h1 : p.f2 = []
  · rw [if_pos h1]
    by_cases h2 : o.f2 = []
    · have e : nrmS o = o := by unfold nrmS; rw [if_pos h2]
      have ho : 1 ≤ o.f1 := by
        rcases Int.lt_or_le o.f1 1 with h4 | h4
        · exact absurd ⟨h2, by omega⟩ hk
        · exact h4
      rw [if_pos h2, e, goes_copy h1 h2 (hp.2 h1) ho, Option.bind_some]
      by_cases h3 : goS p o
      · rw [decide_eq_true h3, if_pos rfl, if_pos h2, if_pos h3, List.dropLast_concat]
        rfl
      · rw [decide_eq_false h3, if_neg (by decide), if_neg h3]
        rw [e] at two
        rw [two]
        (repeat' split) <;> rfl
    · have hpos := List.length_pos_iff.2 h2
      have e : remoraref08_Goes.f p.f0 p.f1 p.f2 (nrmS o).f0 (nrmS o).f1 (nrmS o).f2 = some false := by
        unfold remoraref08_Goes.f
        rw [if_neg (by rw [h1]; decide), if_pos (by rw [nrm_two]; omega)]
      rw [e, Option.bind_some, if_neg (by decide), two, if_neg h2]
  · have hpp := List.length_pos_iff.2 h1
    rw [if_neg h1]
    by_cases h2 : o.f2 = []
    · have e : remoraref08_Goes.f p.f0 p.f1 p.f2 (nrmS o).f0 (nrmS o).f1 (nrmS o).f2 = some false := by
        unfold remoraref08_Goes.f
        rw [if_pos (by omega), decide_eq_false (by rw [nrm_two, h2]; decide)]
      rw [e, Option.bind_some, if_neg (by decide), two, if_pos h2]
    · have hpos := List.length_pos_iff.2 h2
      have e : remoraref08_Goes.f p.f0 p.f1 p.f2 (nrmS o).f0 (nrmS o).f1 (nrmS o).f2 = some true := by
        unfold remoraref08_Goes.f
        rw [if_pos (by omega), decide_eq_true (by rw [nrm_two]; omega)]
      rw [if_neg h2, e, Option.bind_some, if_pos rfl, if_neg h2, List.dropLast_concat]
      rfl
theorem rnorm_loop : ∀ (l xs : List S40), CH xs → (∀ x ∈ xs, GD x) → xs.length + l.length ≤ 10000 → Jn.wt (xs.map toT) + l.length * 65536 ≤ 900000000 → (∀ o ∈ l, o.f2.length ≤ 65536) → rnormL l (xs.map toT) = some ((l.foldl addS xs).map toT)
  | [], _, _, _, _, _, _ => rfl
  | o :: l, xs, hc, hg, h1, h2, hd => by
    rw [List.length_cons] at h1 h2
    have h3 := hd o List.mem_cons_self
    obtain ⟨h4, h5⟩ := inv_add (o := o) hc hg
    have h6 := Jn.addL_len (xs.map toT) (toT o)
    have h7 : (addS xs o).map toT = Jn.addL (xs.map toT) (toT o) := map_to_of _
    rw [← h7, List.length_map, List.length_map] at h6
    have h8 : (toT o).2.2.length = o.f2.length := rfl
    rw [rnormL, if_neg (by
      intro h
      rcases h with h | h
      · exact h ⟨by rw [List.length_map]; omega, by omega⟩
      · omega), addR_of hg, Option.bind_some, List.foldl_cons]
    exact rnorm_loop l (addS xs o) h4 h5 (by omega) (by omega) (fun x hx => hd x (List.mem_cons_of_mem _ hx))
theorem norm_r {l : List S40} (h1 : l.length ≤ 10000) (hd : ∀ o ∈ l, o.f2.length ≤ 65536) : remoraref08_Norm.f l = some (normS l) := by
  unfold remoraref08_Norm.f
  have := rnorm_loop l [] ch_nil (fun _ h => by cases h) (by rw [List.length_nil]; omega) (by rw [List.map_nil, Jn.wt_nil]; omega) hd
  rw [List.map_nil] at this
  rw [if_neg (by omega), this, Option.bind_some, map_of_to]
  rfl
theorem rapply_loop (base : List Int) (hb : base.length ≤ 131072) (l : List S40) (hn : l.length ≤ 10000) (hd : ∀ o ∈ l, o.f2.length ≤ 131072) (hc : ∀ o ∈ l, oneF (base.length : Int) o = 0) : ∀ (d k i : Nat) (out : List Int), i + d = l.length → d < k → out.length ≤ i * 131072 → remoraref08_Apply.l0 k base l out (i : Int) = some (out ++ mkL base (l.drop i), 0) := by
  intro d
  induction d with
  | zero =>
    intro k i out hi hk ho
    obtain ⟨k, rfl⟩ : ∃ m, k = m + 1 := ⟨k - 1, by omega⟩
    rw [remoraref08_Apply.l0, if_neg (by omega), end40 hi]
    simp only [mkL, List.append_nil]
  | succ d ih =>
    intro k i out hi hk ho
    obtain ⟨k, rfl⟩ : ∃ m, k = m + 1 := ⟨k - 1, by omega⟩
    have hlt : i < l.length := by omega
    have hm : rd_T40 l (i : Int) ∈ l := by rw [rd40 hlt]; exact List.getElem_mem hlt
    have h1 := hd _ hm
    have h2 := one_zero (b := (base.length : Int)) (by omega) (hc _ hm)
    rw [remoraref08_Apply.l0, if_pos (by omega), if_pos (by omega), if_pos (by omega), Option.bind_some, step40 hlt, inc hlt (by omega)]
    simp only [mkL]
    generalize rd_T40 l (i : Int) = o at *
    rcases h2 with ⟨ht, _, _⟩ | ⟨he, h3, h4, h5, h6⟩
    · rw [if_neg (by omega), ih k (i + 1) _ (by omega) (by omega) (by rw [List.length_append]; omega), List.append_assoc, show mkF base o = o.f2 by unfold mkF; rw [if_pos ht]]
    · have hw : wrap64 (o.f0 + o.f1) = o.f0 + o.f1 := w64 _ (by omega) (by omega)
      have hl : ((base.take (wrap64 (o.f0 + o.f1)).toNat).drop o.f0.toNat).length ≤ 131072 := by
        rw [List.length_drop, List.length_take]
        omega
      rw [if_pos (by rw [he]; rfl), if_pos h3, if_pos (by rw [hw]; omega), if_pos (by rw [hw]; omega), he, List.append_nil, if_pos (by omega), ih k (i + 1) _ (by omega) (by omega) (by rw [List.length_append]; omega), List.append_assoc, show mkF base o = (base.take (wrap64 (o.f0 + o.f1)).toNat).drop o.f0.toNat by unfold mkF; rw [if_neg (by rw [he]; decide)]]
theorem apply_r (base : List Int) (l : List S40) (hn : l.length ≤ 10000) (hd : ∀ o ∈ l, o.f2.length ≤ 131072) {k : Nat} (hk : 2 * l.length + 2 < k) : remoraref08_Apply.f k base l = some (applyF base l) := by
  unfold remoraref08_Apply.f applyF
  rw [check_r _ l (by omega) hk, Option.bind_some]
  by_cases h : chkF (base.length : Int) l = 0
  · rw [if_pos h, if_pos h]
    obtain ⟨h1, h2, _, _⟩ := chkF_zero h
    have := rapply_loop base (by omega) l hn hd h2 l.length k 0 [] (by omega) (by omega) (by simp)
    rw [List.drop_zero, List.nil_append] at this
    exact this
  · rw [if_neg h, if_neg h]
theorem two_loop (l m : List S40) (hlm : l.length = m.length) (hn : l.length ≤ 4000000000000) : ∀ (d k i : Nat), i + d = l.length → d < k → ∃ t, delta_Same.l0 k m l (l.length : Int) (i : Int) = some t ∧ remoraref08_Same.l0 k l m (i : Int) = some t := by
  intro d
  induction d with
  | zero =>
    intro k i hi hk
    obtain ⟨k, rfl⟩ : ∃ m, k = m + 1 := ⟨k - 1, by omega⟩
    refine ⟨true, ?_, ?_⟩
    · simp only [delta_Same.l0]
      rw [if_neg (by omega)]
    · simp only [remoraref08_Same.l0]
      rw [if_neg (by omega)]
  | succ d ih =>
    intro k i hi hk
    obtain ⟨k, rfl⟩ : ∃ m, k = m + 1 := ⟨k - 1, by omega⟩
    have hlt : i < l.length := by omega
    simp only [delta_Same.l0, remoraref08_Same.l0]
    simp only [if_pos (show (i : Int) < (l.length : Int) by omega), if_pos (show (0 : Int) ≤ (i : Int) by omega), if_pos (show (i : Int) < (m.length : Int) by omega), inc hlt hn]
    by_cases h0 : (rd_T40 l (i : Int)).f0 = (rd_T40 m (i : Int)).f0
    · rw [if_pos h0, if_pos h0]
      by_cases h1 : (rd_T40 l (i : Int)).f1 = (rd_T40 m (i : Int)).f1
      · rw [if_pos h1, if_pos h1]
        unfold bytes_Equal.f
        rw [Option.bind_some]
        by_cases h2 : (strOfNums (rd_T40 l (i : Int)).f2).toList = (strOfNums (rd_T40 m (i : Int)).f2).toList
        · rw [if_pos h2, h2, beq_self_eq_true, if_pos rfl]
          exact ih k (i + 1) (by omega) (by omega)
        · rw [if_neg h2, beq_eq_false_iff_ne.mpr h2, if_neg (by decide)]
          exact ⟨_, rfl, rfl⟩
      · rw [if_neg h1, if_neg h1]
        exact ⟨_, rfl, rfl⟩
    · rw [if_neg h0, if_neg h0]
      exact ⟨_, rfl, rfl⟩
theorem two_of (l m : List S40) (hn : l.length ≤ 4000000000000) {k : Nat} (hk : l.length < k) : ∃ t, delta_Same.f k l m = some t ∧ remoraref08_Same.f k l m = some t := by
  unfold delta_Same.f remoraref08_Same.f
  by_cases h : (l.length : Int) = (m.length : Int)
  · rw [if_pos h, if_pos h]
    exact two_loop l m (by omega) hn l.length k 0 (by omega) (by omega)
  · rw [if_neg h, if_neg h]
    exact ⟨_, rfl, rfl⟩
theorem whole_of (b : List Int) (h : b.length ≤ 2000) : ∃ w, delta_Whole.f b = some w ∧ remoraref08_Whole.f b = some w ∧ w.length ≤ 1 := by
  unfold delta_Whole.f remoraref08_Whole.f
  by_cases h0 : (b.length : Int) = 0
  · rw [if_pos h0, if_pos h0]
    exact ⟨_, rfl, rfl, by simp⟩
  · rw [if_neg h0, if_neg h0, show bytes_Clone.f b = some b by unfold bytes_Clone.f; rw [if_pos (by omega)], Option.bind_some, Option.bind_some, if_pos (by rw [List.length_nil]; omega), List.nil_append]
    exact ⟨_, rfl, rfl, by simp⟩

theorem DeltaApplies : remoralaw08_DeltaApplies.Pure := by
  intro base a b hb1 hb2 hla ha40 hlb hb40
  have hna := few ha40
  have hnb := few hb40
  have awake : ∀ k, remoralaw08_DeltaApplies.j0 (k + 1) base a b true = some true := fun k => by
    rw [remoralaw08_DeltaApplies.j0, if_pos rfl]
    rfl
  obtain ⟨K, hK⟩ : ∃ K, K = 2 * a.length + 2 * b.length + 4000 := ⟨_, rfl⟩
  refine ⟨K + 1, ?_⟩
  obtain ⟨t, h1, h2⟩ := small_of a hna (k := K + 1) (by omega)
  obtain ⟨t', h1', h2'⟩ := small_of b hnb (k := K + 1) (by omega)
  unfold remoralaw08_DeltaApplies.f
  rw [h1, Option.bind_some]
  by_cases ht : t = true
  · rw [if_pos ht, h1', Option.bind_some]
    by_cases ht' : t' = true
    · rw [if_pos ht']
      have hsa := h2 ht
      have h60 := hsa.2
      have hl := norm_len a
      by_cases hbig : (base.length : Int) > 2000
      · rw [decide_eq_true hbig]
        exact awake _
      · obtain ⟨w, w1, w2, w3⟩ := whole_of base (by omega)
        obtain ⟨u, u1, u2⟩ := two_of a b hna (k := K) (by omega)
        rw [decide_eq_false hbig, remoralaw08_DeltaApplies.j0, if_neg (by decide), apply_d base a (by omega) (fun o ho => Nat.le_trans (hsa.1 o ho) (by omega)) (by omega), Option.bind_some, apply_r base a (by omega) (fun o ho => Nat.le_trans (hsa.1 o ho) (by omega)) (by omega), Option.bind_some, if_pos rfl, if_pos rfl, norm_d (by omega) (fun o ho => Nat.le_trans (hsa.1 o ho) (by omega)), Option.bind_some, norm_r (by omega) (fun o ho => Nat.le_trans (hsa.1 o ho) (by omega)), Option.bind_some, same_of _ (by omega) (by omega), Option.bind_some, if_pos rfl, w1, Option.bind_some, w2, Option.bind_some, same_of w (by omega) (by omega), Option.bind_some, if_pos rfl, u1, Option.bind_some, u2, Option.bind_some, if_pos (beq_self_eq_true u), dsame_of a hna (by omega), Option.bind_some, if_pos rfl]
        rfl
    · rw [if_neg ht']
      exact awake _
  · rw [if_neg ht]
    exact awake _

end Go.Proofs.Ytifmajnhcbicnaa.Pure
