/- Ops put one behind the other make at once what the second ones make of what the first ones make, and are put together already, for at most 60 ops of at most 400 bytes each. Conditions: none. -/
import Derived.Test.YtifmajnhcbicnaaPDeltaComposesx4
namespace Go.Proofs.Ytifmajnhcbicnaa.Pure
open Go.RowKit Go.Proofs.Ytifmajnhcbicnaa.PDeltaComposes Go.Proofs.YtifmajnhcbicnaaW.PrintWords Go.Proofs.YtifmajnhcbicnaaW.PrintLast Go.Proofs.YtifmajnhcbicnaaW.PrintMore
set_option maxRecDepth 100000
set_option linter.unusedVariables false
theorem w64 (n : Int) (h0 : -9223372036854775808 ≤ n) (h1 : n ≤ 9223372036854775807) : wrap64 n = n := by unfold wrap64; omega
theorem wq (n : Int) : ∃ q : Int, wrap64 n = n + q * 18446744073709551616 ∧ -9223372036854775808 ≤ wrap64 n ∧ wrap64 n ≤ 9223372036854775807 := by
  refine ⟨-((n + 9223372036854775808) / 18446744073709551616), ?_, ?_, ?_⟩ <;> unfold wrap64 <;> omega
theorem wrap_comm (a b c : Int) : wrap64 (wrap64 (a + c) + b) = wrap64 (wrap64 (a + b) + c) := by
  obtain ⟨q1, e1, _, _⟩ := wq (a + c)
  obtain ⟨q2, e2, l2, u2⟩ := wq (wrap64 (a + c) + b)
  obtain ⟨q3, e3, _, _⟩ := wq (a + b)
  obtain ⟨q4, e4, l4, u4⟩ := wq (wrap64 (a + b) + c)
  generalize wrap64 (wrap64 (a + c) + b) = x2 at *
  generalize wrap64 (wrap64 (a + b) + c) = x4 at *
  generalize wrap64 (a + c) = x1 at *
  generalize wrap64 (a + b) = x3 at *
  omega
theorem wrap_add (a b c : Int) : wrap64 (a + wrap64 (b + c)) = wrap64 (wrap64 (a + b) + c) := by
  obtain ⟨q1, e1, _, _⟩ := wq (b + c)
  obtain ⟨q2, e2, l2, u2⟩ := wq (a + wrap64 (b + c))
  obtain ⟨q3, e3, _, _⟩ := wq (a + b)
  obtain ⟨q4, e4, l4, u4⟩ := wq (wrap64 (a + b) + c)
  generalize wrap64 (a + wrap64 (b + c)) = x2 at *
  generalize wrap64 (wrap64 (a + b) + c) = x4 at *
  generalize wrap64 (b + c) = x1 at *
  generalize wrap64 (a + b) = x3 at *
  omega
theorem rd40 {l : List S40} {i : Nat} (h : i < l.length) : rd_T40 l (i : Int) = l[i] := by
  unfold rd_T40
  rw [Int.toNat_natCast, List.getD_eq_getElem?_getD, List.getElem?_eq_getElem h, Option.getD_some]
theorem step40 {l : List S40} {i : Nat} (h : i < l.length) : l.drop i = rd_T40 l (i : Int) :: l.drop (i + 1) := by
  rw [rd40 h]
  exact List.drop_eq_getElem_cons h
theorem end40 {l : List S40} {i : Nat} (h : i + 0 = l.length) : l.drop i = [] := List.drop_eq_nil_of_le (by omega)
theorem inc {i n : Nat} (h : i < n) (hn : n ≤ 4000000000000) : wrap64 ((i : Int) + 1) = ((i + 1 : Nat) : Int) := by unfold wrap64; omega
/-- How many bytes an op makes. -/
def ln (o : S40) : Int := if (o.f2.length : Int) > 0 then (o.f2.length : Int) else mx o.f1 0
theorem mx0 (x : Int) : 0 ≤ mx x 0 ∧ x ≤ mx x 0 ∧ (mx x 0 = x ∨ mx x 0 = 0) := by unfold mx; split <;> omega
theorem ln_nonneg (o : S40) : 0 ≤ ln o := by
  unfold ln
  split
  · omega
  · exact (mx0 _).1
theorem told_d (o : S40) : delta_told.f o.f0 o.f1 o.f2 = some (decide ((o.f2.length : Int) > 0)) := rfl
theorem len_d (o : S40) : delta_length.f o.f0 o.f1 o.f2 = some (ln o) := by
  unfold delta_length.f delta_told.f ln
  by_cases h : (o.f2.length : Int) > 0
  · rw [Option.bind_some, decide_eq_true h, if_pos rfl, if_pos h]
  · rw [Option.bind_some, decide_eq_false h, if_neg (by decide), if_neg h]
/-- What is wrong with an op over a basis. -/
def oneF (b : Int) (o : S40) : Int := if (o.f2.length : Int) > 0 then (if o.f0 = 0 then (if o.f1 = 0 then 0 else 2) else 2) else if o.f0 < 0 then 2 else if o.f1 < 1 then 2 else if o.f0 > b then 3 else if o.f1 > wrap64 (b - o.f0) then 3 else 0
theorem one_d {k : Nat} (hk : 0 < k) (o : S40) (b : Int) : delta_one.f k o.f0 o.f1 o.f2 b = some (oneF b o) := by
  obtain ⟨k, rfl⟩ : ∃ m, k = m + 1 := ⟨k - 1, by omega⟩
  unfold delta_one.f oneF
  rw [told_d, Option.bind_some]
  by_cases h : (o.f2.length : Int) > 0
  · rw [decide_eq_true h, if_pos rfl, if_pos h]
    (repeat' split) <;> rfl
  · rw [decide_eq_false h, if_neg (by decide), if_neg h]
    by_cases h0 : o.f0 < 0
    · rw [if_pos h0, if_pos h0]
      simp only [delta_one.j0]
      rw [if_pos trivial]
    · rw [if_neg h0, if_neg h0]
      simp only [delta_one.j0]
      by_cases h1 : o.f1 < 1
      · rw [decide_eq_true h1, if_pos rfl, if_pos h1]
      · rw [decide_eq_false h1, if_neg (by decide), if_neg h1]
        (repeat' split) <;> rfl
/-- The first that is wrong with ops over a basis. -/
def chkL (b : Int) : List S40 → Int
  | [] => 0
  | o :: l => if oneF b o = 0 then chkL b l else oneF b o
/-- How many bytes ops make, behind n, as the machine counts. -/
def sizeL : Int → List S40 → Int
  | n, [] => n
  | n, o :: l => sizeL (wrap64 (n + ln o)) l
def endF (len : Int) (n : Int) : Int := if len > 8192 then 7 else if n > 65536 then 7 else 0
def resF (b len n : Int) (l : List S40) : Int := if chkL b l = 0 then endF len n else chkL b l
theorem res_yes {b len n : Int} {o : S40} {l : List S40} (h : oneF b o = 0) : resF b len n (o :: l) = resF b len n l := by
  have e : chkL b (o :: l) = chkL b l := by rw [chkL, if_pos h]
  unfold resF
  rw [e]
theorem res_no {b len n : Int} {o : S40} {l : List S40} (h : ¬ oneF b o = 0) : resF b len n (o :: l) = oneF b o := by
  have e : chkL b (o :: l) = oneF b o := by rw [chkL, if_neg h]
  unfold resF
  rw [e, if_neg h]
theorem end_if (len n : Int) : (if len > 8192 then some 7 else if n > 65536 then some 7 else some 0 : Option Int) = some (endF len n) := by
  unfold endF
  by_cases h : len > 8192
  · rw [if_pos h, if_pos h]
  · rw [if_neg h, if_neg h]
    by_cases h : n > 65536
    · rw [if_pos h, if_pos h]
    · rw [if_neg h, if_neg h]
def chkF (b : Int) (l : List S40) : Int := if b < 0 then 2 else if b > 131072 then 2 else resF b (l.length : Int) (sizeL 0 l) l
theorem check_loop (b : Int) (l : List S40) (hn : l.length ≤ 4000000000000) : ∀ (d k i : Nat) (n : Int), i + d = l.length → d + 1 < k → delta_Check.l0 k l b n l (l.length : Int) (i : Int) = some (resF b (l.length : Int) (sizeL n (l.drop i)) (l.drop i)) := by
  intro d
  induction d with
  | zero =>
    intro k i n hi hk
    obtain ⟨k, rfl⟩ : ∃ m, k = m + 1 := ⟨k - 1, by omega⟩
    simp only [delta_Check.l0]
    rw [if_neg (by omega), end40 hi, end_if]
    rfl
  | succ d ih =>
    intro k i n hi hk
    obtain ⟨k, rfl⟩ : ∃ m, k = m + 1 := ⟨k - 1, by omega⟩
    have hlt : i < l.length := by omega
    simp only [delta_Check.l0]
    rw [if_pos (by omega), if_pos (by omega), if_pos (by omega), one_d (by omega), Option.bind_some, step40 hlt, inc hlt hn, len_d]
    by_cases h : oneF b (rd_T40 l (i : Int)) = 0
    · rw [if_pos h, Option.bind_some, res_yes h]
      exact ih k (i + 1) _ (by omega) (by omega)
    · rw [if_neg h, res_no h]
theorem check_d (b : Int) (l : List S40) (hn : l.length ≤ 4000000000000) {k : Nat} (hk : l.length + 2 < k) : delta_Check.f k l b = some (chkF b l) := by
  obtain ⟨k, rfl⟩ : ∃ m, k = m + 1 := ⟨k - 1, by omega⟩
  unfold delta_Check.f chkF
  by_cases h0 : b < 0
  · rw [if_pos h0, if_pos h0]
    simp only [delta_Check.j0]
    rw [if_pos trivial]
  · rw [if_neg h0, if_neg h0]
    simp only [delta_Check.j0]
    by_cases h1 : b > 131072
    · rw [decide_eq_true h1, if_pos rfl, if_pos h1]
    · rw [decide_eq_false h1, if_neg (by decide), if_neg h1]
      have := check_loop b l hn l.length k 0 0 (by omega) (by omega)
      rw [List.drop_zero] at this
      exact this
/-- Few ops, of few bytes. -/
def sml (l : List S40) : Prop := (∀ o ∈ l, o.f2.length ≤ 400) ∧ l.length ≤ 60
theorem small_loop (l : List S40) (hn : l.length ≤ 4000000000000) : ∀ (d k i : Nat), i + d = l.length → d < k → ∃ t, remoraref08_Small.l0 k l (i : Int) = some t ∧ (t = true → (∀ o ∈ l.drop i, o.f2.length ≤ 400) ∧ l.length ≤ 60) ∧ ((∀ o ∈ l.drop i, o.f2.length ≤ 400) ∧ l.length ≤ 60 → t = true) := by
  intro d
  induction d with
  | zero =>
    intro k i hi hk
    obtain ⟨k, rfl⟩ : ∃ m, k = m + 1 := ⟨k - 1, by omega⟩
    simp only [remoraref08_Small.l0]
    rw [if_neg (by omega), end40 hi]
    exact ⟨_, rfl, fun h => ⟨fun o ho => (by cases ho), by have := of_decide_eq_true h; omega⟩, fun h => decide_eq_true (by omega)⟩
  | succ d ih =>
    intro k i hi hk
    obtain ⟨k, rfl⟩ : ∃ m, k = m + 1 := ⟨k - 1, by omega⟩
    have hlt : i < l.length := by omega
    simp only [remoraref08_Small.l0]
    rw [if_pos (by omega), if_pos (by omega), step40 hlt, inc hlt hn]
    by_cases h : ((rd_T40 l (i : Int)).f2.length : Int) > 400
    · rw [if_pos h]
      refine ⟨_, rfl, fun h => (by cases h), fun h2 => ?_⟩
      have := h2.1 _ List.mem_cons_self
      omega
    · rw [if_neg h]
      obtain ⟨t, h1, h2, h3⟩ := ih k (i + 1) (by omega) (by omega)
      refine ⟨t, h1, fun ht => ⟨fun o ho => ?_, (h2 ht).2⟩, fun h4 => h3 ⟨fun o ho => h4.1 o (List.mem_cons_of_mem _ ho), h4.2⟩⟩
      rcases List.mem_cons.1 ho with rfl | ho
      · omega
      · exact (h2 ht).1 o ho
theorem small_of (l : List S40) (hn : l.length ≤ 4000000000000) {k : Nat} (hk : l.length < k) : ∃ t, remoraref08_Small.f k l = some t ∧ (t = true → sml l) := by
  obtain ⟨t, h1, h2, h3⟩ := small_loop l hn l.length k 0 (by omega) (by omega)
  rw [List.drop_zero] at h2
  exact ⟨t, h1, h2⟩
theorem few {l : List S40} (h : l.length * 40 ≤ 140737488351232) : l.length ≤ 4000000000000 := by omega
/-- The bytes told, and copied. -/
def costL : Int → Int → List S40 → Int × Int
  | a, b, [] => (a, b)
  | a, b, o :: l => if (o.f2.length : Int) > 0 then costL (wrap64 (a + ln o)) b l else costL a (wrap64 (b + ln o)) l
theorem cost_size : ∀ (l : List S40) (a b : Int), wrap64 ((costL a b l).1 + (costL a b l).2) = sizeL (wrap64 (a + b)) l
  | [], a, b => rfl
  | o :: l, a, b => by
    simp only [costL, sizeL]
    by_cases h : (o.f2.length : Int) > 0
    · rw [if_pos h, cost_size l, wrap_comm]
    · rw [if_neg h, cost_size l, wrap_add]
theorem cost_loop (l : List S40) (hn : l.length ≤ 4000000000000) : ∀ (d k i : Nat) (a b : Int), i + d = l.length → d < k → delta_Cost.l0 k a b l (l.length : Int) (i : Int) = some (costL a b (l.drop i)) := by
  intro d
  induction d with
  | zero =>
    intro k i a b hi hk
    obtain ⟨k, rfl⟩ : ∃ m, k = m + 1 := ⟨k - 1, by omega⟩
    simp only [delta_Cost.l0]
    rw [if_neg (by omega), end40 hi]
    rfl
  | succ d ih =>
    intro k i a b hi hk
    obtain ⟨k, rfl⟩ : ∃ m, k = m + 1 := ⟨k - 1, by omega⟩
    have hlt : i < l.length := by omega
    simp only [delta_Cost.l0]
    rw [if_pos (by omega), if_pos (by omega), if_pos (by omega), told_d, Option.bind_some, step40 hlt, inc hlt hn, len_d]
    simp only [costL]
    by_cases h : ((rd_T40 l (i : Int)).f2.length : Int) > 0
    · rw [decide_eq_true h, if_pos rfl, if_pos h, Option.bind_some]
      exact ih k (i + 1) _ _ (by omega) (by omega)
    · rw [decide_eq_false h, if_neg (by decide), if_neg h, Option.bind_some]
      exact ih k (i + 1) _ _ (by omega) (by omega)
theorem cost_d (l : List S40) (hn : l.length ≤ 4000000000000) {k : Nat} (hk : l.length < k) : delta_Cost.f k l = some (costL 0 0 l) := by
  have := cost_loop l hn l.length k 0 0 0 (by omega) (by omega)
  rw [List.drop_zero] at this
  exact this
theorem size_d (l : List S40) (hn : l.length ≤ 4000000000000) {k : Nat} (hk : l.length < k) : delta_Size.f k l = some (sizeL 0 l) := by
  unfold delta_Size.f
  rw [cost_d l hn hk, Option.bind_some, cost_size, show wrap64 (0 + 0) = 0 by unfold wrap64; decide]
theorem one_zero {b : Int} {o : S40} (hb : 0 ≤ b ∧ b ≤ 131072) (h : oneF b o = 0) : ((o.f2.length : Int) > 0 ∧ o.f0 = 0 ∧ o.f1 = 0) ∨ (o.f2 = [] ∧ 0 ≤ o.f0 ∧ o.f0 ≤ b ∧ 1 ≤ o.f1 ∧ o.f0 + o.f1 ≤ b) := by
  unfold oneF at h
  by_cases h0 : (o.f2.length : Int) > 0
  · rw [if_pos h0] at h
    by_cases h1 : o.f0 = 0
    · rw [if_pos h1] at h
      by_cases h2 : o.f1 = 0
      · exact .inl ⟨h0, h1, h2⟩
      · rw [if_neg h2] at h; cases h
    · rw [if_neg h1] at h; cases h
  · rw [if_neg h0] at h
    by_cases h1 : o.f0 < 0
    · rw [if_pos h1] at h; cases h
    · rw [if_neg h1] at h
      by_cases h2 : o.f1 < 1
      · rw [if_pos h2] at h; cases h
      · rw [if_neg h2] at h
        by_cases h3 : o.f0 > b
        · rw [if_pos h3] at h; cases h
        · rw [if_neg h3] at h
          by_cases h4 : o.f1 > wrap64 (b - o.f0)
          · rw [if_pos h4] at h; cases h
          · rw [w64 _ (by omega) (by omega)] at h4
            exact .inr ⟨List.eq_nil_of_length_eq_zero (by omega), by omega, by omega, by omega, by omega⟩
theorem one_of_told {b : Int} {o : S40} (h0 : (o.f2.length : Int) > 0) (h1 : o.f0 = 0) (h2 : o.f1 = 0) : oneF b o = 0 := by
  unfold oneF
  rw [if_pos h0, if_pos h1, if_pos h2]
theorem one_of_copy {b : Int} {o : S40} (hb : 0 ≤ b ∧ b ≤ 131072) (h0 : o.f2 = []) (h1 : 0 ≤ o.f0) (h2 : 1 ≤ o.f1) (h3 : o.f0 + o.f1 ≤ b) : oneF b o = 0 := by
  unfold oneF
  rw [if_neg (by rw [h0]; decide), if_neg (by omega), if_neg (by omega), if_neg (by omega), if_neg (by rw [w64 _ (by omega) (by omega)]; omega)]
theorem chk_all {b : Int} : ∀ {l : List S40}, chkL b l = 0 → ∀ o ∈ l, oneF b o = 0
  | [], _, _, h => by cases h
  | x :: l, hc, o, ho => by
    by_cases hx : oneF b x = 0
    · rw [chkL, if_pos hx] at hc
      rcases List.mem_cons.1 ho with rfl | ho
      · exact hx
      · exact chk_all hc o ho
    · rw [chkL, if_neg hx] at hc
      exact absurd hc hx
theorem all_chk {b : Int} : ∀ {l : List S40}, (∀ o ∈ l, oneF b o = 0) → chkL b l = 0
  | [], _ => rfl
  | x :: l, h => by
    rw [chkL, if_pos (h x List.mem_cons_self)]
    exact all_chk (fun o ho => h o (List.mem_cons_of_mem _ ho))
theorem chkF_zero {b : Int} {l : List S40} (h : chkF b l = 0) : (0 ≤ b ∧ b ≤ 131072) ∧ (∀ o ∈ l, oneF b o = 0) ∧ l.length ≤ 8192 ∧ sizeL 0 l ≤ 65536 := by
  unfold chkF at h
  by_cases h0 : b < 0
  · rw [if_pos h0] at h; cases h
  rw [if_neg h0] at h
  by_cases h1 : b > 131072
  · rw [if_pos h1] at h; cases h
  rw [if_neg h1] at h
  unfold resF at h
  by_cases h2 : chkL b l = 0
  · rw [if_pos h2] at h
    unfold endF at h
    by_cases h3 : (l.length : Int) > 8192
    · rw [if_pos h3] at h; cases h
    rw [if_neg h3] at h
    by_cases h4 : sizeL 0 l > 65536
    · rw [if_pos h4] at h; cases h
    exact ⟨by omega, chk_all h2, by omega, by omega⟩
  · rw [if_neg h2] at h
    exact absurd h h2
theorem zero_chkF {b : Int} {l : List S40} (hb : 0 ≤ b ∧ b ≤ 131072) (h1 : ∀ o ∈ l, oneF b o = 0) (h2 : l.length ≤ 8192) (h3 : sizeL 0 l ≤ 65536) : chkF b l = 0 := by
  unfold chkF resF endF
  rw [if_neg (by omega), if_neg (by omega), if_pos (all_chk h1), if_neg (by omega), if_neg (by omega)]
/-- What an op makes of a basis. -/
def mkF (base : List Int) (o : S40) : List Int := if (o.f2.length : Int) > 0 then o.f2 else (base.take (wrap64 (o.f0 + o.f1)).toNat).drop o.f0.toNat
def mkL (base : List Int) : List S40 → List Int
  | [] => []
  | o :: l => mkF base o ++ mkL base l
theorem mkL_append (base : List Int) : ∀ (l m : List S40), mkL base (l ++ m) = mkL base l ++ mkL base m
  | [], _ => rfl
  | o :: l, m => by
    show mkF base o ++ mkL base (l ++ m) = (mkF base o ++ mkL base l) ++ mkL base m
    rw [mkL_append, List.append_assoc]
theorem apply_loop (base : List Int) (hb : base.length ≤ 131072) (l : List S40) (hn : l.length ≤ 10000) (hd : ∀ o ∈ l, o.f2.length ≤ 131072) (hc : ∀ o ∈ l, oneF (base.length : Int) o = 0) : ∀ (d k i : Nat) (out : List Int), i + d = l.length → d < k → out.length ≤ i * 131072 → delta_Apply.l0 k base out l (l.length : Int) (i : Int) = some (out ++ mkL base (l.drop i), 0) := by
  intro d
  induction d with
  | zero =>
    intro k i out hi hk ho
    obtain ⟨k, rfl⟩ : ∃ m, k = m + 1 := ⟨k - 1, by omega⟩
    simp only [delta_Apply.l0]
    rw [if_neg (by omega), end40 hi]
    simp only [mkL, List.append_nil]
  | succ d ih =>
    intro k i out hi hk ho
    obtain ⟨k, rfl⟩ : ∃ m, k = m + 1 := ⟨k - 1, by omega⟩
    have hlt : i < l.length := by omega
    have hm : rd_T40 l (i : Int) ∈ l := by rw [rd40 hlt]; exact List.getElem_mem hlt
    have h1 := hd _ hm
    have h2 := one_zero (b := (base.length : Int)) (by omega) (hc _ hm)
    simp only [delta_Apply.l0]
    rw [if_pos (by omega), if_pos (by omega), if_pos (by omega), told_d, Option.bind_some, step40 hlt, inc hlt (by omega)]
    simp only [mkL]
    generalize rd_T40 l (i : Int) = o at *
    rcases h2 with ⟨ht, _, _⟩ | ⟨he, h3, h4, h5, h6⟩
    · rw [decide_eq_true ht, if_pos rfl, if_pos (by omega), ih k (i + 1) _ (by omega) (by omega) (by rw [List.length_append]; omega), List.append_assoc, show mkF base o = o.f2 by unfold mkF; rw [if_pos ht]]
    · have hw : wrap64 (o.f0 + o.f1) = o.f0 + o.f1 := w64 _ (by omega) (by omega)
      have hl : ((base.take (wrap64 (o.f0 + o.f1)).toNat).drop o.f0.toNat).length ≤ 131072 := by
        rw [List.length_drop, List.length_take]
        omega
      rw [decide_eq_false (by rw [he]; decide), if_neg (by decide), if_pos h3, if_pos (by rw [hw]; omega), if_pos (by rw [hw]; omega), if_pos (by omega), ih k (i + 1) _ (by omega) (by omega) (by rw [List.length_append]; omega), List.append_assoc, show mkF base o = (base.take (wrap64 (o.f0 + o.f1)).toNat).drop o.f0.toNat by unfold mkF; rw [if_neg (by rw [he]; decide)]]
/-- What ops make, or why nothing. -/
def applyF (base : List Int) (l : List S40) : List Int × Int := if chkF (base.length : Int) l = 0 then (mkL base l, 0) else ([], chkF (base.length : Int) l)
theorem apply_d (base : List Int) (l : List S40) (hn : l.length ≤ 10000) (hd : ∀ o ∈ l, o.f2.length ≤ 131072) {k : Nat} (hk : l.length + 2 < k) : delta_Apply.f k base l = some (applyF base l) := by
  unfold delta_Apply.f applyF
  rw [check_d _ l (by omega) hk, Option.bind_some]
  by_cases h : chkF (base.length : Int) l = 0
  · rw [if_pos h, if_pos h]
    obtain ⟨h1, h2, _, _⟩ := chkF_zero h
    have := apply_loop base (by omega) l hn hd h2 l.length k 0 [] (by omega) (by omega) (by simp)
    rw [List.drop_zero, List.nil_append] at this
    exact this
  · rw [if_neg h, if_neg h]
theorem map_of_to (l : List S40) : (l.map toT).map ofT = l := by
  rw [List.map_map]
  exact List.map_id l
def told (o : S40) : Prop := o.f2 ≠ []
def skp (o : S40) : Prop := o.f2 = [] ∧ o.f1 ≤ 0
def nrmS (o : S40) : S40 := if o.f2 = [] then o else ⟨0, 0, o.f2⟩
def goS (p o : S40) : Prop := o.f1 ≤ 131072 ∧ 0 ≤ p.f0 ∧ p.f0 ≤ 131072 ∧ p.f1 ≤ wrap64 (131072 - p.f0) ∧ wrap64 (p.f0 + p.f1) = o.f0
instance (p o : S40) : Decidable (goS p o) := by unfold goS; infer_instance
def joinS (p o : S40) : List S40 :=
  if p.f2 = [] then (if o.f2 = [] then (if goS p o then [⟨p.f0, wrap64 (p.f1 + o.f1), p.f2⟩] else [p, nrmS o]) else [p, nrmS o])
  else if o.f2 = [] then [p, nrmS o] else [⟨p.f0, p.f1, p.f2 ++ o.f2⟩]
def addS (xs : List S40) (o : S40) : List S40 := (Jn.addL (xs.map toT) (toT o)).map ofT
theorem nrm_of (o : S40) : ofT (Jn.nrm (toT o)) = nrmS o := by
  unfold Jn.nrm nrmS
  show ofT (if o.f2 = [] then toT o else (0, 0, o.f2)) = _
  split <;> rfl
theorem join_of (p o : S40) : (Jn.join2 (toT p) (toT o)).map ofT = joinS p o := by
  unfold Jn.join2 joinS
  show (if p.f2 = [] then (if o.f2 = [] then (if goS p o then [((toT p).1, wrap64 ((toT p).2.1 + (toT o).2.1), (toT p).2.2)] else [toT p, Jn.nrm (toT o)]) else [toT p, Jn.nrm (toT o)]) else if o.f2 = [] then [toT p, Jn.nrm (toT o)] else [((toT p).1, (toT p).2.1, (toT p).2.2 ++ (toT o).2.2)]).map ofT = _
  have hn : [toT p, Jn.nrm (toT o)].map ofT = [p, nrmS o] := by rw [List.map_cons, List.map_cons, nrm_of]; rfl
  by_cases h1 : p.f2 = []
  · rw [if_pos h1, if_pos h1]
    by_cases h2 : o.f2 = []
    · rw [if_pos h2, if_pos h2]
      by_cases h3 : goS p o
      · rw [if_pos h3, if_pos h3]; rfl
      · rw [if_neg h3, if_neg h3]; exact hn
    · rw [if_neg h2, if_neg h2]; exact hn
  · rw [if_neg h1, if_neg h1]
    by_cases h2 : o.f2 = []
    · rw [if_pos h2, if_pos h2]; exact hn
    · rw [if_neg h2, if_neg h2]; rfl
theorem add_skip {xs : List S40} {o : S40} (h : skp o) : addS xs o = xs := by
  have e : Jn.addL (xs.map toT) (toT o) = xs.map toT := by unfold Jn.addL; rw [if_pos (show (toT o).2.2 = [] ∧ (toT o).2.1 ≤ 0 from h)]
  unfold addS
  rw [e, map_of_to]
theorem add_nil {o : S40} (h : ¬ skp o) : addS [] o = [nrmS o] := by
  unfold addS
  rw [List.map_nil, Jn.addL_nil (toT o) h, List.map_cons, nrm_of]
  rfl
theorem add_snoc {ys : List S40} {p o : S40} (h : ¬ skp o) : addS (ys ++ [p]) o = ys ++ joinS p o := by
  unfold addS
  rw [List.map_append, show [p].map toT = [toT p] from rfl, Jn.addL_snoc (ys.map toT) (toT p) (toT o) h, List.map_append, map_of_to, join_of]
def normS (l : List S40) : List S40 := l.foldl addS []
theorem fold_of : ∀ (l xs : List S40), ((l.map toT).foldl Jn.addL (xs.map toT)).map ofT = l.foldl addS xs
  | [], xs => map_of_to xs
  | o :: l, xs => by
    rw [List.map_cons, List.foldl_cons, List.foldl_cons, ← fold_of l (addS xs o)]
    unfold addS
    rw [map_to_of]
theorem wt_le (l : List S40) (h : ∀ o ∈ l, o.f2.length ≤ 65536) : Jn.wt (l.map toT) ≤ l.length * 65536 := by
  induction l with
  | nil => simp [Jn.wt_nil]
  | cons o l ih =>
    rw [List.map_cons, Jn.wt_cons, List.length_cons]
    have h1 := ih (fun x hx => h x (List.mem_cons_of_mem _ hx))
    have h2 : (toT o).2.2.length ≤ 65536 := h o List.mem_cons_self
    omega
theorem norm_d {l : List S40} (hs : l.length ≤ 10000) (hd : ∀ o ∈ l, o.f2.length ≤ 65536) : delta_Norm.f l = some (normS l) := by
  unfold delta_Norm.f
  have := wt_le l hd
  rw [if_pos ⟨by omega, by omega⟩]
  exact congrArg some (fold_of l [])
/-- Two neighbours that stay two. -/
def NJ (x y : S40) : Prop := ¬ (x.f2 ≠ [] ∧ y.f2 ≠ []) ∧ ¬ (x.f2 = [] ∧ y.f2 = [] ∧ goS x y)
def CH (xs : List S40) : Prop := ∀ (i : Nat) (x y : S40), xs[i]? = some x → xs[i + 1]? = some y → NJ x y
/-- As an op is when it has been put together. -/
def GD (o : S40) : Prop := (o.f2 ≠ [] → o.f0 = 0 ∧ o.f1 = 0) ∧ (o.f2 = [] → 1 ≤ o.f1)
theorem ch_nil : CH [] := fun i x y h => by simp at h
theorem ch_one (p : S40) : CH [p] := fun i x y _ h => by simp at h
theorem ch_two {A : List S40} {p q : S40} (h : CH (A ++ [p])) (hn : NJ p q) : CH (A ++ [p, q]) := by
  intro i x y hx hy
  have e : A ++ [p, q] = (A ++ [p]) ++ [q] := by simp
  rw [e] at hx hy
  have hlen : (A ++ [p]).length = A.length + 1 := by simp
  by_cases hi : i + 1 < A.length + 1
  · rw [List.getElem?_append_left (by omega)] at hx hy
    exact h i x y hx hy
  · have hlt := (List.getElem?_eq_some_iff.1 hy).1
    rw [List.length_append, hlen, List.length_singleton] at hlt
    have hi2 : i = A.length := by omega
    subst hi2
    rw [List.getElem?_append_left (by omega), List.getElem?_append_right (Nat.le_refl _), Nat.sub_self] at hx
    rw [List.getElem?_append_right (by omega), hlen, Nat.sub_self] at hy
    obtain rfl := Option.some.inj hx
    obtain rfl := Option.some.inj hy
    exact hn
theorem ch_last {A : List S40} {p p' : S40} (h : CH (A ++ [p])) (hn : ∀ x, NJ x p → NJ x p') : CH (A ++ [p']) := by
  intro i x y hx hy
  have hlt := (List.getElem?_eq_some_iff.1 hy).1
  rw [List.length_append, List.length_singleton] at hlt
  rw [List.getElem?_append_left (by omega)] at hx
  by_cases hi : i + 1 < A.length
  · rw [List.getElem?_append_left hi] at hy
    exact h i x y (by rw [List.getElem?_append_left (by omega)]; exact hx) (by rw [List.getElem?_append_left hi]; exact hy)
  · have hi2 : i + 1 = A.length := by omega
    rw [List.getElem?_append_right (by omega), hi2, Nat.sub_self] at hy
    obtain rfl := Option.some.inj hy
    exact hn x (h i x p (by rw [List.getElem?_append_left (by omega)]; exact hx) (by rw [List.getElem?_append_right (by omega), hi2, Nat.sub_self]; rfl))
theorem go_sum {p o : S40} (h : goS p o) (hp : 1 ≤ p.f1) (ho : 1 ≤ o.f1) : wrap64 (p.f1 + o.f1) = p.f1 + o.f1 ∧ p.f0 + p.f1 = o.f0 ∧ p.f1 ≤ 131072 - p.f0 := by
  obtain ⟨h1, h2, h3, h4, h5⟩ := h
  rw [w64 (131072 - p.f0) (by omega) (by omega)] at h4
  rw [w64 (p.f0 + p.f1) (by omega) (by omega)] at h5
  exact ⟨w64 _ (by omega) (by omega), h5, h4⟩
theorem gd_nrm {o : S40} (h : ¬ skp o) : GD (nrmS o) := by
  unfold nrmS
  by_cases h2 : o.f2 = []
  · rw [if_pos h2]
    exact ⟨fun h3 => absurd h2 h3, fun _ => by
      rcases Int.lt_or_le o.f1 1 with h4 | h4
      · exact absurd ⟨h2, by omega⟩ h
      · exact h4⟩
  · rw [if_neg h2]
    exact ⟨fun _ => ⟨rfl, rfl⟩, fun h3 => absurd h3 h2⟩
theorem nrm_two {o : S40} : (nrmS o).f2 = o.f2 := by
  unfold nrmS
  split <;> rfl
theorem gd_fix {o : S40} (h : GD o) : nrmS o = o ∧ ¬ skp o := by
  refine ⟨?_, fun h2 => ?_⟩
  · unfold nrmS
    by_cases h2 : o.f2 = []
    · rw [if_pos h2]
    · rw [if_neg h2]
      obtain ⟨e0, e1⟩ := h.1 h2
      cases o
      simp only at e0 e1
      rw [e0, e1]
  · have := h.2 h2.1
    have := h2.2
    omega
/-- The row stays in form. -/
theorem inv_add {xs : List S40} {o : S40} (hc : CH xs) (hg : ∀ x ∈ xs, GD x) : CH (addS xs o) ∧ ∀ x ∈ addS xs o, GD x := by
  by_cases hk : skp o
  · rw [add_skip hk]
    exact ⟨hc, hg⟩
  rcases Jn.snoc_cases xs with rfl | ⟨ys, p, rfl⟩
  · rw [add_nil hk]
    exact ⟨ch_one _, fun x hx => by rw [List.mem_singleton.1 hx]; exact gd_nrm hk⟩
  rw [add_snoc hk]
  have hp := hg p (by simp)
  have hg' : ∀ x ∈ ys, GD x := fun x hx => hg x (by simp [hx])
  have two : NJ p (nrmS o) → CH (ys ++ [p, nrmS o]) ∧ ∀ x ∈ ys ++ [p, nrmS o], GD x := fun hn => ⟨ch_two hc hn, fun x hx => by
    rcases List.mem_append.1 hx with hx | hx
    · exact hg' x hx
    · simp only [List.mem_cons, List.not_mem_nil, or_false] at hx
      rcases hx with rfl | rfl
      · exact hp
      · exact gd_nrm hk⟩
  have one : ∀ p' : S40, (∀ x, NJ x p → NJ x p') → GD p' → CH (ys ++ [p']) ∧ ∀ x ∈ ys ++ [p'], GD x := fun p' hn hd => ⟨ch_last hc hn, fun x hx => by
    rcases List.mem_append.1 hx with hx | hx
    · exact hg' x hx
    · rw [List.mem_singleton.1 hx]
      exact hd⟩
  unfold joinS
  by_cases h1 : p.f2 = []
  · rw [if_pos h1]
    by_cases h2 : o.f2 = []
    · rw [if_pos h2]
      have ho : 1 ≤ o.f1 := by
        rcases Int.lt_or_le o.f1 1 with h4 | h4
        · exact absurd ⟨h2, by omega⟩ hk
        · exact h4
      by_cases h3 : goS p o
      · rw [if_pos h3]
        obtain ⟨e1, e2, e3⟩ := go_sum h3 (hp.2 h1) ho
        refine one _ (fun x hx => ⟨fun h => h.2 h1, fun h => hx.2 ⟨h.1, h1, ?_⟩⟩) ⟨fun h => absurd h1 h, fun _ => ?_⟩
        · obtain ⟨_, _, q1, q2, q3, q4, q5⟩ := h
          have q1' : wrap64 (p.f1 + o.f1) ≤ 131072 := q1
          exact ⟨by rw [e1] at q1'; omega, q2, q3, q4, q5⟩
        · show 1 ≤ wrap64 (p.f1 + o.f1)
          have := hp.2 h1
          rw [e1]
          omega
      · rw [if_neg h3]
        have e : nrmS o = o := by unfold nrmS; rw [if_pos h2]
        refine two ⟨fun h => h.1 h1, fun h => h3 ?_⟩
        rw [← e]
        exact h.2.2
    · rw [if_neg h2]
      exact two ⟨fun h => h.1 h1, fun h => h2 (by rw [← nrm_two (o := o)]; exact h.2.1)⟩
  · rw [if_neg h1]
    by_cases h2 : o.f2 = []
    · rw [if_pos h2]
      exact two ⟨fun h => h.2 (by rw [nrm_two]; exact h2), fun h => h1 h.1⟩
    · rw [if_neg h2]
      exact one _ (fun x hx => ⟨fun h => hx.1 ⟨h.1, h1⟩, fun h => by
        have h3 : p.f2 ++ o.f2 = [] := h.2.1
        exact h1 (List.append_eq_nil_iff.1 h3).1⟩) ⟨fun _ => hp.1 h1, fun h => by
        have h3 : p.f2 ++ o.f2 = [] := h
        exact absurd (List.append_eq_nil_iff.1 h3).1 h1⟩
theorem inv_fold : ∀ (l xs : List S40), CH xs → (∀ x ∈ xs, GD x) → CH (l.foldl addS xs) ∧ ∀ x ∈ l.foldl addS xs, GD x
  | [], _, hc, hg => ⟨hc, hg⟩
  | o :: l, xs, hc, hg => by
    rw [List.foldl_cons]
    obtain ⟨h1, h2⟩ := inv_add (o := o) hc hg
    exact inv_fold l _ h1 h2
theorem inv_norm (l : List S40) : CH (normS l) ∧ ∀ x ∈ normS l, GD x := inv_fold l [] ch_nil (fun _ h => by cases h)
/-- A row in form is put together to itself. -/
theorem fix_fold : ∀ (l xs : List S40), CH (xs ++ l) → (∀ x ∈ l, GD x) → l.foldl addS xs = xs ++ l
  | [], xs, _, _ => by simp
  | o :: l, xs, hc, hg => by
    obtain ⟨e, hk⟩ := gd_fix (hg o List.mem_cons_self)
    have h1 : addS xs o = xs ++ [o] := by
      rcases Jn.snoc_cases xs with rfl | ⟨ys, p, rfl⟩
      · rw [add_nil hk, e]; rfl
      · rw [add_snoc hk]
        have hn : NJ p o := hc ys.length p o (by rw [List.append_assoc, List.getElem?_append_right (Nat.le_refl _), Nat.sub_self]; rfl) (by rw [List.append_assoc, List.getElem?_append_right (by omega)]; simp)
        have h2 : joinS p o = [p, o] := by
          unfold joinS
          by_cases h1 : p.f2 = []
          · rw [if_pos h1]
            by_cases h2 : o.f2 = []
            · rw [if_pos h2, if_neg (fun h => hn.2 ⟨h1, h2, h⟩), e]
            · rw [if_neg h2, e]
          · rw [if_neg h1]
            by_cases h2 : o.f2 = []
            · rw [if_pos h2, e]
            · exact absurd ⟨h1, h2⟩ hn.1
        rw [h2]
        simp
    rw [List.foldl_cons, h1, fix_fold l (xs ++ [o]) (by rw [List.append_assoc]; exact hc) (fun x hx => hg x (List.mem_cons_of_mem _ hx)), List.append_assoc]
    rfl
theorem norm_norm (l : List S40) : normS (normS l) = normS l := by
  obtain ⟨h1, h2⟩ := inv_norm l
  exact fix_fold (normS l) [] h1 h2
theorem join_len (p o : S40) : (joinS p o).length ≤ 2 := by
  unfold joinS
  (repeat' split) <;> simp
theorem add_len (xs : List S40) (o : S40) : (addS xs o).length ≤ xs.length + 1 := by
  by_cases hk : skp o
  · rw [add_skip hk]; omega
  rcases Jn.snoc_cases xs with rfl | ⟨ys, p, rfl⟩
  · rw [add_nil hk]; simp
  · rw [add_snoc hk, List.length_append, List.length_append]
    have := join_len p o
    simp only [List.length_singleton]
    omega
theorem fold_lenS : ∀ (l xs : List S40), (l.foldl addS xs).length ≤ xs.length + l.length
  | [], xs => by simp
  | o :: l, xs => by
    have h1 := fold_lenS l (addS xs o)
    have h2 := add_len xs o
    rw [List.foldl_cons, List.length_cons]
    omega
theorem norm_len (l : List S40) : (normS l).length ≤ l.length := by
  have := fold_lenS l []
  rw [List.length_nil, Nat.zero_add] at this
  exact this
theorem wrap_l (a x : Int) : wrap64 (wrap64 a + x) = wrap64 (a + x) := by
  obtain ⟨q1, e1, _, _⟩ := wq a
  obtain ⟨q2, e2, l2, u2⟩ := wq (wrap64 a + x)
  obtain ⟨q3, e3, l3, u3⟩ := wq (a + x)
  generalize wrap64 (wrap64 a + x) = y2 at *
  generalize wrap64 (a + x) = y3 at *
  generalize wrap64 a = y1 at *
  omega
def a1 (o : S40) : Int := if (o.f2.length : Int) > 0 then ln o else 0
def b1 (o : S40) : Int := if (o.f2.length : Int) > 0 then 0 else ln o
def sA : List S40 → Int
  | [] => 0
  | o :: l => a1 o + sA l
def sB : List S40 → Int
  | [] => 0
  | o :: l => b1 o + sB l
theorem sA_append : ∀ (l m : List S40), sA (l ++ m) = sA l + sA m
  | [], m => by simp [sA]
  | o :: l, m => by
    show a1 o + sA (l ++ m) = a1 o + sA l + sA m
    rw [sA_append]
    omega
theorem sB_append : ∀ (l m : List S40), sB (l ++ m) = sB l + sB m
  | [], m => by simp [sB]
  | o :: l, m => by
    show b1 o + sB (l ++ m) = b1 o + sB l + sB m
    rw [sB_append]
    omega
theorem cost_sum : ∀ (l : List S40) (a b : Int), costL (wrap64 a) (wrap64 b) l = (wrap64 (a + sA l), wrap64 (b + sB l))
  | [], a, b => by simp [costL, sA, sB]
  | o :: l, a, b => by
    by_cases h : (o.f2.length : Int) > 0
    · rw [costL, if_pos h, wrap_l, cost_sum l]
      simp only [sA, sB, a1, b1, if_pos h]
      rw [show a + ln o + sA l = a + (ln o + sA l) by omega, show b + (0 + sB l) = b + sB l by omega]
    · rw [costL, if_neg h, wrap_l, cost_sum l]
      simp only [sA, sB, a1, b1, if_neg h]
      rw [show b + ln o + sB l = b + (ln o + sB l) by omega, show a + (0 + sA l) = a + sA l by omega]
theorem w00 : wrap64 0 = 0 := by unfold wrap64; decide
theorem cost_zero (l : List S40) : costL 0 0 l = (wrap64 (sA l), wrap64 (sB l)) := by
  have := cost_sum l 0 0
  rw [w00, Int.zero_add, Int.zero_add] at this
  exact this
theorem size_zero (l : List S40) : sizeL 0 l = wrap64 (sA l + sB l) := by
  have h := cost_size l 0 0
  rw [show (0 : Int) + 0 = 0 from rfl, w00, cost_zero] at h
  rw [← h]
  show wrap64 (wrap64 (sA l) + wrap64 (sB l)) = _
  rw [wrap_l, Int.add_comm, wrap_l, Int.add_comm]
theorem told_pos {o : S40} (h : o.f2 ≠ []) : (o.f2.length : Int) > 0 := by
  have := List.length_pos_iff.2 h
  omega
theorem nil_pos {o : S40} (h : o.f2 = []) : ¬ (o.f2.length : Int) > 0 := by rw [h]; decide
theorem ln_copy {o : S40} (h : o.f2 = []) (h1 : 0 ≤ o.f1) : ln o = o.f1 := by
  unfold ln
  rw [if_neg (nil_pos h)]
  unfold mx
  split <;> omega
theorem ab_nrm (o : S40) : a1 (nrmS o) = a1 o ∧ b1 (nrmS o) = b1 o := by
  by_cases h : o.f2 = []
  · have e : nrmS o = o := by unfold nrmS; rw [if_pos h]
    rw [e]
    exact ⟨rfl, rfl⟩
  · have e : nrmS o = ⟨0, 0, o.f2⟩ := by unfold nrmS; rw [if_neg h]
    rw [e]
    unfold a1 b1 ln
    have := told_pos h
    simp only [if_pos this]
    exact ⟨trivial, trivial⟩
theorem ab_join {p o : S40} (hp : GD p) (ho : ¬ skp o) : sA (joinS p o) = a1 p + a1 o ∧ sB (joinS p o) = b1 p + b1 o := by
  have two : sA [p, nrmS o] = a1 p + a1 o ∧ sB [p, nrmS o] = b1 p + b1 o := by
    simp only [sA, sB, (ab_nrm o).1, (ab_nrm o).2]
    omega
  unfold joinS
  by_cases h1 : p.f2 = []
  · rw [if_pos h1]
    by_cases h2 : o.f2 = []
    · rw [if_pos h2]
      by_cases h3 : goS p o
      · rw [if_pos h3]
        have ho1 : 1 ≤ o.f1 := by
          rcases Int.lt_or_le o.f1 1 with h4 | h4
          · exact absurd ⟨h2, by omega⟩ ho
          · exact h4
        have hp1 := hp.2 h1
        obtain ⟨e1, _, _⟩ := go_sum h3 hp1 ho1
        have l1 := ln_copy h1 (by omega)
        have l2 := ln_copy h2 (by omega)
        have l3 : ln (⟨p.f0, wrap64 (p.f1 + o.f1), p.f2⟩ : S40) = p.f1 + o.f1 := by
          rw [ln_copy (o := ⟨p.f0, wrap64 (p.f1 + o.f1), p.f2⟩) h1 (by show 0 ≤ wrap64 (p.f1 + o.f1); rw [e1]; omega)]
          exact e1
        simp only [sA, sB, a1, b1]
        rw [if_neg (nil_pos h1), if_neg (nil_pos h2), if_neg (nil_pos h1), if_neg (nil_pos h2), l1, l2]
        rw [if_neg (show ¬ ((⟨p.f0, wrap64 (p.f1 + o.f1), p.f2⟩ : S40).f2.length : Int) > 0 from nil_pos h1), if_neg (show ¬ ((⟨p.f0, wrap64 (p.f1 + o.f1), p.f2⟩ : S40).f2.length : Int) > 0 from nil_pos h1), l3]
        omega
      · rw [if_neg h3]; exact two
    · rw [if_neg h2]; exact two
  · rw [if_neg h1]
    by_cases h2 : o.f2 = []
    · rw [if_pos h2]; exact two
    · rw [if_neg h2]
      have t1 := told_pos h1
      have t2 := told_pos h2
      have t3 : ((⟨p.f0, p.f1, p.f2 ++ o.f2⟩ : S40).f2.length : Int) > 0 := by
        show (((p.f2 ++ o.f2).length : Nat) : Int) > 0
        rw [List.length_append]
        omega
      simp only [sA, sB, a1, b1]
      rw [if_pos t1, if_pos t2, if_pos t1, if_pos t2]
      rw [if_pos t3, if_pos t3]
      unfold ln
      rw [if_pos t1, if_pos t2, if_pos t3]
      show (((p.f2 ++ o.f2).length : Nat) : Int) + 0 = _ ∧ _
      rw [List.length_append]
      omega
theorem ab_skip {o : S40} (h : skp o) : a1 o = 0 ∧ b1 o = 0 := by
  unfold a1 b1
  rw [if_neg (nil_pos h.1), if_neg (nil_pos h.1)]
  refine ⟨rfl, ?_⟩
  unfold ln
  rw [if_neg (nil_pos h.1)]
  have := h.2
  unfold mx
  split <;> omega
theorem ab_add {xs : List S40} {o : S40} (hg : ∀ x ∈ xs, GD x) : sA (addS xs o) = sA xs + a1 o ∧ sB (addS xs o) = sB xs + b1 o := by
  by_cases hk : skp o
  · rw [add_skip hk, (ab_skip hk).1, (ab_skip hk).2]
    omega
  rcases Jn.snoc_cases xs with rfl | ⟨ys, p, rfl⟩
  · rw [add_nil hk]
    simp only [sA, sB, (ab_nrm o).1, (ab_nrm o).2]
    omega
  · rw [add_snoc hk, sA_append, sB_append, sA_append, sB_append, (ab_join (hg p (by simp)) hk).1, (ab_join (hg p (by simp)) hk).2]
    simp only [sA, sB]
    omega
theorem ab_fold : ∀ (l xs : List S40), CH xs → (∀ x ∈ xs, GD x) → sA (l.foldl addS xs) = sA xs + sA l ∧ sB (l.foldl addS xs) = sB xs + sB l
  | [], xs, _, _ => by simp [sA, sB]
  | o :: l, xs, hc, hg => by
    obtain ⟨h1, h2⟩ := inv_add (o := o) hc hg
    obtain ⟨h3, h4⟩ := ab_fold l _ h1 h2
    obtain ⟨h5, h6⟩ := ab_add (o := o) hg
    rw [List.foldl_cons, h3, h4, h5, h6]
    simp only [sA, sB]
    omega
theorem ab_norm (l : List S40) : sA (normS l) = sA l ∧ sB (normS l) = sB l := by
  obtain ⟨h1, h2⟩ := ab_fold l [] ch_nil (fun _ h => by cases h)
  simp only [sA, sB, Int.zero_add] at h1 h2
  exact ⟨h1, h2⟩
theorem nrm_one {b : Int} {o : S40} (hb : 0 ≤ b ∧ b ≤ 131072) (h : oneF b o = 0) : nrmS o = o := by
  unfold nrmS
  by_cases h2 : o.f2 = []
  · rw [if_pos h2]
  · rw [if_neg h2]
    rcases one_zero hb h with ⟨_, e0, e1⟩ | ⟨he, _⟩
    · cases o
      simp only at e0 e1
      rw [e0, e1]
    · exact absurd he h2
theorem not_skp {b : Int} {o : S40} (hb : 0 ≤ b ∧ b ≤ 131072) (h : oneF b o = 0) : ¬ skp o := by
  intro hk
  rcases one_zero hb h with ⟨h0, _⟩ | ⟨_, _, _, h1, _⟩
  · rw [hk.1] at h0
    exact absurd h0 (by decide)
  · have := hk.2
    omega
theorem mk_told {base : List Int} {o : S40} (h : (o.f2.length : Int) > 0) : mkF base o = o.f2 := by unfold mkF; rw [if_pos h]
theorem mk_copy {base : List Int} {o : S40} (h : o.f2 = []) : mkF base o = (base.take (wrap64 (o.f0 + o.f1)).toNat).drop o.f0.toNat := by unfold mkF; rw [if_neg (by rw [h]; decide)]
theorem cut_two (base : List Int) {x y z : Nat} (h1 : x ≤ y) (h2 : y ≤ z) : (base.take y).drop x ++ (base.take z).drop y = (base.take z).drop x := by
  have e1 : base.take y = (base.take z).take y := by rw [List.take_take, Nat.min_eq_left h2]
  rw [e1]
  generalize base.take z = m
  have e2 : m.drop x = ((m.take y) ++ (m.drop y)).drop x := by rw [List.take_append_drop]
  rw [e2]
  by_cases hy : y ≤ m.length
  · rw [List.drop_append_of_le_length (by rw [List.length_take]; omega)]
  · rw [show m.drop y = [] from List.drop_eq_nil_of_le (by omega), List.append_nil, List.append_nil]
/-- An op put to a row makes behind what the row makes. -/
theorem make_add (base : List Int) (hb : base.length ≤ 131072) {xs : List S40} {o : S40} (hx : ∀ x ∈ xs, oneF (base.length : Int) x = 0) (ho : oneF (base.length : Int) o = 0) : (∀ x ∈ addS xs o, oneF (base.length : Int) x = 0) ∧ mkL base (addS xs o) = mkL base xs ++ mkF base o := by
  have hb' : (0 : Int) ≤ (base.length : Int) ∧ (base.length : Int) ≤ 131072 := by omega
  have hk := not_skp hb' ho
  have hn := nrm_one hb' ho
  rcases Jn.snoc_cases xs with rfl | ⟨ys, p, rfl⟩
  · rw [add_nil hk, hn]
    refine ⟨fun x hx => by rw [List.mem_singleton.1 hx]; exact ho, ?_⟩
    simp only [mkL, List.append_nil, List.nil_append]
  rw [add_snoc hk]
  have hp := hx p (by simp)
  have hys : ∀ x ∈ ys, oneF (base.length : Int) x = 0 := fun x h => hx x (by simp [h])
  have all : ∀ j : List S40, (∀ x ∈ j, oneF (base.length : Int) x = 0) → mkL base j = mkF base p ++ mkF base o → (∀ x ∈ ys ++ j, oneF (base.length : Int) x = 0) ∧ mkL base (ys ++ j) = mkL base (ys ++ [p]) ++ mkF base o := fun j h1 h2 => ⟨fun x hx => (List.mem_append.1 hx).elim (hys x) (h1 x), by
    rw [mkL_append, mkL_append, h2]
    simp only [mkL, List.append_nil, List.append_assoc]⟩
  have two : (∀ x ∈ ys ++ [p, o], oneF (base.length : Int) x = 0) ∧ mkL base (ys ++ [p, o]) = mkL base (ys ++ [p]) ++ mkF base o := all [p, o] (fun x hx => by
    simp only [List.mem_cons, List.not_mem_nil, or_false] at hx
    rcases hx with rfl | rfl
    · exact hp
    · exact ho) (by simp only [mkL, List.append_nil])
  unfold joinS
  rw [hn]
  by_cases h1 : p.f2 = []
  · rw [if_pos h1]
    by_cases h2 : o.f2 = []
    · rw [if_pos h2]
      by_cases h3 : goS p o
      · rw [if_pos h3]
        rcases one_zero hb' hp with ⟨q0, _⟩ | ⟨_, p1, p2, p3, p4⟩
        · rw [h1] at q0; exact absurd q0 (by decide)
        rcases one_zero hb' ho with ⟨q0, _⟩ | ⟨_, o1, o2, o3, o4⟩
        · rw [h2] at q0; exact absurd q0 (by decide)
        obtain ⟨e1, e2, e3⟩ := go_sum h3 p3 o3
        refine all _ (fun x hx => ?_) ?_
        · rw [List.mem_singleton.1 hx]
          refine one_of_copy hb' h1 p1 ?_ ?_
          · show 1 ≤ wrap64 (p.f1 + o.f1)
            rw [e1]; omega
          · show p.f0 + wrap64 (p.f1 + o.f1) ≤ _
            rw [e1]; omega
        · simp only [mkL, List.append_nil]
          rw [mk_copy h1, mk_copy h2, mk_copy (o := ⟨p.f0, wrap64 (p.f1 + o.f1), p.f2⟩) h1]
          show (base.take (wrap64 (p.f0 + wrap64 (p.f1 + o.f1))).toNat).drop p.f0.toNat = _
          rw [e1, w64 (p.f0 + (p.f1 + o.f1)) (by omega) (by omega), w64 (p.f0 + p.f1) (by omega) (by omega), w64 (o.f0 + o.f1) (by omega) (by omega), e2, show p.f0 + (p.f1 + o.f1) = o.f0 + o.f1 by omega]
          exact (cut_two base (by omega) (by omega)).symm
      · rw [if_neg h3]; exact two
    · rw [if_neg h2]; exact two
  · rw [if_neg h1]
    by_cases h2 : o.f2 = []
    · rw [if_pos h2]; exact two
    · rw [if_neg h2]
      rcases one_zero hb' hp with ⟨q0, q1, q2⟩ | ⟨he, _⟩
      · have t3 : ((⟨p.f0, p.f1, p.f2 ++ o.f2⟩ : S40).f2.length : Int) > 0 := by
          show (((p.f2 ++ o.f2).length : Nat) : Int) > 0
          rw [List.length_append]
          omega
        have t2 : (o.f2.length : Int) > 0 := by have := List.length_pos_iff.2 h2; omega
        refine all _ (fun x hx => ?_) ?_
        · rw [List.mem_singleton.1 hx]
          exact one_of_told t3 q1 q2
        · simp only [mkL, List.append_nil]
          rw [mk_told t3, mk_told q0, mk_told t2]
      · exact absurd he h1
theorem make_fold (base : List Int) (hb : base.length ≤ 131072) : ∀ (l xs : List S40), (∀ x ∈ xs, oneF (base.length : Int) x = 0) → (∀ o ∈ l, oneF (base.length : Int) o = 0) → (∀ x ∈ l.foldl addS xs, oneF (base.length : Int) x = 0) ∧ mkL base (l.foldl addS xs) = mkL base xs ++ mkL base l
  | [], xs, hx, _ => ⟨hx, by simp only [List.foldl_nil, mkL, List.append_nil]⟩
  | o :: l, xs, hx, hl => by
    obtain ⟨h1, h2⟩ := make_add base hb hx (hl o List.mem_cons_self)
    obtain ⟨h3, h4⟩ := make_fold base hb l _ h1 (fun x hx => hl x (List.mem_cons_of_mem _ hx))
    rw [List.foldl_cons]
    refine ⟨h3, ?_⟩
    rw [h4, h2, List.append_assoc]
    rfl
theorem make_norm (base : List Int) {l : List S40} (h : chkF (base.length : Int) l = 0) : chkF (base.length : Int) (normS l) = 0 ∧ mkL base (normS l) = mkL base l := by
  obtain ⟨hb, h1, h2, h3⟩ := chkF_zero h
  obtain ⟨h4, h5⟩ := make_fold base (by omega) l [] (fun _ h => by cases h) h1
  refine ⟨zero_chkF hb h4 (Nat.le_trans (norm_len l) h2) ?_, h5⟩
  have := ab_norm l
  rw [size_zero, this.1, this.2, ← size_zero]
  exact h3
/-- What of an op lies in a stretch of what it makes. -/
def pieceF (o : S40) (lo hi : Int) : List S40 := if lo < hi then (if (o.f2.length : Int) > 0 then [⟨0, 0, (o.f2.take hi.toNat).drop lo.toNat⟩] else [⟨wrap64 (o.f0 + lo), wrap64 (hi - lo), []⟩]) else []
def partL (a b : Int) : List S40 → Int → List S40 → List S40
  | out, _, [] => out
  | out, at_, o :: l => partL a b (out ++ pieceF o (mx (wrap64 (a - at_)) 0) (mn (wrap64 (b - at_)) (ln o))) (wrap64 (at_ + ln o)) l
theorem piece_len (o : S40) (lo hi : Int) : (pieceF o lo hi).length ≤ 1 := by
  unfold pieceF
  (repeat' split) <;> simp
theorem mn_le (x y : Int) : mn x y ≤ y := by unfold mn; split <;> omega
theorem clone_of {l : List Int} (h : l.length ≤ 400) : bytes_Clone.f l = some l := by unfold bytes_Clone.f; rw [if_pos (by omega)]
theorem cut_len (l : List Int) (n m : Nat) : ((l.take n).drop m).length ≤ l.length := by
  rw [List.length_drop, List.length_take]
  omega
theorem ln_told {o : S40} (h : (o.f2.length : Int) > 0) : ln o = (o.f2.length : Int) := by unfold ln; rw [if_pos h]
theorem part_loop (a b : Int) (l : List S40) (hs : sml l) : ∀ (d k i : Nat) (out : List S40) (at_ : Int), i + d = l.length → d + 1 < k → out.length ≤ i → delta_Part.l0 k a b out at_ l (l.length : Int) (i : Int) = some (partL a b out at_ (l.drop i), 0) := by
  intro d
  have hn : l.length ≤ 4000000000000 := by have := hs.2; omega
  induction d with
  | zero =>
    intro k i out at_ hi hk ho
    obtain ⟨k, rfl⟩ : ∃ m, k = m + 1 := ⟨k - 1, by omega⟩
    simp only [delta_Part.l0]
    rw [if_neg (by omega), end40 hi]
    rfl
  | succ d ih =>
    intro k i out at_ hi hk ho
    obtain ⟨k, rfl⟩ : ∃ m, k = m + 1 := ⟨k - 1, by omega⟩
    have hlt : i < l.length := by omega
    have hd : (rd_T40 l (i : Int)).f2.length ≤ 400 := by rw [rd40 hlt]; exact hs.1 _ (List.getElem_mem hlt)
    have h60 := hs.2
    simp only [delta_Part.l0]
    rw [if_pos (by omega), if_pos (by omega), if_pos (by omega), len_d, Option.bind_some, step40 hlt, inc hlt hn]
    simp only [partL]
    obtain ⟨o, ho'⟩ : ∃ o, o = rd_T40 l (i : Int) := ⟨_, rfl⟩
    rw [← ho'] at hd ⊢
    have hlo := (mx0 (wrap64 (a - at_))).1
    have hhi := mn_le (wrap64 (b - at_)) (ln o)
    generalize mx (wrap64 (a - at_)) 0 = lo at *
    generalize mn (wrap64 (b - at_)) (ln o) = hi' at *
    by_cases h : lo ≥ hi'
    · rw [if_pos h, show pieceF o lo hi' = [] by unfold pieceF; rw [if_neg (by omega)], List.append_nil]
      exact ih k (i + 1) _ _ (by omega) (by omega) (by omega)
    · rw [if_neg h, told_d, Option.bind_some]
      by_cases ht : (o.f2.length : Int) > 0
      · rw [decide_eq_true ht, if_pos rfl, if_pos hlo, if_pos (by omega), if_pos (by rw [ln_told ht] at hhi; exact hhi), clone_of (Nat.le_trans (cut_len _ _ _) hd), Option.bind_some, if_pos (by omega), show pieceF o lo hi' = [⟨0, 0, (o.f2.take hi'.toNat).drop lo.toNat⟩] by unfold pieceF; rw [if_pos (by omega), if_pos ht]]
        exact ih k (i + 1) _ _ (by omega) (by omega) (by simp; omega)
      · rw [decide_eq_false ht, if_neg (by decide), if_pos (by omega), show pieceF o lo hi' = [⟨wrap64 (o.f0 + lo), wrap64 (hi' - lo), []⟩] by unfold pieceF; rw [if_pos (by omega), if_neg ht]]
        exact ih k (i + 1) _ _ (by omega) (by omega) (by simp; omega)
/-- The ops of a stretch, or why there are none. -/
def partF (l : List S40) (a b : Int) : List S40 × Int := if chkF 131072 l = 0 then (if a < 0 then ([], 3) else if a > b then ([], 3) else if b > sizeL 0 l then ([], 3) else (partL a b [] 0 l, 0)) else ([], chkF 131072 l)
theorem part_d (l : List S40) (a b : Int) (hs : sml l) {k : Nat} (hk : l.length + 3 < k) : delta_Part.f k l a b = some (partF l a b) := by
  have hn : l.length ≤ 4000000000000 := by have := hs.2; omega
  obtain ⟨k, rfl⟩ : ∃ m, k = m + 1 := ⟨k - 1, by omega⟩
  unfold delta_Part.f partF
  rw [check_d 131072 l hn (by omega), Option.bind_some]
  by_cases hc : chkF 131072 l = 0
  · rw [if_pos hc, if_pos hc]
    simp only [delta_Part.j0]
    by_cases h0 : a < 0
    · rw [if_pos h0, if_pos h0, if_pos trivial]
    · rw [if_neg h0, if_neg h0]
      by_cases h1 : a > b
      · rw [if_pos h1, if_pos h1, if_pos trivial]
      · rw [if_neg h1, if_neg h1, size_d l hn (by omega), Option.bind_some]
        by_cases h2 : b > sizeL 0 l
        · rw [decide_eq_true h2, if_pos rfl, if_pos h2]
        · rw [decide_eq_false h2, if_neg (by decide), if_neg h2]
          have := part_loop a b l hs l.length k 0 [] 0 (by omega) (by omega) (by simp)
          rw [List.drop_zero] at this
          exact this
  · rw [if_neg hc, if_neg hc]
theorem part_few (a b : Int) : ∀ (l out : List S40) (at_ : Int), (partL a b out at_ l).length ≤ out.length + l.length
  | [], out, _ => Nat.le_refl _
  | o :: l, out, at_ => by
    simp only [partL]
    have h1 := part_few a b l (out ++ pieceF o (mx (wrap64 (a - at_)) 0) (mn (wrap64 (b - at_)) (ln o))) (wrap64 (at_ + ln o))
    have h2 := piece_len o (mx (wrap64 (a - at_)) 0) (mn (wrap64 (b - at_)) (ln o))
    rw [List.length_append] at h1
    rw [List.length_cons]
    omega
theorem partF_few (l : List S40) (a b : Int) : (partF l a b).1.length ≤ l.length := by
  unfold partF
  (repeat' split) <;> simp
  have := part_few a b l [] 0
  simpa using this
theorem wf16 {n : Int} (h : (Lit.int .u16 n).wf = true) : 0 ≤ n ∧ n < 65536 := by
  have e0 : IntKind.u16.min = 0 := by decide
  have e1 : IntKind.u16.max = 65535 := by decide
  simp [Lit.wf, e0, e1] at h
  omega
/-- A stretch of a text. -/
def seg (u v : Int) (X : List Int) : List Int := (X.take v.toNat).drop u.toNat
theorem seg_append (u v : Int) (X Y : List Int) : seg u v (X ++ Y) = seg u v X ++ seg (u - (X.length : Int)) (v - (X.length : Int)) Y := by
  unfold seg
  rw [List.take_append, List.drop_append, List.length_take]
  congr 1
  rw [show v.toNat - X.length = (v - (X.length : Int)).toNat by omega]
  by_cases h : v.toNat ≤ X.length
  · rw [show (v - (X.length : Int)).toNat = 0 by omega, List.take_zero, List.drop_nil, List.drop_nil]
  · rw [show u.toNat - min v.toNat X.length = (u - (X.length : Int)).toNat by omega]
theorem seg_nil (u v : Int) : seg u v [] = [] := by unfold seg; rw [List.take_nil, List.drop_nil]
theorem mk_len {base : List Int} (hb : base.length ≤ 131072) {o : S40} (h : oneF (base.length : Int) o = 0) : ((mkF base o).length : Int) = ln o := by
  rcases one_zero (by omega) h with ⟨h0, _, _⟩ | ⟨h0, h1, h2, h3, h4⟩
  · rw [mk_told h0, ln_told h0]
  · rw [mk_copy h0, w64 _ (by omega) (by omega), ln_copy h0 (by omega), List.length_drop, List.length_take]
    omega
theorem size_mk {base : List Int} (hb : base.length ≤ 131072) : ∀ (l : List S40) (n : Int), (∀ o ∈ l, oneF (base.length : Int) o = 0) → 0 ≤ n → n + ((mkL base l).length : Int) ≤ 4611686018427387904 → sizeL n l = n + ((mkL base l).length : Int)
  | [], n, _, _, _ => by simp [sizeL, mkL]
  | o :: l, n, h, h0, h1 => by
    have h2 := mk_len hb (h o List.mem_cons_self)
    simp only [mkL, List.length_append] at h1 ⊢
    have h3 : wrap64 (n + ln o) = n + ln o := w64 _ (by omega) (by omega)
    rw [sizeL, h3, size_mk hb l (n + ln o) (fun x hx => h x (List.mem_cons_of_mem _ hx)) (by omega) (by omega)]
    omega
theorem seg_empty {u v : Int} {X : List Int} (h : mn v (X.length : Int) ≤ mx u 0) : seg u v X = [] := by
  unfold seg
  refine List.drop_eq_nil_of_le ?_
  rw [List.length_take]
  unfold mn mx at h
  split at h <;> split at h <;> omega
theorem seg_clip {u v : Int} {X : List Int} : seg u v X = seg (mx u 0) (mn v (X.length : Int)) X := by
  unfold seg
  rw [show (mx u 0).toNat = u.toNat by unfold mx; split <;> omega]
  congr 1
  by_cases h : (X.length : Int) < v
  · rw [show mn v (X.length : Int) = (X.length : Int) by unfold mn; rw [if_pos h], Int.toNat_natCast, List.take_of_length_le (Nat.le_refl _), List.take_of_length_le (by omega)]
  · rw [show mn v (X.length : Int) = v by unfold mn; rw [if_neg h]]
/-- A piece of an op is right, and makes that stretch. -/
theorem piece_mk {base : List Int} (hb : base.length ≤ 131072) {o : S40} (h : oneF (base.length : Int) o = 0) (hd : o.f2.length ≤ 400) (u v : Int) : (∀ x ∈ pieceF o (mx u 0) (mn v (ln o)), oneF (base.length : Int) x = 0 ∧ x.f2.length ≤ 400) ∧ mkL base (pieceF o (mx u 0) (mn v (ln o))) = seg u v (mkF base o) := by
  have hl := mk_len hb h
  have hu := (mx0 u).1
  have hv := mn_le v (ln o)
  unfold pieceF
  by_cases hlt : mx u 0 < mn v (ln o)
  · rw [if_pos hlt]
    rw [seg_clip (u := u) (v := v), hl]
    generalize mx u 0 = lo at *
    generalize mn v (ln o) = hi at *
    rcases one_zero (by omega) h with ⟨h0, h1, h2⟩ | ⟨h0, h1, h2, h3, h4⟩
    · rw [if_pos h0]
      rw [ln_told h0] at hv
      have hlen : ((o.f2.take hi.toNat).drop lo.toNat).length = hi.toNat - lo.toNat := by
        rw [List.length_drop, List.length_take]
        omega
      have ht : (((⟨0, 0, (o.f2.take hi.toNat).drop lo.toNat⟩ : S40).f2.length : Nat) : Int) > 0 := by
        show ((((o.f2.take hi.toNat).drop lo.toNat).length : Nat) : Int) > 0
        omega
      refine ⟨fun x hx => ?_, ?_⟩
      · rw [List.mem_singleton.1 hx]
        exact ⟨one_of_told ht rfl rfl, by show ((o.f2.take hi.toNat).drop lo.toNat).length ≤ 400; omega⟩
      · simp only [mkL, List.append_nil]
        rw [mk_told ht, mk_told h0]
        rfl
    · rw [if_neg (by rw [h0]; decide)]
      rw [ln_copy h0 (by omega)] at hv
      have e1 : wrap64 (o.f0 + lo) = o.f0 + lo := w64 _ (by omega) (by omega)
      have e2 : wrap64 (hi - lo) = hi - lo := w64 _ (by omega) (by omega)
      rw [e1, e2]
      refine ⟨fun x hx => ?_, ?_⟩
      · rw [List.mem_singleton.1 hx]
        exact ⟨one_of_copy (by omega) rfl (by show 0 ≤ o.f0 + lo; omega) (by show 1 ≤ hi - lo; omega) (by show o.f0 + lo + (hi - lo) ≤ _; omega), by show ([] : List Int).length ≤ 400; simp⟩
      · simp only [mkL, List.append_nil]
        rw [mk_copy (o := ⟨o.f0 + lo, hi - lo, []⟩) rfl, mk_copy h0]
        show (base.take (wrap64 (o.f0 + lo + (hi - lo))).toNat).drop (o.f0 + lo).toNat = seg lo hi ((base.take (wrap64 (o.f0 + o.f1)).toNat).drop o.f0.toNat)
        rw [w64 (o.f0 + lo + (hi - lo)) (by omega) (by omega), w64 (o.f0 + o.f1) (by omega) (by omega)]
        unfold seg
        rw [List.take_drop, List.take_take, List.drop_drop, show min (o.f0.toNat + hi.toNat) (o.f0 + o.f1).toNat = (o.f0 + lo + (hi - lo)).toNat by omega, show o.f0.toNat + lo.toNat = (o.f0 + lo).toNat by omega]
  · rw [if_neg hlt]
    refine ⟨fun x hx => (by cases hx), ?_⟩
    rw [seg_empty (by rw [hl]; omega)]
    rfl
theorem part_mk {base : List Int} (hb : base.length ≤ 131072) (a b : Int) (ha : -1000000 ≤ a ∧ a ≤ 1000000) (hb2 : -1000000 ≤ b ∧ b ≤ 1000000) : ∀ (l out : List S40) (at_ : Int), 0 ≤ at_ → at_ + ((mkL base l).length : Int) ≤ 1000000 → (∀ o ∈ l, oneF (base.length : Int) o = 0 ∧ o.f2.length ≤ 400) → (∀ o ∈ out, oneF (base.length : Int) o = 0 ∧ o.f2.length ≤ 400) →
    (∀ o ∈ partL a b out at_ l, oneF (base.length : Int) o = 0 ∧ o.f2.length ≤ 400) ∧ mkL base (partL a b out at_ l) = mkL base out ++ seg (a - at_) (b - at_) (mkL base l)
  | [], out, at_, _, _, _, ho => by
    simp only [partL, mkL, seg_nil, List.append_nil]
    exact ⟨ho, trivial⟩
  | o :: l, out, at_, h0, h1, hl, ho => by
    obtain ⟨h2, h3⟩ := hl o List.mem_cons_self
    have h4 := mk_len hb h2
    simp only [mkL, List.length_append] at h1
    have e1 : wrap64 (a - at_) = a - at_ := w64 _ (by omega) (by omega)
    have e2 : wrap64 (b - at_) = b - at_ := w64 _ (by omega) (by omega)
    have e3 : wrap64 (at_ + ln o) = at_ + ln o := w64 _ (by omega) (by omega)
    obtain ⟨h5, h6⟩ := piece_mk hb h2 h3 (a - at_) (b - at_)
    simp only [partL, mkL]
    rw [e1, e2, e3]
    obtain ⟨h7, h8⟩ := part_mk hb a b ha hb2 l (out ++ pieceF o (mx (a - at_) 0) (mn (b - at_) (ln o))) (at_ + ln o) (by omega) (by omega) (fun x hx => hl x (List.mem_cons_of_mem _ hx)) (fun x hx => (List.mem_append.1 hx).elim (ho x) (h5 x))
    refine ⟨h7, ?_⟩
    rw [h8, mkL_append, h6, seg_append, List.append_assoc, h4, show a - at_ - ln o = a - (at_ + ln o) by omega, show b - at_ - ln o = b - (at_ + ln o) by omega]
theorem chk_wide {b : Int} {l : List S40} (h : chkF b l = 0) : chkF 131072 l = 0 := by
  obtain ⟨h1, h2, h3, h4⟩ := chkF_zero h
  refine zero_chkF (by omega) (fun o ho => ?_) h3 h4
  rcases one_zero h1 (h2 o ho) with ⟨h5, h6, h7⟩ | ⟨h5, h6, h7, h8, h9⟩
  · exact one_of_told h5 h6 h7
  · exact one_of_copy (by omega) h5 h6 h8 (by omega)
theorem seg_len (u v : Int) (X : List Int) : (seg u v X).length ≤ X.length := by
  unfold seg
  rw [List.length_drop, List.length_take]
  omega
/-- The ops of a stretch make it. -/
theorem part_of {base : List Int} {l : List S40} (hs : sml l) (h : chkF (base.length : Int) l = 0) {a b : Int} (ha : 0 ≤ a) (hab : a ≤ b) (hb : b ≤ ((mkL base l).length : Int)) :
    ∃ p, partF l a b = (p, 0) ∧ p.length ≤ 60 ∧ (∀ o ∈ p, oneF (base.length : Int) o = 0 ∧ o.f2.length ≤ 400) ∧ mkL base p = seg a b (mkL base l) ∧ (mkL base l).length ≤ 65536 := by
  obtain ⟨h1, h2, h3, h4⟩ := chkF_zero h
  have hbl : base.length ≤ 131072 := by omega
  have hcap : ∀ m : List S40, (∀ o ∈ m, oneF (base.length : Int) o = 0 ∧ o.f2.length ≤ 400) → (mkL base m).length ≤ m.length * 131072 := by
    intro m
    induction m with
    | nil => intro _; simp [mkL]
    | cons o m ih =>
      intro hm
      have q1 := ih (fun x hx => hm x (List.mem_cons_of_mem _ hx))
      obtain ⟨q2, q3⟩ := hm o List.mem_cons_self
      simp only [mkL, List.length_append, List.length_cons]
      rcases one_zero (by omega) q2 with ⟨q4, _⟩ | ⟨q4, _⟩
      · rw [mk_told q4]; omega
      · have : (mkF base o).length ≤ base.length := by
          rw [mk_copy q4, List.length_drop, List.length_take]
          omega
        omega
  have h5 := hcap l (fun o ho => ⟨h2 o ho, hs.1 o ho⟩)
  have h60 := hs.2
  have h6 := size_mk hbl l 0 h2 (by omega) (by omega)
  rw [h6] at h4
  obtain ⟨h7, h8⟩ := part_mk hbl a b (by omega) (by omega) l [] 0 (by omega) (by omega) (fun o ho => ⟨h2 o ho, hs.1 o ho⟩) (fun _ hx => by cases hx)
  have h9 := part_few a b l [] 0
  rw [List.length_nil] at h9
  refine ⟨partL a b [] 0 l, ?_, by omega, h7, ?_, by omega⟩
  · unfold partF
    rw [if_pos (chk_wide h), if_neg (by omega), if_neg (by omega), if_neg (by omega)]
  · rw [h8, Int.sub_zero, Int.sub_zero]
    rfl
/-- Ops that are right and make little are applied. -/
theorem apply_of {base : List Int} (hb : base.length ≤ 131072) {p : List S40} (hn : p.length ≤ 8192) (hp : ∀ o ∈ p, oneF (base.length : Int) o = 0 ∧ o.f2.length ≤ 400) (hl : (mkL base p).length ≤ 65536) {k : Nat} (hk : p.length + 2 < k) : delta_Apply.f k base p = some (mkL base p, 0) := by
  rw [apply_d base p (by omega) (fun o ho => Nat.le_trans (hp o ho).2 (by omega)) hk]
  unfold applyF
  have h1 : ∀ o ∈ p, oneF (base.length : Int) o = 0 := fun o ho => (hp o ho).1
  rw [if_pos (zero_chkF (by omega) h1 hn (by rw [size_mk hb p 0 h1 (by omega) (by omega)]; omega))]
theorem tmod_bd {x y : Int} (hx : 0 ≤ x) (hy : 0 < y) : 0 ≤ Int.tmod x y ∧ Int.tmod x y < y := by
  rw [Int.tmod_eq_emod_of_nonneg hx]
  exact ⟨Int.emod_nonneg _ (by omega), Int.emod_lt_of_pos _ hy⟩
theorem dsame_loop (l : List S40) (hn : l.length ≤ 4000000000000) : ∀ (d k i : Nat), i + d = l.length → d < k → delta_Same.l0 k l l (l.length : Int) (i : Int) = some true := by
  intro d
  induction d with
  | zero =>
    intro k i hi hk
    obtain ⟨k, rfl⟩ : ∃ m, k = m + 1 := ⟨k - 1, by omega⟩
    simp only [delta_Same.l0]
    rw [if_neg (by omega)]
  | succ d ih =>
    intro k i hi hk
    obtain ⟨k, rfl⟩ : ∃ m, k = m + 1 := ⟨k - 1, by omega⟩
    have hlt : i < l.length := by omega
    have he : ∀ x : List Int, bytes_Equal.f x x = some true := fun x => by unfold bytes_Equal.f; rw [beq_self_eq_true]
    simp only [delta_Same.l0]
    rw [if_pos (by omega), if_pos (by omega), if_pos (by omega), if_pos (by omega), if_pos trivial, if_pos trivial, he, Option.bind_some, if_pos rfl, inc hlt hn]
    exact ih k (i + 1) (by omega) (by omega)
theorem dsame_of (l : List S40) (hn : l.length ≤ 4000000000000) {k : Nat} (hk : l.length < k) : delta_Same.f k l l = some true := by
  unfold delta_Same.f
  rw [if_pos rfl]
  exact dsame_loop l hn l.length k 0 (by omega) (by omega)
theorem piece_data {o : S40} {n : Nat} (h : o.f2.length ≤ n) (lo hi : Int) : ∀ x ∈ pieceF o lo hi, x.f2.length ≤ n := by
  intro x hx
  unfold pieceF at hx
  by_cases h1 : lo < hi
  · rw [if_pos h1] at hx
    by_cases h2 : (o.f2.length : Int) > 0
    · rw [if_pos h2] at hx
      rw [List.mem_singleton.1 hx]
      exact Nat.le_trans (cut_len _ _ _) h
    · rw [if_neg h2] at hx
      rw [List.mem_singleton.1 hx]
      exact Nat.zero_le _
  · rw [if_neg h1] at hx; cases hx
theorem part_data (a b : Int) : ∀ (l out : List S40) (at_ : Int), (∀ o ∈ l, o.f2.length ≤ 400) → (∀ o ∈ out, o.f2.length ≤ 400) → ∀ x ∈ partL a b out at_ l, x.f2.length ≤ 400
  | [], _, _, _, ho => ho
  | o :: l, out, at_, hl, ho => part_data a b l _ _ (fun x hx => hl x (List.mem_cons_of_mem _ hx)) (fun x hx => (List.mem_append.1 hx).elim (ho x) (piece_data (hl o List.mem_cons_self) _ _ x))
theorem partF_data {l : List S40} (hs : sml l) (a b : Int) : ∀ x ∈ (partF l a b).1, x.f2.length ≤ 400 := by
  unfold partF
  (repeat' split) <;> intro x hx
  · cases hx
  · cases hx
  · cases hx
  · exact part_data a b l [] 0 hs.1 (fun _ h => by cases h) x hx
  · cases hx
theorem wt_cap (c : Nat) : ∀ l : List S40, (∀ o ∈ l, o.f2.length ≤ c) → Jn.wt (l.map toT) ≤ l.length * c
  | [], _ => by simp [Jn.wt_nil]
  | o :: l, h => by
    rw [List.map_cons, Jn.wt_cons, List.length_cons, Nat.add_mul]
    have h1 := wt_cap c l (fun x hx => h x (List.mem_cons_of_mem _ hx))
    have h2 : (toT o).2.2.length ≤ c := h o List.mem_cons_self
    omega
/-- The ops that are put together, one behind the other. -/
def seqL (a : List S40) : List S40 → List S40
  | [] => []
  | o :: b => (if (o.f2.length : Int) > 0 then [o] else (partF a o.f0 (wrap64 (o.f0 + o.f1))).1) ++ seqL a b
theorem then_loop {a : List S40} (hs : sml a) {k : Nat} (hk : a.length + 3 < k) : ∀ (b : List S40) (acc : List Jn.T3), (∀ o ∈ b, o.f2.length ≤ 400) → acc.length + 60 * b.length ≤ 10000 → Jn.wt acc + 24000 * b.length ≤ 100000000 → delta_Then.l0 k a b acc = some (((seqL a b).map toT).foldl Jn.addL acc)
  | [], acc, _, _, _ => rfl
  | o :: b, acc, hb, h1, h2 => by
    have hd := hb o List.mem_cons_self
    have hb' : ∀ x ∈ b, x.f2.length ≤ 400 := fun x hx => hb x (List.mem_cons_of_mem _ hx)
    rw [List.length_cons] at h1 h2
    unfold delta_Then.l0 seqL
    rw [if_neg (by
      intro h
      rcases h with h | h
      · exact h ⟨by omega, by omega⟩
      · omega), told_d, Option.bind_some]
    by_cases ht : (o.f2.length : Int) > 0
    · rw [decide_eq_true ht, if_pos rfl, if_pos ht]
      have h3 := Jn.addL_len acc (toT o)
      have h4 : (toT o).2.2.length = o.f2.length := rfl
      rw [then_loop hs hk b _ hb' (by omega) (by omega), List.map_append, List.foldl_append]
      rfl
    · rw [decide_eq_false ht, if_neg (by decide), if_neg ht, part_d a o.f0 (wrap64 (o.f0 + o.f1)) hs hk, Option.bind_some]
      have h60 := hs.2
      have h3 := partF_few a o.f0 (wrap64 (o.f0 + o.f1))
      have h4 := wt_cap 400 _ (partF_data hs o.f0 (wrap64 (o.f0 + o.f1)))
      have h5 := Jn.fold_len ((partF a o.f0 (wrap64 (o.f0 + o.f1))).1.map toT) acc
      rw [List.length_map] at h5
      rw [if_neg (by omega), then_loop hs hk b _ hb' (by omega) (by omega), List.map_append, List.foldl_append]
theorem seq_len {a : List S40} (hs : sml a) : ∀ b : List S40, (seqL a b).length ≤ 60 * b.length
  | [] => by simp [seqL]
  | o :: b => by
    have h1 := seq_len hs b
    have h60 := hs.2
    have h3 := partF_few a o.f0 (wrap64 (o.f0 + o.f1))
    simp only [seqL, List.length_append, List.length_cons]
    split
    · simp; omega
    · omega
/-- The ops one behind the other make what the second ones make of what the first ones make. -/
theorem seq_mk {base : List Int} {a : List S40} (hs : sml a) (hc : chkF (base.length : Int) a = 0) (hx : (mkL base a).length ≤ 65536) : ∀ b : List S40, (∀ o ∈ b, oneF ((mkL base a).length : Int) o = 0 ∧ o.f2.length ≤ 400) → (∀ o ∈ seqL a b, oneF (base.length : Int) o = 0 ∧ o.f2.length ≤ 400) ∧ mkL base (seqL a b) = mkL (mkL base a) b
  | [], _ => ⟨fun _ h => (by cases h), rfl⟩
  | o :: b, h => by
    obtain ⟨h1, h2⟩ := seq_mk hs hc hx b (fun x hx => h x (List.mem_cons_of_mem _ hx))
    obtain ⟨h3, h4⟩ := h o List.mem_cons_self
    simp only [seqL, mkL]
    rw [mkL_append, h2]
    rcases one_zero (by omega) h3 with ⟨t0, t1, t2⟩ | ⟨t0, t1, t2, t3, t4⟩
    · rw [if_pos t0]
      refine ⟨fun x hx => (List.mem_append.1 hx).elim (fun hx => ?_) (h1 x), ?_⟩
      · rw [List.mem_singleton.1 hx]
        exact ⟨one_of_told t0 t1 t2, h4⟩
      · simp only [mkL, List.append_nil]
        rw [mk_told t0, mk_told t0]
    · have hw : wrap64 (o.f0 + o.f1) = o.f0 + o.f1 := w64 _ (by omega) (by omega)
      obtain ⟨p, p1, p2, p3, p4, _⟩ := part_of hs hc (a := o.f0) (b := o.f0 + o.f1) t1 (by omega) t4
      rw [if_neg (by rw [t0]; decide), hw, p1]
      refine ⟨fun x hx => (List.mem_append.1 hx).elim (p3 x) (h1 x), ?_⟩
      show mkL base p ++ _ = _
      rw [p4, mk_copy t0, hw]
      rfl
theorem mk_mem {base : List Int} : ∀ {l : List S40} {o : S40}, o ∈ l → (mkF base o).length ≤ (mkL base l).length
  | x :: l, o, h => by
    simp only [mkL, List.length_append]
    rcases List.mem_cons.1 h with rfl | h
    · omega
    · have := mk_mem (base := base) h
      omega
/-- Ops that are right and make little are applied, however many bytes one tells. -/
theorem apply_of2 {base : List Int} (hb : base.length ≤ 131072) {p : List S40} (hn : p.length ≤ 8192) (hp : ∀ o ∈ p, oneF (base.length : Int) o = 0) (hl : (mkL base p).length ≤ 65536) {k : Nat} (hk : p.length + 2 < k) : (∀ o ∈ p, o.f2.length ≤ 65536) ∧ delta_Apply.f k base p = some (mkL base p, 0) := by
  have hd : ∀ o ∈ p, o.f2.length ≤ 65536 := fun o ho => by
    rcases one_zero (by omega) (hp o ho) with ⟨t0, _⟩ | ⟨t0, _⟩
    · have := mk_mem (base := base) ho
      rw [mk_told t0] at this
      omega
    · rw [t0]; exact Nat.zero_le _
  refine ⟨hd, ?_⟩
  rw [apply_d base p (by omega) (fun o ho => Nat.le_trans (hd o ho) (by omega)) hk]
  unfold applyF
  rw [if_pos (zero_chkF (by omega) hp hn (by rw [size_mk hb p 0 hp (by omega) (by omega)]; omega))]
theorem then_d {a b : List S40} (ha : sml a) (hb : sml b) {k : Nat} (hk : a.length + b.length + 3 < k) : delta_Then.f k a b = some (if chkF 131072 a = 0 then (if chkF (sizeL 0 a) b = 0 then (normS (seqL a b), 0) else ([], chkF (sizeL 0 a) b)) else ([], chkF 131072 a)) := by
  have h1 := ha.2
  have h2 := hb.2
  unfold delta_Then.f
  rw [check_d 131072 a (by omega) (by omega), Option.bind_some]
  by_cases c1 : chkF 131072 a = 0
  · rw [if_pos c1, if_pos c1, size_d a (by omega) (by omega), Option.bind_some, check_d _ b (by omega) (by omega), Option.bind_some]
    by_cases c2 : chkF (sizeL 0 a) b = 0
    · have h3 := seq_len ha b
      have h4 := (Jn.fold_len ((seqL a b).map toT) []).1
      rw [List.length_nil, List.length_map] at h4
      rw [if_pos c2, if_pos c2, if_neg (by omega), then_loop ha (by omega) b [] hb.1 (by rw [List.length_nil]; omega) (by rw [Jn.wt_nil]; omega), Option.bind_some, if_neg (by omega)]
      have := fold_of (seqL a b) []
      rw [List.map_nil] at this
      rw [this]
      rfl
    · rw [if_neg c2, if_neg c2]
  · rw [if_neg c1, if_neg c1]

theorem DeltaComposes : remoralaw08_DeltaComposes.Pure := by
  intro base a b hb1 hb2 hla ha40 hlb hb40
  have hna := few ha40
  have hnb := few hb40
  have awake : ∀ k, remoralaw08_DeltaComposes.j0 (k + 1) base a b true = some true := fun k => by
    rw [remoralaw08_DeltaComposes.j0, if_pos rfl]
    rfl
  obtain ⟨K, hK⟩ : ∃ K, K = a.length + b.length + 4000 := ⟨_, rfl⟩
  refine ⟨K + 1, ?_⟩
  obtain ⟨t, h1, h2⟩ := small_of a hna (k := K + 1) (by omega)
  obtain ⟨t', h1', h2'⟩ := small_of b hnb (k := K + 1) (by omega)
  unfold remoralaw08_DeltaComposes.f
  rw [h1, Option.bind_some]
  by_cases ht : t = true
  · rw [if_pos ht, h1', Option.bind_some]
    by_cases ht' : t' = true
    · rw [if_pos ht']
      have hsa := h2 ht
      have hsb := h2' ht'
      have h60 := hsa.2
      have h60' := hsb.2
      by_cases hbig : (base.length : Int) > 2000
      · rw [decide_eq_true hbig]
        exact awake _
      · rw [decide_eq_false hbig, remoralaw08_DeltaComposes.j0, if_neg (by decide), apply_d base a (by omega) (fun o ho => Nat.le_trans (hsa.1 o ho) (by omega)) (by omega), Option.bind_some]
        unfold applyF
        by_cases hc : chkF (base.length : Int) a = 0
        · rw [if_pos hc, if_pos rfl]
          obtain ⟨_, _, _, _, _, hcap⟩ := part_of hsa hc (a := 0) (b := 0) (by omega) (by omega) (by omega)
          have hsz : sizeL 0 a = ((mkL base a).length : Int) := by
            rw [size_mk (base := base) (by omega) a 0 (chkF_zero hc).2.1 (by omega) (by omega)]
            omega
          rw [apply_d (mkL base a) b (by omega) (fun o ho => Nat.le_trans (hsb.1 o ho) (by omega)) (by omega), Option.bind_some, then_d hsa hsb (by omega), Option.bind_some, if_pos (chk_wide hc), hsz]
          unfold applyF
          by_cases hd : chkF ((mkL base a).length : Int) b = 0
          · rw [if_pos hd, if_pos hd, if_pos rfl]
            obtain ⟨q1, q2, q3, q4⟩ := chkF_zero hd
            obtain ⟨s1, s2⟩ := seq_mk hsa hc hcap b (fun o ho => ⟨q2 o ho, hsb.1 o ho⟩)
            obtain ⟨m1, m2⟩ := make_fold base (by omega) (seqL a b) [] (fun _ h => by cases h) (fun o ho => (s1 o ho).1)
            have m3 : mkL base (normS (seqL a b)) = mkL (mkL base a) b := by rw [← s2]; exact m2
            have hl1 := seq_len hsa b
            have hl2 := norm_len (seqL a b)
            have hy : (mkL (mkL base a) b).length ≤ 65536 := by
              have hcapb : ∀ m : List S40, (∀ o ∈ m, oneF ((mkL base a).length : Int) o = 0 ∧ o.f2.length ≤ 400) → (mkL (mkL base a) m).length ≤ m.length * 131072 := by
                intro m
                induction m with
                | nil => intro _; simp [mkL]
                | cons o m ih =>
                  intro hm
                  have r1 := ih (fun x hx => hm x (List.mem_cons_of_mem _ hx))
                  obtain ⟨r2, r3⟩ := hm o List.mem_cons_self
                  simp only [mkL, List.length_append, List.length_cons]
                  rcases one_zero (by omega) r2 with ⟨r4, _⟩ | ⟨r4, _⟩
                  · rw [mk_told r4]; omega
                  · have : (mkF (mkL base a) o).length ≤ (mkL base a).length := by
                      rw [mk_copy r4, List.length_drop, List.length_take]
                      omega
                    omega
              have r5 := hcapb b (fun o ho => ⟨q2 o ho, hsb.1 o ho⟩)
              have r6 := size_mk (base := mkL base a) (by omega) b 0 q2 (by omega) (by omega)
              rw [r6] at q4
              omega
            obtain ⟨n1, n2⟩ := apply_of2 (base := base) (by omega) (p := normS (seqL a b)) (by omega) m1 (by rw [m3]; exact hy) (k := K) (by omega)
            rw [n2, Option.bind_some, if_pos rfl, if_pos rfl, if_pos (by rw [m3]), norm_d (by omega) n1, Option.bind_some, norm_norm, dsame_of _ (by omega) (by omega), Option.bind_some, if_pos rfl]
            rfl
          · rw [if_neg hd, if_neg hd, if_neg hd, if_pos rfl]
            rfl
        · rw [if_neg hc, if_neg hc]
          rfl
    · rw [if_neg ht']
      exact awake _
  · rw [if_neg ht]
    exact awake _

end Go.Proofs.Ytifmajnhcbicnaa.Pure
