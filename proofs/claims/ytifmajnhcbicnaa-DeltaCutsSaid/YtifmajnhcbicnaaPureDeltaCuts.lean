/- The ops of a stretch make that stretch, and the stretches ahead of a place and behind it make all, for at most 60 ops of at most 400 bytes. Conditions: none. -/
import Derived.Test.YtifmajnhcbicnaaPDeltaCutsx4
namespace Go.Proofs.Ytifmajnhcbicnaa.Pure
open Go.RowKit Go.Proofs.Ytifmajnhcbicnaa.PDeltaCuts Go.Proofs.YtifmajnhcbicnaaW.PrintWords Go.Proofs.YtifmajnhcbicnaaW.PrintLast Go.Proofs.YtifmajnhcbicnaaW.PrintMore
set_option maxRecDepth 100000
set_option linter.unusedVariables false
theorem w64 (n : Int) (h0 : -9223372036854775808 ≤ n) (h1 : n ≤ 9223372036854775807) : wrap64 n = n := by unfold wrap64; omega
theorem wq (n : Int) : ∃ q : Int, wrap64 n = n + q * 18446744073709551616 ∧ -9223372036854775808 ≤ wrap64 n ∧ wrap64 n ≤ 9223372036854775807 := by
  refine ⟨-((n + 9223372036854775808) / 18446744073709551616), ?_, ?_, ?_⟩ <;> unfold wrap64 <;> omega
theorem wrap_comm (a b c : Int) : wrap64 (wrap64 (a + c) + b) = wrap64 (wrap64 (a + b) + c) := by
  obtain ⟨q1, e1, _, _⟩ := wq (a + c)
  obtain ⟨q2, e2, l2, u2⟩ := wq (wrap64 (a + c) + b)
  obtain ⟨q3, e3, _, _⟩ := wq (a + b)
  obtain ⟨q4, e4, l4, u4⟩ := wq (wrap64 (a + b) + c)
  generalize wrap64 (wrap64 (a + c) + b) = x2 at *
  generalize wrap64 (wrap64 (a + b) + c) = x4 at *
  generalize wrap64 (a + c) = x1 at *
  generalize wrap64 (a + b) = x3 at *
  omega
theorem wrap_add (a b c : Int) : wrap64 (a + wrap64 (b + c)) = wrap64 (wrap64 (a + b) + c) := by
  obtain ⟨q1, e1, _, _⟩ := wq (b + c)
  obtain ⟨q2, e2, l2, u2⟩ := wq (a + wrap64 (b + c))
  obtain ⟨q3, e3, _, _⟩ := wq (a + b)
  obtain ⟨q4, e4, l4, u4⟩ := wq (wrap64 (a + b) + c)
  generalize wrap64 (a + wrap64 (b + c)) = x2 at *
  generalize wrap64 (wrap64 (a + b) + c) = x4 at *
  generalize wrap64 (b + c) = x1 at *
  generalize wrap64 (a + b) = x3 at *
  omega
theorem rd40 {l : List S40} {i : Nat} (h : i < l.length) : rd_T40 l (i : Int) = l[i] := by
  unfold rd_T40
  rw [Int.toNat_natCast, List.getD_eq_getElem?_getD, List.getElem?_eq_getElem h, Option.getD_some]
theorem step40 {l : List S40} {i : Nat} (h : i < l.length) : l.drop i = rd_T40 l (i : Int) :: l.drop (i + 1) := by
  rw [rd40 h]
  exact List.drop_eq_getElem_cons h
theorem end40 {l : List S40} {i : Nat} (h : i + 0 = l.length) : l.drop i = [] := List.drop_eq_nil_of_le (by omega)
theorem inc {i n : Nat} (h : i < n) (hn : n ≤ 4000000000000) : wrap64 ((i : Int) + 1) = ((i + 1 : Nat) : Int) := by unfold wrap64; omega
/-- How many bytes an op makes. -/
def ln (o : S40) : Int := if (o.f2.length : Int) > 0 then (o.f2.length : Int) else mx o.f1 0
theorem mx0 (x : Int) : 0 ≤ mx x 0 ∧ x ≤ mx x 0 ∧ (mx x 0 = x ∨ mx x 0 = 0) := by unfold mx; split <;> omega
theorem ln_nonneg (o : S40) : 0 ≤ ln o := by
  unfold ln
  split
  · omega
  · exact (mx0 _).1
theorem told_d (o : S40) : delta_told.f o.f0 o.f1 o.f2 = some (decide ((o.f2.length : Int) > 0)) := rfl
theorem len_d (o : S40) : delta_length.f o.f0 o.f1 o.f2 = some (ln o) := by
  unfold delta_length.f delta_told.f ln
  by_cases h : (o.f2.length : Int) > 0
  · rw [Option.bind_some, decide_eq_true h, if_pos rfl, if_pos h]
  · rw [Option.bind_some, decide_eq_false h, if_neg (by decide), if_neg h]
/-- What is wrong with an op over a basis. -/
def oneF (b : Int) (o : S40) : Int := if (o.f2.length : Int) > 0 then (if o.f0 = 0 then (if o.f1 = 0 then 0 else 2) else 2) else if o.f0 < 0 then 2 else if o.f1 < 1 then 2 else if o.f0 > b then 3 else if o.f1 > wrap64 (b - o.f0) then 3 else 0
theorem one_d {k : Nat} (hk : 0 < k) (o : S40) (b : Int) : delta_one.f k o.f0 o.f1 o.f2 b = some (oneF b o) := by
  obtain ⟨k, rfl⟩ : ∃ m, k = m + 1 := ⟨k - 1, by omega⟩
  unfold delta_one.f oneF
  rw [told_d, Option.bind_some]
  by_cases h : (o.f2.length : Int) > 0
  · rw [decide_eq_true h, if_pos rfl, if_pos h]
    (repeat' split) <;> rfl
  · rw [decide_eq_false h, if_neg (by decide), if_neg h]
    by_cases h0 : o.f0 < 0
    · rw [if_pos h0, if_pos h0]
      simp only [delta_one.j0]
      rw [if_pos trivial]
    · rw [if_neg h0, if_neg h0]
      simp only [delta_one.j0]
      by_cases h1 : o.f1 < 1
      · rw [decide_eq_true h1, if_pos rfl, if_pos h1]
      · rw [decide_eq_false h1, if_neg (by decide), if_neg h1]
        (repeat' split) <;> rfl
/-- The first that is wrong with ops over a basis. -/
def chkL (b : Int) : List S40 → Int
  | [] => 0
  | o :: l => if oneF b o = 0 then chkL b l else oneF b o
/-- How many bytes ops make, behind n, as the machine counts. -/
def sizeL : Int → List S40 → Int
  | n, [] => n
  | n, o :: l => sizeL (wrap64 (n + ln o)) l
def endF (len : Int) (n : Int) : Int := if len > 8192 then 7 else if n > 65536 then 7 else 0
def resF (b len n : Int) (l : List S40) : Int := if chkL b l = 0 then endF len n else chkL b l
theorem res_yes {b len n : Int} {o : S40} {l : List S40} (h : oneF b o = 0) : resF b len n (o :: l) = resF b len n l := by
  have e : chkL b (o :: l) = chkL b l := by rw [chkL, if_pos h]
  unfold resF
  rw [e]
theorem res_no {b len n : Int} {o : S40} {l : List S40} (h : ¬ oneF b o = 0) : resF b len n (o :: l) = oneF b o := by
  have e : chkL b (o :: l) = oneF b o := by rw [chkL, if_neg h]
  unfold resF
  rw [e, if_neg h]
theorem end_if (len n : Int) : (if len > 8192 then some 7 else if n > 65536 then some 7 else some 0 : Option Int) = some (endF len n) := by
  unfold endF
  by_cases h : len > 8192
  · rw [if_pos h, if_pos h]
  · rw [if_neg h, if_neg h]
    by_cases h : n > 65536
    · rw [if_pos h, if_pos h]
    · rw [if_neg h, if_neg h]
def chkF (b : Int) (l : List S40) : Int := if b < 0 then 2 else if b > 131072 then 2 else resF b (l.length : Int) (sizeL 0 l) l
theorem check_loop (b : Int) (l : List S40) (hn : l.length ≤ 4000000000000) : ∀ (d k i : Nat) (n : Int), i + d = l.length → d + 1 < k → delta_Check.l0 k l b n l (l.length : Int) (i : Int) = some (resF b (l.length : Int) (sizeL n (l.drop i)) (l.drop i)) := by
  intro d
  induction d with
  | zero =>
    intro k i n hi hk
    obtain ⟨k, rfl⟩ : ∃ m, k = m + 1 := ⟨k - 1, by omega⟩
    simp only [delta_Check.l0]
    rw [if_neg (by omega), end40 hi, end_if]
    rfl
  | succ d ih =>
    intro k i n hi hk
    obtain ⟨k, rfl⟩ : ∃ m, k = m + 1 := ⟨k - 1, by omega⟩
    have hlt : i < l.length := by omega
    simp only [delta_Check.l0]
    rw [if_pos (by omega), if_pos (by omega), if_pos (by omega), one_d (by omega), Option.bind_some, step40 hlt, inc hlt hn, len_d]
    by_cases h : oneF b (rd_T40 l (i : Int)) = 0
    · rw [if_pos h, Option.bind_some, res_yes h]
      exact ih k (i + 1) _ (by omega) (by omega)
    · rw [if_neg h, res_no h]
theorem check_d (b : Int) (l : List S40) (hn : l.length ≤ 4000000000000) {k : Nat} (hk : l.length + 2 < k) : delta_Check.f k l b = some (chkF b l) := by
  obtain ⟨k, rfl⟩ : ∃ m, k = m + 1 := ⟨k - 1, by omega⟩
  unfold delta_Check.f chkF
  by_cases h0 : b < 0
  · rw [if_pos h0, if_pos h0]
    simp only [delta_Check.j0]
    rw [if_pos trivial]
  · rw [if_neg h0, if_neg h0]
    simp only [delta_Check.j0]
    by_cases h1 : b > 131072
    · rw [decide_eq_true h1, if_pos rfl, if_pos h1]
    · rw [decide_eq_false h1, if_neg (by decide), if_neg h1]
      have := check_loop b l hn l.length k 0 0 (by omega) (by omega)
      rw [List.drop_zero] at this
      exact this
/-- Few ops, of few bytes. -/
def sml (l : List S40) : Prop := (∀ o ∈ l, o.f2.length ≤ 400) ∧ l.length ≤ 60
theorem small_loop (l : List S40) (hn : l.length ≤ 4000000000000) : ∀ (d k i : Nat), i + d = l.length → d < k → ∃ t, remoraref08_Small.l0 k l (i : Int) = some t ∧ (t = true → (∀ o ∈ l.drop i, o.f2.length ≤ 400) ∧ l.length ≤ 60) ∧ ((∀ o ∈ l.drop i, o.f2.length ≤ 400) ∧ l.length ≤ 60 → t = true) := by
  intro d
  induction d with
  | zero =>
    intro k i hi hk
    obtain ⟨k, rfl⟩ : ∃ m, k = m + 1 := ⟨k - 1, by omega⟩
    simp only [remoraref08_Small.l0]
    rw [if_neg (by omega), end40 hi]
    exact ⟨_, rfl, fun h => ⟨fun o ho => (by cases ho), by have := of_decide_eq_true h; omega⟩, fun h => decide_eq_true (by omega)⟩
  | succ d ih =>
    intro k i hi hk
    obtain ⟨k, rfl⟩ : ∃ m, k = m + 1 := ⟨k - 1, by omega⟩
    have hlt : i < l.length := by omega
    simp only [remoraref08_Small.l0]
    rw [if_pos (by omega), if_pos (by omega), step40 hlt, inc hlt hn]
    by_cases h : ((rd_T40 l (i : Int)).f2.length : Int) > 400
    · rw [if_pos h]
      refine ⟨_, rfl, fun h => (by cases h), fun h2 => ?_⟩
      have := h2.1 _ List.mem_cons_self
      omega
    · rw [if_neg h]
      obtain ⟨t, h1, h2, h3⟩ := ih k (i + 1) (by omega) (by omega)
      refine ⟨t, h1, fun ht => ⟨fun o ho => ?_, (h2 ht).2⟩, fun h4 => h3 ⟨fun o ho => h4.1 o (List.mem_cons_of_mem _ ho), h4.2⟩⟩
      rcases List.mem_cons.1 ho with rfl | ho
      · omega
      · exact (h2 ht).1 o ho
theorem small_of (l : List S40) (hn : l.length ≤ 4000000000000) {k : Nat} (hk : l.length < k) : ∃ t, remoraref08_Small.f k l = some t ∧ (t = true → sml l) := by
  obtain ⟨t, h1, h2, h3⟩ := small_loop l hn l.length k 0 (by omega) (by omega)
  rw [List.drop_zero] at h2
  exact ⟨t, h1, h2⟩
theorem few {l : List S40} (h : l.length * 40 ≤ 140737488351232) : l.length ≤ 4000000000000 := by omega
/-- The bytes told, and copied. -/
def costL : Int → Int → List S40 → Int × Int
  | a, b, [] => (a, b)
  | a, b, o :: l => if (o.f2.length : Int) > 0 then costL (wrap64 (a + ln o)) b l else costL a (wrap64 (b + ln o)) l
theorem cost_size : ∀ (l : List S40) (a b : Int), wrap64 ((costL a b l).1 + (costL a b l).2) = sizeL (wrap64 (a + b)) l
  | [], a, b => rfl
  | o :: l, a, b => by
    simp only [costL, sizeL]
    by_cases h : (o.f2.length : Int) > 0
    · rw [if_pos h, cost_size l, wrap_comm]
    · rw [if_neg h, cost_size l, wrap_add]
theorem cost_loop (l : List S40) (hn : l.length ≤ 4000000000000) : ∀ (d k i : Nat) (a b : Int), i + d = l.length → d < k → delta_Cost.l0 k a b l (l.length : Int) (i : Int) = some (costL a b (l.drop i)) := by
  intro d
  induction d with
  | zero =>
    intro k i a b hi hk
    obtain ⟨k, rfl⟩ : ∃ m, k = m + 1 := ⟨k - 1, by omega⟩
    simp only [delta_Cost.l0]
    rw [if_neg (by omega), end40 hi]
    rfl
  | succ d ih =>
    intro k i a b hi hk
    obtain ⟨k, rfl⟩ : ∃ m, k = m + 1 := ⟨k - 1, by omega⟩
    have hlt : i < l.length := by omega
    simp only [delta_Cost.l0]
    rw [if_pos (by omega), if_pos (by omega), if_pos (by omega), told_d, Option.bind_some, step40 hlt, inc hlt hn, len_d]
    simp only [costL]
    by_cases h : ((rd_T40 l (i : Int)).f2.length : Int) > 0
    · rw [decide_eq_true h, if_pos rfl, if_pos h, Option.bind_some]
      exact ih k (i + 1) _ _ (by omega) (by omega)
    · rw [decide_eq_false h, if_neg (by decide), if_neg h, Option.bind_some]
      exact ih k (i + 1) _ _ (by omega) (by omega)
theorem cost_d (l : List S40) (hn : l.length ≤ 4000000000000) {k : Nat} (hk : l.length < k) : delta_Cost.f k l = some (costL 0 0 l) := by
  have := cost_loop l hn l.length k 0 0 0 (by omega) (by omega)
  rw [List.drop_zero] at this
  exact this
theorem size_d (l : List S40) (hn : l.length ≤ 4000000000000) {k : Nat} (hk : l.length < k) : delta_Size.f k l = some (sizeL 0 l) := by
  unfold delta_Size.f
  rw [cost_d l hn hk, Option.bind_some, cost_size, show wrap64 (0 + 0) = 0 by unfold wrap64; decide]
theorem one_zero {b : Int} {o : S40} (hb : 0 ≤ b ∧ b ≤ 131072) (h : oneF b o = 0) : ((o.f2.length : Int) > 0 ∧ o.f0 = 0 ∧ o.f1 = 0) ∨ (o.f2 = [] ∧ 0 ≤ o.f0 ∧ o.f0 ≤ b ∧ 1 ≤ o.f1 ∧ o.f0 + o.f1 ≤ b) := by
  unfold oneF at h
  by_cases h0 : (o.f2.length : Int) > 0
  · rw [if_pos h0] at h
    by_cases h1 : o.f0 = 0
    · rw [if_pos h1] at h
      by_cases h2 : o.f1 = 0
      · exact .inl ⟨h0, h1, h2⟩
      · rw [if_neg h2] at h; cases h
    · rw [if_neg h1] at h; cases h
  · rw [if_neg h0] at h
    by_cases h1 : o.f0 < 0
    · rw [if_pos h1] at h; cases h
    · rw [if_neg h1] at h
      by_cases h2 : o.f1 < 1
      · rw [if_pos h2] at h; cases h
      · rw [if_neg h2] at h
        by_cases h3 : o.f0 > b
        · rw [if_pos h3] at h; cases h
        · rw [if_neg h3] at h
          by_cases h4 : o.f1 > wrap64 (b - o.f0)
          · rw [if_pos h4] at h; cases h
          · rw [w64 _ (by omega) (by omega)] at h4
            exact .inr ⟨List.eq_nil_of_length_eq_zero (by omega), by omega, by omega, by omega, by omega⟩
theorem one_of_told {b : Int} {o : S40} (h0 : (o.f2.length : Int) > 0) (h1 : o.f0 = 0) (h2 : o.f1 = 0) : oneF b o = 0 := by
  unfold oneF
  rw [if_pos h0, if_pos h1, if_pos h2]
theorem one_of_copy {b : Int} {o : S40} (hb : 0 ≤ b ∧ b ≤ 131072) (h0 : o.f2 = []) (h1 : 0 ≤ o.f0) (h2 : 1 ≤ o.f1) (h3 : o.f0 + o.f1 ≤ b) : oneF b o = 0 := by
  unfold oneF
  rw [if_neg (by rw [h0]; decide), if_neg (by omega), if_neg (by omega), if_neg (by omega), if_neg (by rw [w64 _ (by omega) (by omega)]; omega)]
theorem chk_all {b : Int} : ∀ {l : List S40}, chkL b l = 0 → ∀ o ∈ l, oneF b o = 0
  | [], _, _, h => by cases h
  | x :: l, hc, o, ho => by
    by_cases hx : oneF b x = 0
    · rw [chkL, if_pos hx] at hc
      rcases List.mem_cons.1 ho with rfl | ho
      · exact hx
      · exact chk_all hc o ho
    · rw [chkL, if_neg hx] at hc
      exact absurd hc hx
theorem all_chk {b : Int} : ∀ {l : List S40}, (∀ o ∈ l, oneF b o = 0) → chkL b l = 0
  | [], _ => rfl
  | x :: l, h => by
    rw [chkL, if_pos (h x List.mem_cons_self)]
    exact all_chk (fun o ho => h o (List.mem_cons_of_mem _ ho))
theorem chkF_zero {b : Int} {l : List S40} (h : chkF b l = 0) : (0 ≤ b ∧ b ≤ 131072) ∧ (∀ o ∈ l, oneF b o = 0) ∧ l.length ≤ 8192 ∧ sizeL 0 l ≤ 65536 := by
  unfold chkF at h
  by_cases h0 : b < 0
  · rw [if_pos h0] at h; cases h
  rw [if_neg h0] at h
  by_cases h1 : b > 131072
  · rw [if_pos h1] at h; cases h
  rw [if_neg h1] at h
  unfold resF at h
  by_cases h2 : chkL b l = 0
  · rw [if_pos h2] at h
    unfold endF at h
    by_cases h3 : (l.length : Int) > 8192
    · rw [if_pos h3] at h; cases h
    rw [if_neg h3] at h
    by_cases h4 : sizeL 0 l > 65536
    · rw [if_pos h4] at h; cases h
    exact ⟨by omega, chk_all h2, by omega, by omega⟩
  · rw [if_neg h2] at h
    exact absurd h h2
theorem zero_chkF {b : Int} {l : List S40} (hb : 0 ≤ b ∧ b ≤ 131072) (h1 : ∀ o ∈ l, oneF b o = 0) (h2 : l.length ≤ 8192) (h3 : sizeL 0 l ≤ 65536) : chkF b l = 0 := by
  unfold chkF resF endF
  rw [if_neg (by omega), if_neg (by omega), if_pos (all_chk h1), if_neg (by omega), if_neg (by omega)]
/-- What an op makes of a basis. -/
def mkF (base : List Int) (o : S40) : List Int := if (o.f2.length : Int) > 0 then o.f2 else (base.take (wrap64 (o.f0 + o.f1)).toNat).drop o.f0.toNat
def mkL (base : List Int) : List S40 → List Int
  | [] => []
  | o :: l => mkF base o ++ mkL base l
theorem mkL_append (base : List Int) : ∀ (l m : List S40), mkL base (l ++ m) = mkL base l ++ mkL base m
  | [], _ => rfl
  | o :: l, m => by
    show mkF base o ++ mkL base (l ++ m) = (mkF base o ++ mkL base l) ++ mkL base m
    rw [mkL_append, List.append_assoc]
theorem apply_loop (base : List Int) (hb : base.length ≤ 131072) (l : List S40) (hn : l.length ≤ 10000) (hd : ∀ o ∈ l, o.f2.length ≤ 131072) (hc : ∀ o ∈ l, oneF (base.length : Int) o = 0) : ∀ (d k i : Nat) (out : List Int), i + d = l.length → d < k → out.length ≤ i * 131072 → delta_Apply.l0 k base out l (l.length : Int) (i : Int) = some (out ++ mkL base (l.drop i), 0) := by
  intro d
  induction d with
  | zero =>
    intro k i out hi hk ho
    obtain ⟨k, rfl⟩ : ∃ m, k = m + 1 := ⟨k - 1, by omega⟩
    simp only [delta_Apply.l0]
    rw [if_neg (by omega), end40 hi]
    simp only [mkL, List.append_nil]
  | succ d ih =>
    intro k i out hi hk ho
    obtain ⟨k, rfl⟩ : ∃ m, k = m + 1 := ⟨k - 1, by omega⟩
    have hlt : i < l.length := by omega
    have hm : rd_T40 l (i : Int) ∈ l := by rw [rd40 hlt]; exact List.getElem_mem hlt
    have h1 := hd _ hm
    have h2 := one_zero (b := (base.length : Int)) (by omega) (hc _ hm)
    simp only [delta_Apply.l0]
    rw [if_pos (by omega), if_pos (by omega), if_pos (by omega), told_d, Option.bind_some, step40 hlt, inc hlt (by omega)]
    simp only [mkL]
    generalize rd_T40 l (i : Int) = o at *
    rcases h2 with ⟨ht, _, _⟩ | ⟨he, h3, h4, h5, h6⟩
    · rw [decide_eq_true ht, if_pos rfl, if_pos (by omega), ih k (i + 1) _ (by omega) (by omega) (by rw [List.length_append]; omega), List.append_assoc, show mkF base o = o.f2 by unfold mkF; rw [if_pos ht]]
    · have hw : wrap64 (o.f0 + o.f1) = o.f0 + o.f1 := w64 _ (by omega) (by omega)
      have hl : ((base.take (wrap64 (o.f0 + o.f1)).toNat).drop o.f0.toNat).length ≤ 131072 := by
        rw [List.length_drop, List.length_take]
        omega
      rw [decide_eq_false (by rw [he]; decide), if_neg (by decide), if_pos h3, if_pos (by rw [hw]; omega), if_pos (by rw [hw]; omega), if_pos (by omega), ih k (i + 1) _ (by omega) (by omega) (by rw [List.length_append]; omega), List.append_assoc, show mkF base o = (base.take (wrap64 (o.f0 + o.f1)).toNat).drop o.f0.toNat by unfold mkF; rw [if_neg (by rw [he]; decide)]]
/-- What ops make, or why nothing. -/
def applyF (base : List Int) (l : List S40) : List Int × Int := if chkF (base.length : Int) l = 0 then (mkL base l, 0) else ([], chkF (base.length : Int) l)
theorem apply_d (base : List Int) (l : List S40) (hn : l.length ≤ 10000) (hd : ∀ o ∈ l, o.f2.length ≤ 131072) {k : Nat} (hk : l.length + 2 < k) : delta_Apply.f k base l = some (applyF base l) := by
  unfold delta_Apply.f applyF
  rw [check_d _ l (by omega) hk, Option.bind_some]
  by_cases h : chkF (base.length : Int) l = 0
  · rw [if_pos h, if_pos h]
    obtain ⟨h1, h2, _, _⟩ := chkF_zero h
    have := apply_loop base (by omega) l hn hd h2 l.length k 0 [] (by omega) (by omega) (by simp)
    rw [List.drop_zero, List.nil_append] at this
    exact this
  · rw [if_neg h, if_neg h]
theorem told_pos {o : S40} (h : o.f2 ≠ []) : (o.f2.length : Int) > 0 := by
  have := List.length_pos_iff.2 h
  omega
theorem nil_pos {o : S40} (h : o.f2 = []) : ¬ (o.f2.length : Int) > 0 := by rw [h]; decide
theorem ln_copy {o : S40} (h : o.f2 = []) (h1 : 0 ≤ o.f1) : ln o = o.f1 := by
  unfold ln
  rw [if_neg (nil_pos h)]
  unfold mx
  split <;> omega
theorem mk_told {base : List Int} {o : S40} (h : (o.f2.length : Int) > 0) : mkF base o = o.f2 := by unfold mkF; rw [if_pos h]
theorem mk_copy {base : List Int} {o : S40} (h : o.f2 = []) : mkF base o = (base.take (wrap64 (o.f0 + o.f1)).toNat).drop o.f0.toNat := by unfold mkF; rw [if_neg (by rw [h]; decide)]
/-- What of an op lies in a stretch of what it makes. -/
def pieceF (o : S40) (lo hi : Int) : List S40 := if lo < hi then (if (o.f2.length : Int) > 0 then [⟨0, 0, (o.f2.take hi.toNat).drop lo.toNat⟩] else [⟨wrap64 (o.f0 + lo), wrap64 (hi - lo), []⟩]) else []
def partL (a b : Int) : List S40 → Int → List S40 → List S40
  | out, _, [] => out
  | out, at_, o :: l => partL a b (out ++ pieceF o (mx (wrap64 (a - at_)) 0) (mn (wrap64 (b - at_)) (ln o))) (wrap64 (at_ + ln o)) l
theorem piece_len (o : S40) (lo hi : Int) : (pieceF o lo hi).length ≤ 1 := by
  unfold pieceF
  (repeat' split) <;> simp
theorem mn_le (x y : Int) : mn x y ≤ y := by unfold mn; split <;> omega
theorem clone_of {l : List Int} (h : l.length ≤ 400) : bytes_Clone.f l = some l := by unfold bytes_Clone.f; rw [if_pos (by omega)]
theorem cut_len (l : List Int) (n m : Nat) : ((l.take n).drop m).length ≤ l.length := by
  rw [List.length_drop, List.length_take]
  omega
theorem ln_told {o : S40} (h : (o.f2.length : Int) > 0) : ln o = (o.f2.length : Int) := by unfold ln; rw [if_pos h]
theorem part_loop (a b : Int) (l : List S40) (hs : sml l) : ∀ (d k i : Nat) (out : List S40) (at_ : Int), i + d = l.length → d + 1 < k → out.length ≤ i → delta_Part.l0 k a b out at_ l (l.length : Int) (i : Int) = some (partL a b out at_ (l.drop i), 0) := by
  intro d
  have hn : l.length ≤ 4000000000000 := by have := hs.2; omega
  induction d with
  | zero =>
    intro k i out at_ hi hk ho
    obtain ⟨k, rfl⟩ : ∃ m, k = m + 1 := ⟨k - 1, by omega⟩
    simp only [delta_Part.l0]
    rw [if_neg (by omega), end40 hi]
    rfl
  | succ d ih =>
    intro k i out at_ hi hk ho
    obtain ⟨k, rfl⟩ : ∃ m, k = m + 1 := ⟨k - 1, by omega⟩
    have hlt : i < l.length := by omega
    have hd : (rd_T40 l (i : Int)).f2.length ≤ 400 := by rw [rd40 hlt]; exact hs.1 _ (List.getElem_mem hlt)
    have h60 := hs.2
    simp only [delta_Part.l0]
    rw [if_pos (by omega), if_pos (by omega), if_pos (by omega), len_d, Option.bind_some, step40 hlt, inc hlt hn]
    simp only [partL]
    obtain ⟨o, ho'⟩ : ∃ o, o = rd_T40 l (i : Int) := ⟨_, rfl⟩
    rw [← ho'] at hd ⊢
    have hlo := (mx0 (wrap64 (a - at_))).1
    have hhi := mn_le (wrap64 (b - at_)) (ln o)
    generalize mx (wrap64 (a - at_)) 0 = lo at *
    generalize mn (wrap64 (b - at_)) (ln o) = hi' at *
    by_cases h : lo ≥ hi'
    · rw [if_pos h, show pieceF o lo hi' = [] by unfold pieceF; rw [if_neg (by omega)], List.append_nil]
      exact ih k (i + 1) _ _ (by omega) (by omega) (by omega)
    · rw [if_neg h, told_d, Option.bind_some]
      by_cases ht : (o.f2.length : Int) > 0
      · rw [decide_eq_true ht, if_pos rfl, if_pos hlo, if_pos (by omega), if_pos (by rw [ln_told ht] at hhi; exact hhi), clone_of (Nat.le_trans (cut_len _ _ _) hd), Option.bind_some, if_pos (by omega), show pieceF o lo hi' = [⟨0, 0, (o.f2.take hi'.toNat).drop lo.toNat⟩] by unfold pieceF; rw [if_pos (by omega), if_pos ht]]
        exact ih k (i + 1) _ _ (by omega) (by omega) (by simp; omega)
      · rw [decide_eq_false ht, if_neg (by decide), if_pos (by omega), show pieceF o lo hi' = [⟨wrap64 (o.f0 + lo), wrap64 (hi' - lo), []⟩] by unfold pieceF; rw [if_pos (by omega), if_neg ht]]
        exact ih k (i + 1) _ _ (by omega) (by omega) (by simp; omega)
/-- The ops of a stretch, or why there are none. -/
def partF (l : List S40) (a b : Int) : List S40 × Int := if chkF 131072 l = 0 then (if a < 0 then ([], 3) else if a > b then ([], 3) else if b > sizeL 0 l then ([], 3) else (partL a b [] 0 l, 0)) else ([], chkF 131072 l)
theorem part_d (l : List S40) (a b : Int) (hs : sml l) {k : Nat} (hk : l.length + 3 < k) : delta_Part.f k l a b = some (partF l a b) := by
  have hn : l.length ≤ 4000000000000 := by have := hs.2; omega
  obtain ⟨k, rfl⟩ : ∃ m, k = m + 1 := ⟨k - 1, by omega⟩
  unfold delta_Part.f partF
  rw [check_d 131072 l hn (by omega), Option.bind_some]
  by_cases hc : chkF 131072 l = 0
  · rw [if_pos hc, if_pos hc]
    simp only [delta_Part.j0]
    by_cases h0 : a < 0
    · rw [if_pos h0, if_pos h0, if_pos trivial]
    · rw [if_neg h0, if_neg h0]
      by_cases h1 : a > b
      · rw [if_pos h1, if_pos h1, if_pos trivial]
      · rw [if_neg h1, if_neg h1, size_d l hn (by omega), Option.bind_some]
        by_cases h2 : b > sizeL 0 l
        · rw [decide_eq_true h2, if_pos rfl, if_pos h2]
        · rw [decide_eq_false h2, if_neg (by decide), if_neg h2]
          have := part_loop a b l hs l.length k 0 [] 0 (by omega) (by omega) (by simp)
          rw [List.drop_zero] at this
          exact this
  · rw [if_neg hc, if_neg hc]
theorem part_few (a b : Int) : ∀ (l out : List S40) (at_ : Int), (partL a b out at_ l).length ≤ out.length + l.length
  | [], out, _ => Nat.le_refl _
  | o :: l, out, at_ => by
    simp only [partL]
    have h1 := part_few a b l (out ++ pieceF o (mx (wrap64 (a - at_)) 0) (mn (wrap64 (b - at_)) (ln o))) (wrap64 (at_ + ln o))
    have h2 := piece_len o (mx (wrap64 (a - at_)) 0) (mn (wrap64 (b - at_)) (ln o))
    rw [List.length_append] at h1
    rw [List.length_cons]
    omega
theorem wf16 {n : Int} (h : (Lit.int .u16 n).wf = true) : 0 ≤ n ∧ n < 65536 := by
  have e0 : IntKind.u16.min = 0 := by decide
  have e1 : IntKind.u16.max = 65535 := by decide
  simp [Lit.wf, e0, e1] at h
  omega
/-- A stretch of a text. -/
def seg (u v : Int) (X : List Int) : List Int := (X.take v.toNat).drop u.toNat
theorem seg_append (u v : Int) (X Y : List Int) : seg u v (X ++ Y) = seg u v X ++ seg (u - (X.length : Int)) (v - (X.length : Int)) Y := by
  unfold seg
  rw [List.take_append, List.drop_append, List.length_take]
  congr 1
  rw [show v.toNat - X.length = (v - (X.length : Int)).toNat by omega]
  by_cases h : v.toNat ≤ X.length
  · rw [show (v - (X.length : Int)).toNat = 0 by omega, List.take_zero, List.drop_nil, List.drop_nil]
  · rw [show u.toNat - min v.toNat X.length = (u - (X.length : Int)).toNat by omega]
theorem seg_nil (u v : Int) : seg u v [] = [] := by unfold seg; rw [List.take_nil, List.drop_nil]
theorem mk_len {base : List Int} (hb : base.length ≤ 131072) {o : S40} (h : oneF (base.length : Int) o = 0) : ((mkF base o).length : Int) = ln o := by
  rcases one_zero (by omega) h with ⟨h0, _, _⟩ | ⟨h0, h1, h2, h3, h4⟩
  · rw [mk_told h0, ln_told h0]
  · rw [mk_copy h0, w64 _ (by omega) (by omega), ln_copy h0 (by omega), List.length_drop, List.length_take]
    omega
theorem size_mk {base : List Int} (hb : base.length ≤ 131072) : ∀ (l : List S40) (n : Int), (∀ o ∈ l, oneF (base.length : Int) o = 0) → 0 ≤ n → n + ((mkL base l).length : Int) ≤ 4611686018427387904 → sizeL n l = n + ((mkL base l).length : Int)
  | [], n, _, _, _ => by simp [sizeL, mkL]
  | o :: l, n, h, h0, h1 => by
    have h2 := mk_len hb (h o List.mem_cons_self)
    simp only [mkL, List.length_append] at h1 ⊢
    have h3 : wrap64 (n + ln o) = n + ln o := w64 _ (by omega) (by omega)
    rw [sizeL, h3, size_mk hb l (n + ln o) (fun x hx => h x (List.mem_cons_of_mem _ hx)) (by omega) (by omega)]
    omega
theorem seg_empty {u v : Int} {X : List Int} (h : mn v (X.length : Int) ≤ mx u 0) : seg u v X = [] := by
  unfold seg
  refine List.drop_eq_nil_of_le ?_
  rw [List.length_take]
  unfold mn mx at h
  split at h <;> split at h <;> omega
theorem seg_clip {u v : Int} {X : List Int} : seg u v X = seg (mx u 0) (mn v (X.length : Int)) X := by
  unfold seg
  rw [show (mx u 0).toNat = u.toNat by unfold mx; split <;> omega]
  congr 1
  by_cases h : (X.length : Int) < v
  · rw [show mn v (X.length : Int) = (X.length : Int) by unfold mn; rw [if_pos h], Int.toNat_natCast, List.take_of_length_le (Nat.le_refl _), List.take_of_length_le (by omega)]
  · rw [show mn v (X.length : Int) = v by unfold mn; rw [if_neg h]]
/-- A piece of an op is right, and makes that stretch. -/
theorem piece_mk {base : List Int} (hb : base.length ≤ 131072) {o : S40} (h : oneF (base.length : Int) o = 0) (hd : o.f2.length ≤ 400) (u v : Int) : (∀ x ∈ pieceF o (mx u 0) (mn v (ln o)), oneF (base.length : Int) x = 0 ∧ x.f2.length ≤ 400) ∧ mkL base (pieceF o (mx u 0) (mn v (ln o))) = seg u v (mkF base o) := by
  have hl := mk_len hb h
  have hu := (mx0 u).1
  have hv := mn_le v (ln o)
  unfold pieceF
  by_cases hlt : mx u 0 < mn v (ln o)
  · rw [if_pos hlt]
    rw [seg_clip (u := u) (v := v), hl]
    generalize mx u 0 = lo at *
    generalize mn v (ln o) = hi at *
    rcases one_zero (by omega) h with ⟨h0, h1, h2⟩ | ⟨h0, h1, h2, h3, h4⟩
    · rw [if_pos h0]
      rw [ln_told h0] at hv
      have hlen : ((o.f2.take hi.toNat).drop lo.toNat).length = hi.toNat - lo.toNat := by
        rw [List.length_drop, List.length_take]
        omega
      have ht : (((⟨0, 0, (o.f2.take hi.toNat).drop lo.toNat⟩ : S40).f2.length : Nat) : Int) > 0 := by
        show ((((o.f2.take hi.toNat).drop lo.toNat).length : Nat) : Int) > 0
        omega
      refine ⟨fun x hx => ?_, ?_⟩
      · rw [List.mem_singleton.1 hx]
        exact ⟨one_of_told ht rfl rfl, by show ((o.f2.take hi.toNat).drop lo.toNat).length ≤ 400; omega⟩
      · simp only [mkL, List.append_nil]
        rw [mk_told ht, mk_told h0]
        rfl
    · rw [if_neg (by rw [h0]; decide)]
      rw [ln_copy h0 (by omega)] at hv
      have e1 : wrap64 (o.f0 + lo) = o.f0 + lo := w64 _ (by omega) (by omega)
      have e2 : wrap64 (hi - lo) = hi - lo := w64 _ (by omega) (by omega)
      rw [e1, e2]
      refine ⟨fun x hx => ?_, ?_⟩
      · rw [List.mem_singleton.1 hx]
        exact ⟨one_of_copy (by omega) rfl (by show 0 ≤ o.f0 + lo; omega) (by show 1 ≤ hi - lo; omega) (by show o.f0 + lo + (hi - lo) ≤ _; omega), by show ([] : List Int).length ≤ 400; simp⟩
      · simp only [mkL, List.append_nil]
        rw [mk_copy (o := ⟨o.f0 + lo, hi - lo, []⟩) rfl, mk_copy h0]
        show (base.take (wrap64 (o.f0 + lo + (hi - lo))).toNat).drop (o.f0 + lo).toNat = seg lo hi ((base.take (wrap64 (o.f0 + o.f1)).toNat).drop o.f0.toNat)
        rw [w64 (o.f0 + lo + (hi - lo)) (by omega) (by omega), w64 (o.f0 + o.f1) (by omega) (by omega)]
        unfold seg
        rw [List.take_drop, List.take_take, List.drop_drop, show min (o.f0.toNat + hi.toNat) (o.f0 + o.f1).toNat = (o.f0 + lo + (hi - lo)).toNat by omega, show o.f0.toNat + lo.toNat = (o.f0 + lo).toNat by omega]
  · rw [if_neg hlt]
    refine ⟨fun x hx => (by cases hx), ?_⟩
    rw [seg_empty (by rw [hl]; omega)]
    rfl
theorem part_mk {base : List Int} (hb : base.length ≤ 131072) (a b : Int) (ha : -1000000 ≤ a ∧ a ≤ 1000000) (hb2 : -1000000 ≤ b ∧ b ≤ 1000000) : ∀ (l out : List S40) (at_ : Int), 0 ≤ at_ → at_ + ((mkL base l).length : Int) ≤ 1000000 → (∀ o ∈ l, oneF (base.length : Int) o = 0 ∧ o.f2.length ≤ 400) → (∀ o ∈ out, oneF (base.length : Int) o = 0 ∧ o.f2.length ≤ 400) →
    (∀ o ∈ partL a b out at_ l, oneF (base.length : Int) o = 0 ∧ o.f2.length ≤ 400) ∧ mkL base (partL a b out at_ l) = mkL base out ++ seg (a - at_) (b - at_) (mkL base l)
  | [], out, at_, _, _, _, ho => by
    simp only [partL, mkL, seg_nil, List.append_nil]
    exact ⟨ho, trivial⟩
  | o :: l, out, at_, h0, h1, hl, ho => by
    obtain ⟨h2, h3⟩ := hl o List.mem_cons_self
    have h4 := mk_len hb h2
    simp only [mkL, List.length_append] at h1
    have e1 : wrap64 (a - at_) = a - at_ := w64 _ (by omega) (by omega)
    have e2 : wrap64 (b - at_) = b - at_ := w64 _ (by omega) (by omega)
    have e3 : wrap64 (at_ + ln o) = at_ + ln o := w64 _ (by omega) (by omega)
    obtain ⟨h5, h6⟩ := piece_mk hb h2 h3 (a - at_) (b - at_)
    simp only [partL, mkL]
    rw [e1, e2, e3]
    obtain ⟨h7, h8⟩ := part_mk hb a b ha hb2 l (out ++ pieceF o (mx (a - at_) 0) (mn (b - at_) (ln o))) (at_ + ln o) (by omega) (by omega) (fun x hx => hl x (List.mem_cons_of_mem _ hx)) (fun x hx => (List.mem_append.1 hx).elim (ho x) (h5 x))
    refine ⟨h7, ?_⟩
    rw [h8, mkL_append, h6, seg_append, List.append_assoc, h4, show a - at_ - ln o = a - (at_ + ln o) by omega, show b - at_ - ln o = b - (at_ + ln o) by omega]
theorem chk_wide {b : Int} {l : List S40} (h : chkF b l = 0) : chkF 131072 l = 0 := by
  obtain ⟨h1, h2, h3, h4⟩ := chkF_zero h
  refine zero_chkF (by omega) (fun o ho => ?_) h3 h4
  rcases one_zero h1 (h2 o ho) with ⟨h5, h6, h7⟩ | ⟨h5, h6, h7, h8, h9⟩
  · exact one_of_told h5 h6 h7
  · exact one_of_copy (by omega) h5 h6 h8 (by omega)
theorem seg_len (u v : Int) (X : List Int) : (seg u v X).length ≤ X.length := by
  unfold seg
  rw [List.length_drop, List.length_take]
  omega
/-- The ops of a stretch make it. -/
theorem part_of {base : List Int} {l : List S40} (hs : sml l) (h : chkF (base.length : Int) l = 0) {a b : Int} (ha : 0 ≤ a) (hab : a ≤ b) (hb : b ≤ ((mkL base l).length : Int)) :
    ∃ p, partF l a b = (p, 0) ∧ p.length ≤ 60 ∧ (∀ o ∈ p, oneF (base.length : Int) o = 0 ∧ o.f2.length ≤ 400) ∧ mkL base p = seg a b (mkL base l) ∧ (mkL base l).length ≤ 65536 := by
  obtain ⟨h1, h2, h3, h4⟩ := chkF_zero h
  have hbl : base.length ≤ 131072 := by omega
  have hcap : ∀ m : List S40, (∀ o ∈ m, oneF (base.length : Int) o = 0 ∧ o.f2.length ≤ 400) → (mkL base m).length ≤ m.length * 131072 := by
    intro m
    induction m with
    | nil => intro _; simp [mkL]
    | cons o m ih =>
      intro hm
      have q1 := ih (fun x hx => hm x (List.mem_cons_of_mem _ hx))
      obtain ⟨q2, q3⟩ := hm o List.mem_cons_self
      simp only [mkL, List.length_append, List.length_cons]
      rcases one_zero (by omega) q2 with ⟨q4, _⟩ | ⟨q4, _⟩
      · rw [mk_told q4]; omega
      · have : (mkF base o).length ≤ base.length := by
          rw [mk_copy q4, List.length_drop, List.length_take]
          omega
        omega
  have h5 := hcap l (fun o ho => ⟨h2 o ho, hs.1 o ho⟩)
  have h60 := hs.2
  have h6 := size_mk hbl l 0 h2 (by omega) (by omega)
  rw [h6] at h4
  obtain ⟨h7, h8⟩ := part_mk hbl a b (by omega) (by omega) l [] 0 (by omega) (by omega) (fun o ho => ⟨h2 o ho, hs.1 o ho⟩) (fun _ hx => by cases hx)
  have h9 := part_few a b l [] 0
  rw [List.length_nil] at h9
  refine ⟨partL a b [] 0 l, ?_, by omega, h7, ?_, by omega⟩
  · unfold partF
    rw [if_pos (chk_wide h), if_neg (by omega), if_neg (by omega), if_neg (by omega)]
  · rw [h8, Int.sub_zero, Int.sub_zero]
    rfl
/-- Ops that are right and make little are applied. -/
theorem apply_of {base : List Int} (hb : base.length ≤ 131072) {p : List S40} (hn : p.length ≤ 8192) (hp : ∀ o ∈ p, oneF (base.length : Int) o = 0 ∧ o.f2.length ≤ 400) (hl : (mkL base p).length ≤ 65536) {k : Nat} (hk : p.length + 2 < k) : delta_Apply.f k base p = some (mkL base p, 0) := by
  rw [apply_d base p (by omega) (fun o ho => Nat.le_trans (hp o ho).2 (by omega)) hk]
  unfold applyF
  have h1 : ∀ o ∈ p, oneF (base.length : Int) o = 0 := fun o ho => (hp o ho).1
  rw [if_pos (zero_chkF (by omega) h1 hn (by rw [size_mk hb p 0 h1 (by omega) (by omega)]; omega))]
theorem tmod_bd {x y : Int} (hx : 0 ≤ x) (hy : 0 < y) : 0 ≤ Int.tmod x y ∧ Int.tmod x y < y := by
  rw [Int.tmod_eq_emod_of_nonneg hx]
  exact ⟨Int.emod_nonneg _ (by omega), Int.emod_lt_of_pos _ hy⟩

theorem DeltaCuts : remoralaw08_DeltaCuts.Pure := by
  intro base l a0 a1 hb1 hb2 hl h40 ha0 ha1
  have hn := few h40
  have awake : ∀ k, remoralaw08_DeltaCuts.j0 (k + 1) base l true a0 a1 = some true := fun k => by
    rw [remoralaw08_DeltaCuts.j0, if_pos rfl]
    rfl
  refine ⟨3 * l.length + 200, ?_⟩
  obtain ⟨t, h1, h2⟩ := small_of l hn (k := 3 * l.length + 200) (by omega)
  unfold remoralaw08_DeltaCuts.f
  rw [h1, Option.bind_some]
  by_cases ht : t = true
  · have hs := h2 ht
    have h60 := hs.2
    rw [if_pos ht]
    by_cases hbig : (base.length : Int) > 2000
    · rw [decide_eq_true hbig]
      exact awake _
    · rw [decide_eq_false hbig, show 3 * l.length + 200 = (3 * l.length + 199) + 1 by omega, remoralaw08_DeltaCuts.j0, if_neg (by decide), apply_d base l (by omega) (fun o ho => Nat.le_trans (hs.1 o ho) (by omega)) (by omega), Option.bind_some]
      unfold applyF
      by_cases hc : chkF (base.length : Int) l = 0
      · rw [if_pos hc, if_pos rfl]
        obtain ⟨hx, hx2⟩ := wf16 ha0
        obtain ⟨hy, hy2⟩ := wf16 ha1
        obtain ⟨p0, _, _, _, _, hcap⟩ := part_of hs hc (a := 0) (b := 0) (by omega) (by omega) (by omega)
        obtain ⟨X, hX⟩ : ∃ X, X = mkL base l := ⟨_, rfl⟩
        rw [← hX] at hcap
        rw [w64 a0 (by omega) (by omega), w64 a1 (by omega) (by omega), ← hX]
        have e1 : wrap64 ((X.length : Int) + 1) = (X.length : Int) + 1 := w64 _ (by omega) (by omega)
        rw [e1, if_neg (by omega)]
        obtain ⟨f0, f1⟩ := tmod_bd (x := a0) (y := (X.length : Int) + 1) hx (by omega)
        generalize Int.tmod a0 ((X.length : Int) + 1) = u at *
        have e2 : wrap64 ((X.length : Int) - u) = (X.length : Int) - u := w64 _ (by omega) (by omega)
        have e3 : wrap64 ((X.length : Int) - u + 1) = (X.length : Int) - u + 1 := w64 _ (by omega) (by omega)
        rw [e2, e3, if_neg (by omega)]
        obtain ⟨g0, g1⟩ := tmod_bd (x := a1) (y := (X.length : Int) - u + 1) hy (by omega)
        generalize Int.tmod a1 ((X.length : Int) - u + 1) = d at *
        have e4 : wrap64 (u + d) = u + d := w64 _ (by omega) (by omega)
        rw [e4]
        obtain ⟨p, p1, p2, p3, p4, _⟩ := part_of hs hc (a := u) (b := u + d) (by omega) (by omega) (by rw [← hX]; omega)
        obtain ⟨q, q1, q2, q3, q4, _⟩ := part_of hs hc (a := 0) (b := u) (by omega) (by omega) (by rw [← hX]; omega)
        obtain ⟨r, r1, r2, r3, r4, _⟩ := part_of hs hc (a := u) (b := (X.length : Int)) (by omega) (by omega) (by rw [← hX]; omega)
        rw [← hX] at p4 q4 r4
        have hqr : mkL base (q ++ r) = X := by
          rw [mkL_append, q4, r4]
          unfold seg
          rw [Int.toNat_natCast, List.take_of_length_le (Nat.le_refl _), show (0 : Int).toNat = 0 from rfl, List.drop_zero, List.take_append_drop]
        have hp5 : (mkL base p).length ≤ 65536 := by rw [p4]; exact Nat.le_trans (seg_len _ _ _) hcap
        rw [part_d l u (u + d) hs (by omega), Option.bind_some, p1, apply_of (by omega) (by omega) p3 hp5 (by omega), Option.bind_some, part_d l 0 u hs (by omega), Option.bind_some, q1, part_d l u (X.length : Int) hs (by omega), Option.bind_some, r1, Option.bind_some, Option.bind_some]
        dsimp only
        rw [if_pos (by rw [List.length_nil]; omega), List.nil_append, if_pos (by omega), apply_of (p := q ++ r) (by omega) (by rw [List.length_append]; omega) (fun o ho => (List.mem_append.1 ho).elim (q3 o) (r3 o)) (by rw [hqr]; exact hcap) (by rw [List.length_append]; omega), Option.bind_some, if_pos rfl, if_pos rfl, if_pos f0, if_pos (by omega), if_pos (by omega), if_pos (by rw [p4]; rfl), if_pos rfl, if_pos rfl, if_pos rfl, if_pos (by rw [hqr])]
        rfl
      · rw [if_neg hc, if_neg hc]
        rfl
  · rw [if_neg ht]
    exact awake _

end Go.Proofs.Ytifmajnhcbicnaa.Pure
