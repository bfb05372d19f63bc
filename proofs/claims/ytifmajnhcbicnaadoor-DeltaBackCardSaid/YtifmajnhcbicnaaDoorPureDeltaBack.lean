/- What ops are as bytes is read as these ops, and bytes of which one was changed are not read, for at most 60 ops of at most 400 bytes. Conditions: none. -/
import Derived.Test.YtifmajnhcbicnaaDoorPDeltaBackx5
namespace Go.Proofs.YtifmajnhcbicnaaDoor.Pure
open Go.RowKit Go.Proofs.YtifmajnhcbicnaaDoor.PDeltaBack Go.Proofs.YtifmajnhcbicnaaDoorW.PrintWords Go.Proofs.YtifmajnhcbicnaaDoorW.PrintLast Go.Proofs.YtifmajnhcbicnaaDoorW.PrintMore
set_option maxRecDepth 100000
set_option linter.unusedVariables false
theorem w64 (n : Int) (h0 : -9223372036854775808 ≤ n) (h1 : n ≤ 9223372036854775807) : wrap64 n = n := by unfold wrap64; omega
theorem wq (n : Int) : ∃ q : Int, wrap64 n = n + q * 18446744073709551616 ∧ -9223372036854775808 ≤ wrap64 n ∧ wrap64 n ≤ 9223372036854775807 := by
  refine ⟨-((n + 9223372036854775808) / 18446744073709551616), ?_, ?_, ?_⟩ <;> unfold wrap64 <;> omega
theorem wrap_comm (a b c : Int) : wrap64 (wrap64 (a + c) + b) = wrap64 (wrap64 (a + b) + c) := by
  obtain ⟨q1, e1, _, _⟩ := wq (a + c)
  obtain ⟨q2, e2, l2, u2⟩ := wq (wrap64 (a + c) + b)
  obtain ⟨q3, e3, _, _⟩ := wq (a + b)
  obtain ⟨q4, e4, l4, u4⟩ := wq (wrap64 (a + b) + c)
  generalize wrap64 (wrap64 (a + c) + b) = x2 at *
  generalize wrap64 (wrap64 (a + b) + c) = x4 at *
  generalize wrap64 (a + c) = x1 at *
  generalize wrap64 (a + b) = x3 at *
  omega
theorem wrap_add (a b c : Int) : wrap64 (a + wrap64 (b + c)) = wrap64 (wrap64 (a + b) + c) := by
  obtain ⟨q1, e1, _, _⟩ := wq (b + c)
  obtain ⟨q2, e2, l2, u2⟩ := wq (a + wrap64 (b + c))
  obtain ⟨q3, e3, _, _⟩ := wq (a + b)
  obtain ⟨q4, e4, l4, u4⟩ := wq (wrap64 (a + b) + c)
  generalize wrap64 (a + wrap64 (b + c)) = x2 at *
  generalize wrap64 (wrap64 (a + b) + c) = x4 at *
  generalize wrap64 (b + c) = x1 at *
  generalize wrap64 (a + b) = x3 at *
  omega
theorem rd40 {l : List S38} {i : Nat} (h : i < l.length) : rd_T38 l (i : Int) = l[i] := by
  unfold rd_T38
  rw [Int.toNat_natCast, List.getD_eq_getElem?_getD, List.getElem?_eq_getElem h, Option.getD_some]
theorem step40 {l : List S38} {i : Nat} (h : i < l.length) : l.drop i = rd_T38 l (i : Int) :: l.drop (i + 1) := by
  rw [rd40 h]
  exact List.drop_eq_getElem_cons h
theorem end40 {l : List S38} {i : Nat} (h : i + 0 = l.length) : l.drop i = [] := List.drop_eq_nil_of_le (by omega)
theorem inc {i n : Nat} (h : i < n) (hn : n ≤ 4000000000000) : wrap64 ((i : Int) + 1) = ((i + 1 : Nat) : Int) := by unfold wrap64; omega
/-- How many bytes an op makes. -/
def ln (o : S38) : Int := if (o.f2.length : Int) > 0 then (o.f2.length : Int) else mx o.f1 0
theorem mx0 (x : Int) : 0 ≤ mx x 0 ∧ x ≤ mx x 0 ∧ (mx x 0 = x ∨ mx x 0 = 0) := by unfold mx; split <;> omega
theorem ln_nonneg (o : S38) : 0 ≤ ln o := by
  unfold ln
  split
  · omega
  · exact (mx0 _).1
theorem told_d (o : S38) : delta_told.f o.f0 o.f1 o.f2 = some (decide ((o.f2.length : Int) > 0)) := rfl
theorem len_d (o : S38) : delta_length.f o.f0 o.f1 o.f2 = some (ln o) := by
  unfold delta_length.f delta_told.f ln
  by_cases h : (o.f2.length : Int) > 0
  · rw [Option.bind_some, decide_eq_true h, if_pos rfl, if_pos h]
  · rw [Option.bind_some, decide_eq_false h, if_neg (by decide), if_neg h]
/-- What is wrong with an op over a basis. -/
def oneF (b : Int) (o : S38) : Int := if (o.f2.length : Int) > 0 then (if o.f0 = 0 then (if o.f1 = 0 then 0 else 2) else 2) else if o.f0 < 0 then 2 else if o.f1 < 1 then 2 else if o.f0 > b then 3 else if o.f1 > wrap64 (b - o.f0) then 3 else 0
theorem one_d {k : Nat} (hk : 0 < k) (o : S38) (b : Int) : delta_one.f k o.f0 o.f1 o.f2 b = some (oneF b o) := by
  obtain ⟨k, rfl⟩ : ∃ m, k = m + 1 := ⟨k - 1, by omega⟩
  unfold delta_one.f oneF
  rw [told_d, Option.bind_some]
  by_cases h : (o.f2.length : Int) > 0
  · rw [decide_eq_true h, if_pos rfl, if_pos h]
    (repeat' split) <;> rfl
  · rw [decide_eq_false h, if_neg (by decide), if_neg h]
    by_cases h0 : o.f0 < 0
    · rw [if_pos h0, if_pos h0]
      simp only [delta_one.j0]
      rw [if_pos trivial]
    · rw [if_neg h0, if_neg h0]
      simp only [delta_one.j0]
      by_cases h1 : o.f1 < 1
      · rw [decide_eq_true h1, if_pos rfl, if_pos h1]
      · rw [decide_eq_false h1, if_neg (by decide), if_neg h1]
        (repeat' split) <;> rfl
/-- The first that is wrong with ops over a basis. -/
def chkL (b : Int) : List S38 → Int
  | [] => 0
  | o :: l => if oneF b o = 0 then chkL b l else oneF b o
/-- How many bytes ops make, behind n, as the machine counts. -/
def sizeL : Int → List S38 → Int
  | n, [] => n
  | n, o :: l => sizeL (wrap64 (n + ln o)) l
def endF (len : Int) (n : Int) : Int := if len > 8192 then 7 else if n > 65536 then 7 else 0
def resF (b len n : Int) (l : List S38) : Int := if chkL b l = 0 then endF len n else chkL b l
theorem res_yes {b len n : Int} {o : S38} {l : List S38} (h : oneF b o = 0) : resF b len n (o :: l) = resF b len n l := by
  have e : chkL b (o :: l) = chkL b l := by rw [chkL, if_pos h]
  unfold resF
  rw [e]
theorem res_no {b len n : Int} {o : S38} {l : List S38} (h : ¬ oneF b o = 0) : resF b len n (o :: l) = oneF b o := by
  have e : chkL b (o :: l) = oneF b o := by rw [chkL, if_neg h]
  unfold resF
  rw [e, if_neg h]
theorem end_if (len n : Int) : (if len > 8192 then some 7 else if n > 65536 then some 7 else some 0 : Option Int) = some (endF len n) := by
  unfold endF
  by_cases h : len > 8192
  · rw [if_pos h, if_pos h]
  · rw [if_neg h, if_neg h]
    by_cases h : n > 65536
    · rw [if_pos h, if_pos h]
    · rw [if_neg h, if_neg h]
def chkF (b : Int) (l : List S38) : Int := if b < 0 then 2 else if b > 131072 then 2 else resF b (l.length : Int) (sizeL 0 l) l
theorem check_loop (b : Int) (l : List S38) (hn : l.length ≤ 4000000000000) : ∀ (d k i : Nat) (n : Int), i + d = l.length → d + 1 < k → delta_Check.l0 k l b n l (l.length : Int) (i : Int) = some (resF b (l.length : Int) (sizeL n (l.drop i)) (l.drop i)) := by
  intro d
  induction d with
  | zero =>
    intro k i n hi hk
    obtain ⟨k, rfl⟩ : ∃ m, k = m + 1 := ⟨k - 1, by omega⟩
    simp only [delta_Check.l0]
    rw [if_neg (by omega), end40 hi, end_if]
    rfl
  | succ d ih =>
    intro k i n hi hk
    obtain ⟨k, rfl⟩ : ∃ m, k = m + 1 := ⟨k - 1, by omega⟩
    have hlt : i < l.length := by omega
    simp only [delta_Check.l0]
    rw [if_pos (by omega), if_pos (by omega), if_pos (by omega), one_d (by omega), Option.bind_some, step40 hlt, inc hlt hn, len_d]
    by_cases h : oneF b (rd_T38 l (i : Int)) = 0
    · rw [if_pos h, Option.bind_some, res_yes h]
      exact ih k (i + 1) _ (by omega) (by omega)
    · rw [if_neg h, res_no h]
theorem check_d (b : Int) (l : List S38) (hn : l.length ≤ 4000000000000) {k : Nat} (hk : l.length + 2 < k) : delta_Check.f k l b = some (chkF b l) := by
  obtain ⟨k, rfl⟩ : ∃ m, k = m + 1 := ⟨k - 1, by omega⟩
  unfold delta_Check.f chkF
  by_cases h0 : b < 0
  · rw [if_pos h0, if_pos h0]
    simp only [delta_Check.j0]
    rw [if_pos trivial]
  · rw [if_neg h0, if_neg h0]
    simp only [delta_Check.j0]
    by_cases h1 : b > 131072
    · rw [decide_eq_true h1, if_pos rfl, if_pos h1]
    · rw [decide_eq_false h1, if_neg (by decide), if_neg h1]
      have := check_loop b l hn l.length k 0 0 (by omega) (by omega)
      rw [List.drop_zero] at this
      exact this
/-- Few ops, of few bytes. -/
def sml (l : List S38) : Prop := (∀ o ∈ l, o.f2.length ≤ 400) ∧ l.length ≤ 60
theorem small_loop (l : List S38) (hn : l.length ≤ 4000000000000) : ∀ (d k i : Nat), i + d = l.length → d < k → ∃ t, remoraref08_Small.l0 k l (i : Int) = some t ∧ (t = true → (∀ o ∈ l.drop i, o.f2.length ≤ 400) ∧ l.length ≤ 60) ∧ ((∀ o ∈ l.drop i, o.f2.length ≤ 400) ∧ l.length ≤ 60 → t = true) := by
  intro d
  induction d with
  | zero =>
    intro k i hi hk
    obtain ⟨k, rfl⟩ : ∃ m, k = m + 1 := ⟨k - 1, by omega⟩
    simp only [remoraref08_Small.l0]
    rw [if_neg (by omega), end40 hi]
    exact ⟨_, rfl, fun h => ⟨fun o ho => (by cases ho), by have := of_decide_eq_true h; omega⟩, fun h => decide_eq_true (by omega)⟩
  | succ d ih =>
    intro k i hi hk
    obtain ⟨k, rfl⟩ : ∃ m, k = m + 1 := ⟨k - 1, by omega⟩
    have hlt : i < l.length := by omega
    simp only [remoraref08_Small.l0]
    rw [if_pos (by omega), if_pos (by omega), step40 hlt, inc hlt hn]
    by_cases h : ((rd_T38 l (i : Int)).f2.length : Int) > 400
    · rw [if_pos h]
      refine ⟨_, rfl, fun h => (by cases h), fun h2 => ?_⟩
      have := h2.1 _ List.mem_cons_self
      omega
    · rw [if_neg h]
      obtain ⟨t, h1, h2, h3⟩ := ih k (i + 1) (by omega) (by omega)
      refine ⟨t, h1, fun ht => ⟨fun o ho => ?_, (h2 ht).2⟩, fun h4 => h3 ⟨fun o ho => h4.1 o (List.mem_cons_of_mem _ ho), h4.2⟩⟩
      rcases List.mem_cons.1 ho with rfl | ho
      · omega
      · exact (h2 ht).1 o ho
theorem small_of (l : List S38) (hn : l.length ≤ 4000000000000) {k : Nat} (hk : l.length < k) : ∃ t, remoraref08_Small.f k l = some t ∧ (t = true → sml l) := by
  obtain ⟨t, h1, h2, h3⟩ := small_loop l hn l.length k 0 (by omega) (by omega)
  rw [List.drop_zero] at h2
  exact ⟨t, h1, h2⟩
theorem few {l : List S38} (h : l.length * 40 ≤ 140737488351232) : l.length ≤ 4000000000000 := by omega
theorem one_zero {b : Int} {o : S38} (hb : 0 ≤ b ∧ b ≤ 131072) (h : oneF b o = 0) : ((o.f2.length : Int) > 0 ∧ o.f0 = 0 ∧ o.f1 = 0) ∨ (o.f2 = [] ∧ 0 ≤ o.f0 ∧ o.f0 ≤ b ∧ 1 ≤ o.f1 ∧ o.f0 + o.f1 ≤ b) := by
  unfold oneF at h
  by_cases h0 : (o.f2.length : Int) > 0
  · rw [if_pos h0] at h
    by_cases h1 : o.f0 = 0
    · rw [if_pos h1] at h
      by_cases h2 : o.f1 = 0
      · exact .inl ⟨h0, h1, h2⟩
      · rw [if_neg h2] at h; cases h
    · rw [if_neg h1] at h; cases h
  · rw [if_neg h0] at h
    by_cases h1 : o.f0 < 0
    · rw [if_pos h1] at h; cases h
    · rw [if_neg h1] at h
      by_cases h2 : o.f1 < 1
      · rw [if_pos h2] at h; cases h
      · rw [if_neg h2] at h
        by_cases h3 : o.f0 > b
        · rw [if_pos h3] at h; cases h
        · rw [if_neg h3] at h
          by_cases h4 : o.f1 > wrap64 (b - o.f0)
          · rw [if_pos h4] at h; cases h
          · rw [w64 _ (by omega) (by omega)] at h4
            exact .inr ⟨List.eq_nil_of_length_eq_zero (by omega), by omega, by omega, by omega, by omega⟩
theorem one_of_told {b : Int} {o : S38} (h0 : (o.f2.length : Int) > 0) (h1 : o.f0 = 0) (h2 : o.f1 = 0) : oneF b o = 0 := by
  unfold oneF
  rw [if_pos h0, if_pos h1, if_pos h2]
theorem one_of_copy {b : Int} {o : S38} (hb : 0 ≤ b ∧ b ≤ 131072) (h0 : o.f2 = []) (h1 : 0 ≤ o.f0) (h2 : 1 ≤ o.f1) (h3 : o.f0 + o.f1 ≤ b) : oneF b o = 0 := by
  unfold oneF
  rw [if_neg (by rw [h0]; decide), if_neg (by omega), if_neg (by omega), if_neg (by omega), if_neg (by rw [w64 _ (by omega) (by omega)]; omega)]
theorem chk_all {b : Int} : ∀ {l : List S38}, chkL b l = 0 → ∀ o ∈ l, oneF b o = 0
  | [], _, _, h => by cases h
  | x :: l, hc, o, ho => by
    by_cases hx : oneF b x = 0
    · rw [chkL, if_pos hx] at hc
      rcases List.mem_cons.1 ho with rfl | ho
      · exact hx
      · exact chk_all hc o ho
    · rw [chkL, if_neg hx] at hc
      exact absurd hc hx
theorem all_chk {b : Int} : ∀ {l : List S38}, (∀ o ∈ l, oneF b o = 0) → chkL b l = 0
  | [], _ => rfl
  | x :: l, h => by
    rw [chkL, if_pos (h x List.mem_cons_self)]
    exact all_chk (fun o ho => h o (List.mem_cons_of_mem _ ho))
theorem chkF_zero {b : Int} {l : List S38} (h : chkF b l = 0) : (0 ≤ b ∧ b ≤ 131072) ∧ (∀ o ∈ l, oneF b o = 0) ∧ l.length ≤ 8192 ∧ sizeL 0 l ≤ 65536 := by
  unfold chkF at h
  by_cases h0 : b < 0
  · rw [if_pos h0] at h; cases h
  rw [if_neg h0] at h
  by_cases h1 : b > 131072
  · rw [if_pos h1] at h; cases h
  rw [if_neg h1] at h
  unfold resF at h
  by_cases h2 : chkL b l = 0
  · rw [if_pos h2] at h
    unfold endF at h
    by_cases h3 : (l.length : Int) > 8192
    · rw [if_pos h3] at h; cases h
    rw [if_neg h3] at h
    by_cases h4 : sizeL 0 l > 65536
    · rw [if_pos h4] at h; cases h
    exact ⟨by omega, chk_all h2, by omega, by omega⟩
  · rw [if_neg h2] at h
    exact absurd h h2
theorem dsame_loop (l : List S38) (hn : l.length ≤ 4000000000000) : ∀ (d k i : Nat), i + d = l.length → d < k → delta_Same.l0 k l l (l.length : Int) (i : Int) = some true := by
  intro d
  induction d with
  | zero =>
    intro k i hi hk
    obtain ⟨k, rfl⟩ : ∃ m, k = m + 1 := ⟨k - 1, by omega⟩
    simp only [delta_Same.l0]
    rw [if_neg (by omega)]
  | succ d ih =>
    intro k i hi hk
    obtain ⟨k, rfl⟩ : ∃ m, k = m + 1 := ⟨k - 1, by omega⟩
    have hlt : i < l.length := by omega
    have he : ∀ x : List Int, bytes_Equal.f x x = some true := fun x => by unfold bytes_Equal.f; rw [beq_self_eq_true]
    simp only [delta_Same.l0]
    rw [if_pos (by omega), if_pos (by omega), if_pos (by omega), if_pos (by omega), if_pos trivial, if_pos trivial, he, Option.bind_some, if_pos rfl, inc hlt hn]
    exact ih k (i + 1) (by omega) (by omega)
theorem dsame_of (l : List S38) (hn : l.length ≤ 4000000000000) {k : Nat} (hk : l.length < k) : delta_Same.f k l l = some true := by
  unfold delta_Same.f
  rw [if_pos rfl]
  exact dsame_loop l hn l.length k 0 (by omega) (by omega)
/-- The bytes of a number: seven bits each, the lowest first. -/
def nb (n : Nat) : List Int := if n < 128 then [(n : Int)] else ((128 + n % 128 : Nat) : Int) :: nb (n / 128)
termination_by n
decreasing_by omega
theorem nb_small {n : Nat} (h : n < 128) : nb n = [(n : Int)] := by rw [nb, if_pos h]
theorem nb_more {n : Nat} (h : ¬ n < 128) : nb n = ((128 + n % 128 : Nat) : Int) :: nb (n / 128) := by rw [nb, if_neg h]
theorem nb_pos (n : Nat) : 1 ≤ (nb n).length := by
  by_cases h : n < 128
  · rw [nb_small h]; exact Nat.le_refl _
  · rw [nb_more h]; simp
theorem nb_len (m : Nat) : ∀ n : Nat, n < 128 ^ m → 0 < m → (nb n).length ≤ m := by
  induction m with
  | zero => intro n h h0; omega
  | succ m ih =>
    intro n h _
    by_cases hs : n < 128
    · rw [nb_small hs]; simp
    · rw [nb_more hs, List.length_cons]
      have hm : 0 < m := by
        rcases Nat.eq_zero_or_pos m with rfl | hm
        · simp at h; omega
        · exact hm
      have := ih (n / 128) (by rw [Nat.div_lt_iff_lt_mul (by decide), ← Nat.pow_succ]; exact h) hm
      omega
theorem nb_nine {n : Nat} (h : n ≤ 4611686018427387903) : (nb n).length ≤ 9 := nb_len 9 n (by omega) (by decide)
theorem nb_bytes (n : Nat) : ∀ x ∈ nb n, 0 ≤ x ∧ x ≤ 255 := by
  induction n using Nat.strongRecOn with
  | _ n ih =>
    by_cases h : n < 128
    · rw [nb_small h]; intro x hx; obtain rfl := List.mem_singleton.1 hx; omega
    · rw [nb_more h]
      intro x hx
      rcases List.mem_cons.1 hx with rfl | hx
      · omega
      · exact ih (n / 128) (by omega) x hx
/-- A number within what may be put. -/
def cl (a : Int) : Nat := (mn (mx a 0) 4611686018427387903).toNat
theorem cl_le (a : Int) : cl a ≤ 4611686018427387903 := by unfold cl mn mx; split <;> split <;> omega
theorem cl_eq (a : Int) : mn (mx a 0) 4611686018427387903 = (cl a : Int) := by unfold cl mn mx; split <;> split <;> omega
theorem cl_of {a : Int} (h0 : 0 ≤ a) (h : a ≤ 4611686018427387903) : (cl a : Int) = a := by unfold cl mn mx; split <;> split <;> omega
theorem ev_pos {α : Type} {c : Prop} [Decidable c] (h : c) {f g : Nat → Option α} {r : α} (k : Ev f r) : Ev (fun k => if c then f k else g k) r := Ev.congr (fun _ => if_pos h) k
theorem ev_neg {α : Type} {c : Prop} [Decidable c] (h : ¬ c) {f g : Nat → Option α} {r : α} (k : Ev g r) : Ev (fun k => if c then f k else g k) r := Ev.congr (fun _ => if_neg h) k
theorem ev_some {α : Type} {o : Option α} {r : α} (h : o = some r) : Ev (fun _ => o) r := by subst h; exact Ev.now _
theorem size_loop (d : Nat) : ∀ (n : Nat) (s : Int), (nb n).length ≤ d → n ≤ 4611686018427387903 → 0 ≤ s → s + (d : Int) ≤ 1000 → Ev (fun k => num_Size.l0 k n s) (s + ((nb n).length : Int) - 1) := by
  induction d with
  | zero => intro n s h; have := nb_pos n; omega
  | succ d ih =>
    intro n s h hn h0 h1
    by_cases hs : n < 128
    · refine Ev.step (f := fun _ => some s) (fun k => ?_) ?_
      · simp only [num_Size.l0]; rw [if_neg (by omega)]
      · rw [nb_small hs]
        have e : s + (([(n : Int)] : List Int).length : Int) - 1 = s := by simp
        rw [e]; exact Ev.now _
    · have e1 : wrap64 (s + 1) = s + 1 := by unfold wrap64; omega
      have hl : (nb n).length = (nb (n / 128)).length + 1 := by rw [nb_more hs, List.length_cons]
      refine Ev.step (f := fun k => num_Size.l0 k ((n / 128 : Nat) : Int) (s + 1)) (fun k => ?_) ?_
      · simp only [num_Size.l0]; rw [if_pos (by omega), e1]; rfl
      · have := ih (n / 128) (s + 1) (by omega) (by omega) (by omega) (by omega)
        rw [hl]
        rw [show s + (((nb (n / 128)).length + 1 : Nat) : Int) - 1 = s + 1 + ((nb (n / 128)).length : Int) - 1 by omega]
        exact this
theorem size_of (a : Int) : Ev (fun k => num_Size.f k (mn (mx a 0) 4611686018427387903)) ((nb (cl a)).length : Int) := by
  unfold num_Size.f
  have e : mn (mx (cl a : Int) 0) 4611686018427387903 = (cl a : Int) := by have := cl_le a; unfold mn mx; split <;> split <;> omega
  rw [cl_eq a, e]
  have := size_loop (nb (cl a)).length (cl a) 1 (Nat.le_refl _) (cl_le a) (by decide) (by have := nb_nine (cl_le a); omega)
  rwa [show (1 : Int) + ((nb (cl a)).length : Int) - 1 = ((nb (cl a)).length : Int) by omega] at this
theorem wrap62 (n : Int) (h0 : 0 ≤ n) (h1 : n < 2 ^ 62) : IntKind.i64.wrap n = n := by rw [IntKind.wrap_i64]; omega
theorem low7 {n : Nat} (h : n ≤ 4611686018427387903) : (Go.bits .or .i64 (Go.bits .and .i64 (n : Int) 127) 128) % 256 = ((128 + n % 128 : Nat) : Int) := by
  have h1 : Go.bits .and .i64 (n : Int) 127 = (n : Int) % 128 := bits_mask .i64 62 (by decide) wrap62 7 (by decide) n (by omega) (by omega)
  have e : (n : Int) % 128 = ((n % 128 : Nat) : Int) := by omega
  have h2 := (bits_nat .i64 62 (by decide) wrap62 (n % 128) 128 (by omega) (by decide)).2
  have h3 : n % 128 ||| 128 = 128 + n % 128 := by
    rw [Nat.or_comm]
    have := Nat.two_pow_add_eq_or_of_lt (i := 7) (b := n % 128) (by omega) 1
    rw [Nat.mul_one] at this
    exact this.symm
  rw [h1, e, show (128 : Int) = ((128 : Nat) : Int) from rfl, h2, h3]
  omega
theorem putN_loop (m : Nat) (hm : m ≤ 9) (d : Nat) : ∀ (i n : Nat) (l : List Int), (nb n).length = d + 1 → i + d = m → n ≤ 4611686018427387903 → l.length ≤ 2000000000 + i → Ev (fun k => num_Put.l0 k n l (m : Int) (i : Int)) (l ++ nb n) := by
  induction d with
  | zero =>
    intro i n l hd hi hn hl
    have hs : n < 128 := by
      by_cases hs : n < 128
      · exact hs
      · rw [nb_more hs, List.length_cons] at hd
        have := nb_pos (n / 128)
        omega
    rw [nb_small hs]
    refine Ev.step (f := fun _ => some (l ++ [(n : Int)])) (fun k => ?_) (Ev.now _)
    simp only [num_Put.l0]
    rw [if_neg (by omega), if_pos (by omega), show (n : Int) % 256 = (n : Int) by omega]
  | succ d ih =>
    intro i n l hd hi hn hl
    have hs : ¬ n < 128 := by
      intro hs
      rw [nb_small hs] at hd
      simp at hd
    rw [nb_more hs] at hd ⊢
    have hd' : (nb (n / 128)).length = d + 1 := by rw [List.length_cons] at hd; omega
    have e1 : wrap64 ((i : Int) + 1) = ((i + 1 : Nat) : Int) := by unfold wrap64; omega
    refine Ev.step (f := fun k => num_Put.l0 k ((n / 128 : Nat) : Int) (l ++ [((128 + n % 128 : Nat) : Int)]) (m : Int) ((i + 1 : Nat) : Int)) (fun k => ?_) ?_
    · simp only [num_Put.l0]
      rw [if_pos (by omega), if_pos (by omega), low7 hn, e1]
      rfl
    · have := ih (i + 1) (n / 128) (l ++ [((128 + n % 128 : Nat) : Int)]) hd' (by omega) (by omega) (by rw [List.length_append]; simp; omega)
      rwa [List.append_assoc, List.singleton_append] at this
theorem put_of (l : List Int) (a : Int) (hl : l.length ≤ 2000000000) : Ev (fun k => num_Put.f k l a) (l ++ nb (cl a)) := by
  unfold num_Put.f
  refine Ev.bind (size_of a) ?_
  have h9 := nb_nine (cl_le a)
  have h1 := nb_pos (cl a)
  have e1 : wrap64 ((l.length : Int) + ((nb (cl a)).length : Int)) = (l.length : Int) + ((nb (cl a)).length : Int) := by unfold wrap64; omega
  have e2 : wrap64 (((nb (cl a)).length : Int) - 1) = (((nb (cl a)).length - 1 : Nat) : Int) := by unfold wrap64; omega
  rw [e1]
  refine ev_pos (by omega) (ev_pos (by omega) ?_)
  simp only [Option.bind_some, List.replicate_zero, List.nil_append, List.length_nil, Nat.zero_add]
  refine ev_pos (by omega) (Ev.bind (size_of a) ?_)
  rw [e2, cl_eq]
  exact putN_loop ((nb (cl a)).length - 1) (by omega) ((nb (cl a)).length - 1) 0 (cl a) l (by omega) (by omega) (cl_le a) (by omega)
theorem nw64 (n : Int) (h0 : -9223372036854775808 ≤ n) (h1 : n ≤ 9223372036854775807) : wrap64 n = n := by unfold wrap64; omega
/-- How many bytes ahead go on, at most d. -/
def rl : Nat → List Int → Nat
  | 0, _ => 0
  | _ + 1, [] => 0
  | d + 1, c :: r => if c > 127 then rl d r + 1 else 0
/-- The number of groups of seven bits. -/
def gv : List Int → Nat
  | [] => 0
  | c :: r => (c % 128).toNat + 128 * gv r
theorem gv_lt (l : List Int) : gv l < 128 ^ l.length := by
  induction l with
  | nil => decide
  | cons c r ih =>
    show (c % 128).toNat + 128 * gv r < 128 ^ (r.length + 1)
    rw [Nat.pow_succ]
    omega
theorem gv_snoc (l : List Int) (c : Int) : gv (l ++ [c]) = gv l + 128 ^ l.length * (c % 128).toNat := by
  induction l with
  | nil => simp [gv]
  | cons d r ih =>
    show (d % 128).toNat + 128 * gv (r ++ [c]) = (d % 128).toNat + 128 * gv r + 128 ^ (r.length + 1) * (c % 128).toNat
    rw [ih, Nat.pow_succ, Nat.mul_add, ← Nat.add_assoc, ← Nat.mul_assoc, Nat.mul_comm 128 (128 ^ r.length)]
theorem gv_app (a b : List Int) : gv (a ++ b) = gv a + 128 ^ a.length * gv b := by
  induction a with
  | nil => simp [gv]
  | cons d r ih =>
    show (d % 128).toNat + 128 * gv (r ++ b) = (d % 128).toNat + 128 * gv r + 128 ^ (r.length + 1) * gv b
    rw [ih, Nat.pow_succ, Nat.mul_add, ← Nat.add_assoc, ← Nat.mul_assoc, Nat.mul_comm 128 (128 ^ r.length)]
theorem rl_le (d : Nat) : ∀ r : List Int, rl d r ≤ d ∧ rl d r ≤ r.length := by
  induction d with
  | zero => intro r; exact ⟨Nat.le_refl _, Nat.zero_le _⟩
  | succ d ih =>
    intro r
    cases r with
    | nil => exact ⟨Nat.zero_le _, Nat.le_refl _⟩
    | cons c r =>
      have := ih r
      unfold rl
      split
      · rw [List.length_cons]; omega
      · exact ⟨Nat.zero_le _, Nat.zero_le _⟩
theorem rl_more (d : Nat) : ∀ (r : List Int) (j : Nat), j < rl d r → r.getD j 0 > 127 := by
  induction d with
  | zero => intro r j h; exact absurd h (Nat.not_lt_zero _)
  | succ d ih =>
    intro r j h
    cases r with
    | nil => exact absurd h (Nat.not_lt_zero _)
    | cons c r =>
      unfold rl at h
      by_cases hc : c > 127
      · rw [if_pos hc] at h
        cases j with
        | zero => exact hc
        | succ j => exact ih r j (by omega)
      · rw [if_neg hc] at h
        exact absurd h (Nat.not_lt_zero _)
theorem rl_end (d : Nat) : ∀ (r : List Int), rl d r < d → rl d r < r.length → r.getD (rl d r) 0 ≤ 127 := by
  induction d with
  | zero => intro r h; exact absurd h (Nat.not_lt_zero _)
  | succ d ih =>
    intro r h h2
    cases r with
    | nil => exact absurd h2 (Nat.not_lt_zero _)
    | cons c r =>
      unfold rl at h h2 ⊢
      by_cases hc : c > 127
      · rw [if_pos hc] at h h2 ⊢
        rw [List.length_cons] at h2
        exact ih r (by omega) (by omega)
      · rw [if_neg hc]
        show c ≤ 127
        omega
/-- The number at a place, and the place behind; or what is wrong. -/
def getF (l : List Int) (a : Int) : Int × Int × Int :=
  if a < 0 ∨ a > (l.length : Int) then (0, 0, 3) else
  let r := l.drop a.toNat
  if rl 9 r = 9 then (0, 0, 5) else if rl 9 r = r.length then (0, 0, 4) else if r.getD (rl 9 r) 0 = 0 ∧ 0 < rl 9 r then (0, 0, 5) else
  if gv (r.take (rl 9 r + 1)) > 4611686018427387903 then (0, 0, 7) else (((gv (r.take (rl 9 r + 1)) : Nat) : Int), a + ((rl 9 r : Nat) : Int) + 1, 0)
theorem rd_drop (l : List Int) (a i : Nat) : rd l ((a : Int) + (i : Int)) = (l.drop a).getD i 0 := by
  unfold rd
  rw [show ((a : Int) + (i : Int)).toNat = a + i by omega, List.getD_eq_getElem?_getD, List.getD_eq_getElem?_getD, List.getElem?_drop]
theorem take_one (r : List Int) (i : Nat) (h : i < r.length) : r.take (i + 1) = r.take i ++ [r.getD i 0] := by
  rw [List.take_succ_eq_append_getElem h, List.getD_eq_getElem?_getD, List.getElem?_eq_getElem h]
  rfl
theorem wrap63 (n : Int) (h0 : 0 ≤ n) (h1 : n < 2 ^ 63) : IntKind.i64.wrap n = n := by rw [IntKind.wrap_i64]; omega
theorem and127 {c : Int} (h0 : 0 ≤ c) (h1 : c ≤ 255) : wrap64 (Go.bits .and .u8 c 127) = ((c % 128).toNat : Int) := by
  have := bits_mask .u8 8 (by decide) wraps_u8 7 (by decide) c h0 (by omega)
  rw [show (127 : Int) = 2 ^ 7 - 1 by decide, this]
  unfold wrap64
  omega
/-- One more group. -/
theorem group_in {acc i : Nat} {c : Int} (hi : i ≤ 8) (ha : acc < 128 ^ i) (h0 : 0 ≤ c) (h1 : c ≤ 255) :
    Go.bits .or .i64 (acc : Int) (shl .i64 (wrap64 (Go.bits .and .u8 c 127)) (wrap64 (7 * (i : Int)))) = ((acc + 128 ^ i * (c % 128).toNat : Nat) : Int) := by
  rw [and127 h0 h1]
  generalize hd : (c % 128).toNat = d
  have hd1 : d < 128 := by omega
  have hw : wrap64 (7 * (i : Int)) = ((7 * i : Nat) : Int) := by unfold wrap64; omega
  rw [hw]
  have hp : (128 : Nat) ^ i = 2 ^ (7 * i) := by rw [show (128 : Nat) = 2 ^ 7 by decide, ← Nat.pow_mul]
  have hp8 : (2 : Nat) ^ (7 * i) ≤ 2 ^ 56 := Nat.pow_le_pow_right (by decide) (by omega)
  have hs : shl .i64 (d : Int) ((7 * i : Nat) : Int) = ((2 ^ (7 * i) * d : Nat) : Int) := by
    unfold shl
    rw [Int.toNat_natCast, Nat.min_eq_left (show 7 * i ≤ IntKind.i64.bits by show 7 * i ≤ 64; omega)]
    have e : (d : Int) * 2 ^ (7 * i) = ((2 ^ (7 * i) * d : Nat) : Int) := by push_cast; rw [Int.mul_comm]
    rw [e]
    have hlt : 2 ^ (7 * i) * d < 2 ^ 63 := by
      have : 2 ^ (7 * i) * d ≤ 2 ^ 56 * 127 := Nat.mul_le_mul hp8 (by omega)
      omega
    exact wrap63 _ (by omega) (by exact_mod_cast hlt)
  have hlt : 2 ^ (7 * i) * d < 2 ^ 63 := by
    have : 2 ^ (7 * i) * d ≤ 2 ^ 56 * 127 := Nat.mul_le_mul hp8 (by omega)
    omega
  rw [hs, (bits_nat .i64 63 (by decide) wrap63 acc (2 ^ (7 * i) * d) (by omega) hlt).2, hp]
  congr 1
  rw [Nat.or_comm, ← Nat.two_pow_add_eq_or_of_lt (by omega) d]
  omega
theorem get_loop (l : List Int) (hb : ∀ x ∈ l, 0 ≤ x ∧ x ≤ 255) (hn : l.length ≤ 1000000000) (a : Nat) (ha : a ≤ l.length) (d : Nat) : ∀ i : Nat, i + d = rl 9 (l.drop a) →
    Ev (fun k => num_Get.l0 k l (a : Int) ((gv ((l.drop a).take i) : Nat) : Int) (i : Int)) (getF l (a : Int)) := by
  have hF : getF l (a : Int) = (let r := l.drop a
    if rl 9 r = 9 then ((0 : Int), (0 : Int), (5 : Int)) else if rl 9 r = r.length then (0, 0, 4) else if r.getD (rl 9 r) 0 = 0 ∧ 0 < rl 9 r then (0, 0, 5) else
    if gv (r.take (rl 9 r + 1)) > 4611686018427387903 then (0, 0, 7) else (((gv (r.take (rl 9 r + 1)) : Nat) : Int), (a : Int) + ((rl 9 r : Nat) : Int) + 1, 0)) := by
    unfold getF
    rw [if_neg (by omega), Int.toNat_natCast]
  have hm := rl_le 9 (l.drop a)
  have hlen : (l.drop a).length = l.length - a := List.length_drop
  have hbr : ∀ i, i < (l.drop a).length → 0 ≤ (l.drop a).getD i 0 ∧ (l.drop a).getD i 0 ≤ 255 := fun i hi => by
    rw [List.getD_eq_getElem?_getD, List.getElem?_eq_getElem hi]
    exact hb _ (List.drop_subset _ _ (List.getElem_mem hi))
  induction d with
  | zero =>
    intro i hi
    have hi' : i = rl 9 (l.drop a) := by omega
    have hie : ∀ h1 : rl 9 (l.drop a) < 9, ∀ h2 : rl 9 (l.drop a) < (l.drop a).length, (l.drop a).getD i 0 ≤ 127 := fun h1 h2 => by rw [hi']; exact rl_end 9 _ h1 h2
    rw [hF]
    simp only
    rw [← hi'] at hm hie ⊢
    clear hi' hF
    have HW := Aside0.mk (nw64 ((a : Int) + (i : Int)) (by omega) (by omega))
    by_cases h9 : i = 9
    · rw [if_pos h9]
      refine Ev.step (f := fun _ => some (0, 0, 5)) (fun k => ?_) (Ev.now _)
      simp only [num_Get.l0]
      rw [if_neg (by omega)]
    · rw [if_neg h9]
      by_cases he : i = (l.drop a).length
      · rw [if_pos he]
        refine Ev.step (f := fun _ => some (0, 0, 4)) (fun k => ?_) (Ev.now _)
        simp only [num_Get.l0]
        rw [if_pos (by omega), HW.out, if_pos (by omega)]
      · rw [if_neg he]
        have hlt : i < (l.drop a).length := by omega
        have hc := hbr i hlt
        have hc2 := hie (by omega) hlt
        have hgv := gv_lt ((l.drop a).take i)
        rw [List.length_take, Nat.min_eq_left (by omega)] at hgv
        have hg := group_in (by omega) hgv hc.1 hc.2
        have hsn : gv ((l.drop a).take i) + 128 ^ i * ((l.drop a).getD i 0 % 128).toNat = gv ((l.drop a).take (i + 1)) := by
          rw [take_one _ _ hlt, gv_snoc, List.length_take, Nat.min_eq_left (by omega)]
        rw [hsn] at hg
        have HG := Aside0.mk hg
        have H7 := Aside0.mk (nw64 (7 * (i : Int)) (by omega) (by omega))
        have HW2 := Aside0.mk (show wrap64 (wrap64 ((a : Int) + (i : Int)) + 1) = (a : Int) + (i : Int) + 1 by rw [HW.out]; exact nw64 _ (by omega) (by omega))
        have HSN := Aside0.mk hsn
        clear hg hsn hgv
        have step : ∀ (z : Bool) (res : Int × Int × Int), (z = true ↔ ((l.drop a).getD i 0 = 0 ∧ 0 < i)) → res = (if (l.drop a).getD i 0 = 0 ∧ 0 < i then (0, 0, 5) else if gv ((l.drop a).take (i + 1)) > 4611686018427387903 then (0, 0, 7) else (((gv ((l.drop a).take (i + 1)) : Nat) : Int), (a : Int) + (i : Int) + 1, 0)) →
            Ev (fun k => num_Get.j2 k (a : Int) ((gv ((l.drop a).take (i + 1)) : Nat) : Int) (i : Int) z) res := fun z res hz hres => by
          refine Ev.step (f := fun _ => some res) (fun k => ?_) (Ev.now _)
          simp only [num_Get.j2]
          rw [HW2.out, hres]
          by_cases hz1 : z = true
          · rw [if_pos hz1, if_pos (hz.1 hz1)]
          · rw [if_neg hz1, if_neg (fun h => hz1 (hz.2 h))]
            by_cases hb : gv ((l.drop a).take (i + 1)) > 4611686018427387903
            · rw [if_pos (by omega), if_pos hb]
            · rw [if_neg (by omega), if_neg hb]
        by_cases hz : (l.drop a).getD i 0 = 0
        · refine Ev.step (f := fun k => num_Get.j2 k (a : Int) ((gv ((l.drop a).take (i + 1)) : Nat) : Int) (i : Int) (decide ((i : Int) > 0))) (fun k => ?_) (step _ _ ⟨fun h => ⟨hz, by have := of_decide_eq_true h; omega⟩, fun h => decide_eq_true (by omega)⟩ rfl)
          simp only [num_Get.l0]
          rw [HW.out, H7.out, rd_drop, if_pos (by omega), if_neg (by omega), if_pos (by omega), if_pos (by omega), if_pos (by omega), if_neg (by omega), if_pos hz]
          have := HG.out
          rw [H7.out] at this
          rw [this]
        · refine Ev.step (f := fun k => num_Get.j2 k (a : Int) ((gv ((l.drop a).take (i + 1)) : Nat) : Int) (i : Int) false) (fun k => ?_) (step _ _ ⟨(fun h => (by cases h)), fun h => absurd h.1 hz⟩ rfl)
          simp only [num_Get.l0]
          rw [HW.out, H7.out, rd_drop, if_pos (by omega), if_neg (by omega), if_pos (by omega), if_pos (by omega), if_pos (by omega), if_neg (by omega), if_neg hz]
          have := HG.out
          rw [H7.out] at this
          rw [this]
  | succ d ih =>
    intro i hi
    have hlt : i < (l.drop a).length := by omega
    have hmore := rl_more 9 (l.drop a) i (by omega)
    have hc := hbr i hlt
    have hgv := gv_lt ((l.drop a).take i)
    rw [List.length_take, Nat.min_eq_left (by omega)] at hgv
    have hg := group_in (by omega) hgv hc.1 hc.2
    have hsn : gv ((l.drop a).take i) + 128 ^ i * ((l.drop a).getD i 0 % 128).toNat = gv ((l.drop a).take (i + 1)) := by
      rw [take_one _ _ hlt, gv_snoc, List.length_take, Nat.min_eq_left (by omega)]
    rw [hsn] at hg
    have HG := Aside0.mk hg
    have H7 := Aside0.mk (show wrap64 (7 * (i : Int)) = 7 * (i : Int) by unfold wrap64; omega)
    have HW := Aside0.mk (show wrap64 ((a : Int) + (i : Int)) = (a : Int) + (i : Int) by unfold wrap64; omega)
    have HI := Aside0.mk (show wrap64 ((i : Int) + 1) = ((i + 1 : Nat) : Int) by unfold wrap64; omega)
    clear hg hsn
    refine Ev.step (f := fun k => num_Get.l0 k l (a : Int) ((gv ((l.drop a).take (i + 1)) : Nat) : Int) ((i + 1 : Nat) : Int)) (fun k => ?_) (ih (i + 1) (by omega))
    simp only [num_Get.l0]
    rw [HW.out, H7.out, HI.out, rd_drop, if_pos (by omega), if_neg (by omega), if_pos (by omega), if_pos (by omega), if_pos (by omega), if_pos hmore]
    have := HG.out
    rw [H7.out] at this
    rw [this]
theorem get_of (l : List Int) (hb : ∀ x ∈ l, 0 ≤ x ∧ x ≤ 255) (hn : l.length ≤ 1000000000) (a : Int) : Ev (fun k => num_Get.f k l a) (getF l a) := by
  unfold num_Get.f
  by_cases h0 : a < 0
  · refine ev_pos h0 (Ev.step (f := fun _ => some (0, 0, 3)) (fun k => ?_) ?_)
    · simp only [num_Get.j0]; rw [if_pos trivial]
    · unfold getF; rw [if_pos (.inl h0)]; exact Ev.now _
  · refine ev_neg h0 ?_
    by_cases h1 : a > (l.length : Int)
    · rw [decide_eq_true h1]
      refine Ev.step (f := fun _ => some (0, 0, 3)) (fun k => ?_) ?_
      · simp only [num_Get.j0]; rw [if_pos trivial]
      · unfold getF; rw [if_pos (.inr h1)]; exact Ev.now _
    · rw [decide_eq_false h1]
      obtain ⟨n, rfl⟩ : ∃ n : Nat, a = (n : Int) := ⟨a.toNat, by omega⟩
      refine Ev.step (f := fun k => num_Get.l0 k l (n : Int) ((gv ((l.drop n).take 0) : Nat) : Int) ((0 : Nat) : Int)) (fun k => ?_) (get_loop l hb hn n (by omega) (rl 9 (l.drop n)) 0 (by omega))
      simp only [num_Get.j0]
      rw [if_neg (by simp)]
      rfl
theorem gv_nb (n : Nat) : gv (nb n) = n := by
  induction n using Nat.strongRecOn with
  | _ n ih =>
    by_cases h : n < 128
    · rw [nb_small h]
      show ((n : Int) % 128).toNat + 128 * 0 = n
      omega
    · rw [nb_more h]
      show (((128 + n % 128 : Nat) : Int) % 128).toNat + 128 * gv (nb (n / 128)) = n
      rw [ih (n / 128) (by omega)]
      omega
theorem rl_nb (n : Nat) : ∀ (d : Nat) (rest : List Int), (nb n).length ≤ d → rl d (nb n ++ rest) = (nb n).length - 1 := by
  induction n using Nat.strongRecOn with
  | _ n ih =>
    intro d rest hd
    obtain ⟨d, rfl⟩ : ∃ e, d = e + 1 := ⟨d - 1, by have := nb_pos n; omega⟩
    by_cases h : n < 128
    · rw [nb_small h]
      show (if (n : Int) > 127 then _ else 0) = 0
      rw [if_neg (by omega)]
    · rw [nb_more h] at hd ⊢
      rw [List.length_cons] at hd
      show (if ((128 + n % 128 : Nat) : Int) > 127 then rl d (nb (n / 128) ++ rest) + 1 else 0) = _
      rw [if_pos (by omega), ih (n / 128) (by omega) d rest (by omega), List.length_cons]
      have := nb_pos (n / 128)
      omega
theorem nb_last (n : Nat) : 128 ≤ n → (nb n).getD ((nb n).length - 1) 0 ≠ 0 := by
  have key : ∀ n : Nat, 1 ≤ n → (nb n).getD ((nb n).length - 1) 0 ≠ 0 := by
    intro n
    induction n using Nat.strongRecOn with
    | _ n ih =>
      intro h1
      by_cases h : n < 128
      · rw [nb_small h]
        show (n : Int) ≠ 0
        omega
      · have hp := nb_pos (n / 128)
        rw [nb_more h, List.length_cons]
        have e : (nb (n / 128)).length + 1 - 1 = ((nb (n / 128)).length - 1) + 1 := by omega
        rw [e]
        exact ih (n / 128) (by omega) (by omega)
  exact fun h => key n (by omega)
/-- A number that was put is got. -/
theorem getF_nb (pre rest : List Int) (n : Nat) (hn : n ≤ 4611686018427387903) : getF (pre ++ (nb n ++ rest)) (pre.length : Int) = ((n : Int), (pre.length : Int) + ((nb n).length : Int), 0) := by
  have hp := nb_pos n
  have h9 := nb_nine hn
  have hd : (pre ++ (nb n ++ rest)).drop pre.length = nb n ++ rest := List.drop_left
  unfold getF
  rw [if_neg (by rw [List.length_append, List.length_append]; omega), Int.toNat_natCast, hd]
  simp only
  rw [rl_nb n 9 rest h9, if_neg (by omega), if_neg (by rw [List.length_append]; omega)]
  have hg : (nb n ++ rest).getD ((nb n).length - 1) 0 = (nb n).getD ((nb n).length - 1) 0 := by
    rw [List.getD_eq_getElem?_getD, List.getD_eq_getElem?_getD, List.getElem?_append_left (by omega)]
  have hz : ¬ ((nb n ++ rest).getD ((nb n).length - 1) 0 = 0 ∧ 0 < (nb n).length - 1) := by
    rintro ⟨h1, h2⟩
    rw [hg] at h1
    refine nb_last n ?_ h1
    by_cases h : n < 128
    · rw [nb_small h] at h2
      simp at h2
    · omega
  rw [if_neg hz]
  have ht : (nb n ++ rest).take ((nb n).length - 1 + 1) = nb n := by
    rw [show (nb n).length - 1 + 1 = (nb n).length by omega]
    exact List.take_left
  rw [ht, gv_nb, if_neg (by omega)]
  congr 2
  omega
def Bytes (l : List Int) : Prop := ∀ x ∈ l, 0 ≤ x ∧ x ≤ 255
/-- One bit falls out. -/
def st1 (x : Nat) : Nat := (x >>> 1) ^^^ (if x % 2 = 1 then 3988292384 else 0)
def stN : Nat → Nat → Nat
  | 0, x => x
  | d + 1, x => stN d (st1 x)
theorem st1_lt {x : Nat} (h : x < 4294967296) : st1 x < 4294967296 := by
  unfold st1
  have h1 : x >>> 1 < 2 ^ 32 := by rw [Nat.shiftRight_eq_div_pow]; omega
  refine Nat.xor_lt_two_pow h1 ?_
  split <;> decide
theorem stN_lt (d : Nat) : ∀ {x : Nat}, x < 4294967296 → stN d x < 4294967296 := by
  induction d with
  | zero => intro x h; exact h
  | succ d ih => intro x h; exact ih (st1_lt h)
theorem xor_lc (a b c : Nat) : a ^^^ (b ^^^ c) = b ^^^ (a ^^^ c) := by rw [← Nat.xor_assoc, Nat.xor_comm a b, Nat.xor_assoc]
theorem st1_xor (a b : Nat) : st1 (a ^^^ b) = st1 a ^^^ st1 b := by
  unfold st1
  rw [Nat.shiftRight_xor_distrib]
  have hm : (a ^^^ b) % 2 = (a % 2) ^^^ (b % 2) := by have := Nat.xor_mod_two_pow (a := a) (b := b) (n := 1); simpa using this
  rw [hm]
  rcases Nat.mod_two_eq_zero_or_one a with ha | ha <;> rcases Nat.mod_two_eq_zero_or_one b with hb | hb
  · rw [ha, hb]; simp
  · rw [ha, hb]; simp [Nat.xor_assoc]
  · rw [ha, hb]
    rw [if_pos (by decide), if_pos rfl, if_neg (by decide), Nat.xor_zero, Nat.xor_assoc, Nat.xor_assoc, Nat.xor_comm (b >>> 1)]
  · rw [ha, hb]
    rw [if_neg (by decide), if_pos rfl, Nat.xor_zero, Nat.xor_assoc, xor_lc 3988292384 (b >>> 1), Nat.xor_self, Nat.xor_zero]
theorem stN_xor (d : Nat) : ∀ a b : Nat, stN d (a ^^^ b) = stN d a ^^^ stN d b := by
  induction d with
  | zero => intro a b; rfl
  | succ d ih => intro a b; show stN d (st1 (a ^^^ b)) = _; rw [st1_xor, ih]; rfl
theorem st1_even (q : Nat) : st1 (2 * q) = q := by
  unfold st1
  rw [Nat.shiftRight_eq_div_pow, if_neg (by omega)]
  simp
theorem st4_high (q : Nat) : stN 4 (16 * q) = q := by
  show st1 (st1 (st1 (st1 (16 * q)))) = q
  rw [show 16 * q = 2 * (8 * q) by omega, st1_even, show 8 * q = 2 * (4 * q) by omega, st1_even, show 4 * q = 2 * (2 * q) by omega, st1_even, st1_even]
theorem st4_parts (x : Nat) : stN 4 x = (x / 16) ^^^ stN 4 (x % 16) := by
  have e : x = (16 * (x / 16)) ^^^ (x % 16) := by
    have h := Nat.two_pow_add_eq_or_of_lt (i := 4) (b := x % 16) (by omega) (x / 16)
    have hx : (16 * (x / 16)) ^^^ (x % 16) = 16 * (x / 16) ||| x % 16 := by
      apply Nat.eq_of_testBit_eq
      intro i
      rw [Nat.testBit_xor, Nat.testBit_or]
      by_cases hi : i < 4
      · have : (16 * (x / 16)).testBit i = false := by
          rw [show 16 * (x / 16) = 2 ^ 4 * (x / 16) by omega, Nat.testBit_two_pow_mul]
          simp; omega
        rw [this]; simp
      · have : (x % 16).testBit i = false := Nat.testBit_lt_two_pow (Nat.lt_of_lt_of_le (show x % 16 < 2 ^ 4 by omega) (Nat.pow_le_pow_right (by decide) (by omega)))
        rw [this]; simp
    rw [hx]
    have : (2 ^ 4 : Nat) * (x / 16) = 16 * (x / 16) := by omega
    rw [← this, ← h]
    omega
  conv => lhs; rw [e]
  rw [stN_xor, st4_high]
theorem tab_of : ∀ r : Nat, r < 16 → tab_table[r]? = some ((stN 4 r : Nat) : Int) := by decide
theorem xor_nat {a b : Nat} (ha : a < 4294967296) (hb : b < 4294967296) : Go.bits .xor .u32 (a : Int) (b : Int) = ((a ^^^ b : Nat) : Int) := by
  have h := Nat.xor_lt_two_pow (n := 32) ha hb
  unfold Go.bits
  simp only [BitVec.ofInt_natCast, BitVec.toNat_xor, BitVec.toNat_ofNat]
  rw [IntKind.wrap_u32, show IntKind.u32.bits = 32 from rfl, Nat.mod_eq_of_lt ha, Nat.mod_eq_of_lt hb]
  omega
theorem and15 {a : Nat} (ha : a < 4294967296) : Go.bits .and .u32 (a : Int) 15 = ((a % 16 : Nat) : Int) := by
  have := bits_mask .u32 32 (by decide) (fun n h0 h1 => by rw [IntKind.wrap_u32]; omega) 4 (by decide) (a : Int) (by omega) (by omega)
  rw [show (15 : Int) = 2 ^ 4 - 1 by decide, this]
  omega
theorem half_of {a : Nat} (ha : a < 4294967296) : crcHalf (a : Int) = ((stN 4 a : Nat) : Int) := by
  unfold crcHalf
  rw [and15 ha, Int.toNat_natCast, tab_of _ (Nat.mod_lt _ (by decide)), Option.getD_some, st4_parts a]
  rw [show (a : Int) / 16 = ((a / 16 : Nat) : Int) from rfl]
  exact xor_nat (by omega) (stN_lt 4 (by omega))
/-- The register behind a byte. -/
def cb (x c : Nat) : Nat := stN 8 (x ^^^ c)
theorem cb_lt {x c : Nat} (hx : x < 4294967296) (hc : c < 4294967296) : cb x c < 4294967296 := stN_lt 8 (Nat.xor_lt_two_pow (n := 32) hx hc)
theorem byte_of {x c : Nat} (hx : x < 4294967296) (hc : c < 4294967296) : crcByte (x : Int) (c : Int) = ((cb x c : Nat) : Int) := by
  unfold crcByte
  rw [show (c : Int) % 4294967296 = (c : Int) by omega, xor_nat hx hc]
  have h := Nat.xor_lt_two_pow (n := 32) hx hc
  rw [half_of h, half_of (stN_lt 4 h)]
  rfl
/-- The register behind bytes. -/
def cr (x : Nat) (l : List Int) : Nat := l.foldl (fun x c => cb x c.toNat) x
theorem cr_lt (l : List Int) (hl : Bytes l) : ∀ {x : Nat}, x < 4294967296 → cr x l < 4294967296 := by
  induction l with
  | nil => intro x hx; exact hx
  | cons c l ih =>
    intro x hx
    have := hl c List.mem_cons_self
    exact ih (fun y hy => hl y (List.mem_cons_of_mem _ hy)) (cb_lt hx (by omega))
theorem row_of (l : List Int) (hl : Bytes l) : ∀ {x : Nat}, x < 4294967296 → crcRow (x : Int) l = ((cr x l : Nat) : Int) := by
  induction l with
  | nil => intro x hx; rfl
  | cons c l ih =>
    intro x hx
    have hc := hl c List.mem_cons_self
    have e : c = ((c.toNat : Nat) : Int) := by omega
    show crcRow (crcByte (x : Int) c) l = _
    rw [e, byte_of hx (by omega)]
    exact ih (fun y hy => hl y (List.mem_cons_of_mem _ hy)) (cb_lt hx (by omega))
/-- A text's sum. -/
def cs (l : List Int) : Nat := 4294967295 - cr 4294967295 l
theorem cs_lt (l : List Int) : cs l < 4294967296 := by unfold cs; omega
theorem not_xor {a : Nat} (ha : a < 4294967296) : 4294967295 ^^^ a = 4294967295 - a := by
  have h1 : (BitVec.ofNat 32 a ^^^ BitVec.allOnes 32).toNat = (~~~ BitVec.ofNat 32 a).toNat := by rw [BitVec.xor_allOnes]
  rw [BitVec.toNat_xor, BitVec.toNat_not, BitVec.toNat_ofNat, BitVec.toNat_allOnes, Nat.mod_eq_of_lt ha] at h1
  rw [Nat.xor_comm]
  omega
theorem of_one (l : List Int) (hl : Bytes l) : crc_Of.f [l] = some ((cs l : Nat) : Int) := by
  unfold crc_Of.f cs
  show some (Go.bits .xor .u32 4294967295 (crcRow ((4294967295 : Nat) : Int) l)) = _
  have h := cr_lt l hl (x := 4294967295) (by decide)
  rw [row_of l hl (by decide), show (4294967295 : Int) = ((4294967295 : Nat) : Int) from rfl, xor_nat (by decide) h, not_xor h]
/-- A sum's bytes. -/
def sb (n : Nat) : List Int := [((n % 256 : Nat) : Int), ((n / 256 % 256 : Nat) : Int), ((n / 65536 % 256 : Nat) : Int), ((n / 16777216 : Nat) : Int)]
theorem seal4_of (l : List Int) (hl : Bytes l) : crc_seal.f l = some (((cs l % 256 : Nat) : Int), ((cs l / 256 % 256 : Nat) : Int), ((cs l / 65536 % 256 : Nat) : Int), ((cs l / 16777216 : Nat) : Int)) := by
  unfold crc_seal.f
  rw [of_one l hl]
  rfl
theorem seal_of (l : List Int) (hl : Bytes l) (hn : l.length ≤ 1000000000) : crc_Seal.f l = some (l ++ sb (cs l)) := by
  unfold crc_Seal.f
  rw [seal4_of l hl, Option.bind_some, if_pos hn]
  rfl
theorem str_inj {a b : List Int} (ha : Bytes a) (hb : Bytes b) (h : (strOfNums a).toList = (strOfNums b).toList) : a = b := by
  rw [ByteArray.toList_eq, ByteArray.toList_eq, strOfNums_data, strOfNums_data] at h
  have hl : a.length = b.length := by have := congrArg List.length h; simpa using this
  apply List.ext_getElem hl
  intro i h1 h2
  have hx := congrArg (fun l => l[i]?) h
  simp only [List.getElem?_map, List.getElem?_eq_getElem h1, List.getElem?_eq_getElem h2, Option.map_some, Option.some.injEq] at hx
  have p := ha _ (List.getElem_mem h1)
  have q := hb _ (List.getElem_mem h2)
  have := congrArg UInt8.toNat hx
  simp only [UInt8.toNat_ofNat'] at this
  omega
theorem bytes_take {l : List Int} (h : Bytes l) (n : Nat) : Bytes (l.take n) := fun x hx => h x (List.take_subset _ _ hx)
theorem bytes_drop {l : List Int} (h : Bytes l) (n : Nat) : Bytes (l.drop n) := fun x hx => h x (List.drop_subset _ _ hx)
/-- A text without its sum, or what is wrong. -/
def openF (l : List Int) : List Int × Int := if l.length < 4 then ([], 4) else if sb (cs (l.take (l.length - 4))) = l.drop (l.length - 4) then (l.take (l.length - 4), 0) else ([], 6)
theorem sb_b {n : Nat} (h : n < 4294967296) : Bytes (sb n) := by
  intro x hx
  unfold sb at hx
  simp only [List.mem_cons, List.not_mem_nil, or_false] at hx
  rcases hx with rfl | rfl | rfl | rfl <;> omega
theorem open_of (l : List Int) (hl : Bytes l) (hn : l.length ≤ 1000000000) : crc_Open.f l = some (openF l) := by
  unfold crc_Open.f openF
  by_cases h : l.length < 4
  · rw [if_pos h, if_pos h]
  · rw [if_neg h, if_neg h, seal4_of _ (bytes_take hl _), Option.bind_some, if_pos hn]
    by_cases h2 : sb (cs (l.take (l.length - 4))) = l.drop (l.length - 4)
    · rw [if_pos h2]
      exact if_pos h2
    · rw [if_neg h2]
      exact if_neg h2
theorem open_bytes (l : List Int) (hl : Bytes l) : Bytes (openF l).1 ∧ (openF l).1.length ≤ l.length := by
  unfold openF
  by_cases h : l.length < 4
  · rw [if_pos h]; exact ⟨fun x hx => (by cases hx), Nat.zero_le _⟩
  · rw [if_neg h]
    by_cases h2 : sb (cs (l.take (l.length - 4))) = l.drop (l.length - 4)
    · rw [if_pos h2]; exact ⟨bytes_take hl _, by rw [List.length_take]; exact Nat.min_le_right _ _⟩
    · rw [if_neg h2]; exact ⟨fun x hx => (by cases hx), Nat.zero_le _⟩
/-- An op's bytes. -/
def opB (o : S38) : List Int := if (o.f2.length : Int) > 0 then nb (cl (wrap64 (wrap64 (2 * (o.f2.length : Int)) + 1))) ++ o.f2 else nb (cl (wrap64 (2 * o.f1))) ++ nb (cl o.f0)
def opsB : List S38 → List Int
  | [] => []
  | o :: l => opB o ++ opsB l
def okB (l : List S38) : Prop := ∀ o ∈ l, Bytes o.f2
theorem nb_b (n : Nat) : Bytes (nb n) := nb_bytes n
theorem bytes_app {a b : List Int} (ha : Bytes a) (hb : Bytes b) : Bytes (a ++ b) := fun x hx => by
  rcases List.mem_append.1 hx with h | h
  · exact ha x h
  · exact hb x h
theorem opB_b {o : S38} (h : Bytes o.f2) : Bytes (opB o) := by
  unfold opB
  split
  · exact bytes_app (nb_b _) h
  · exact bytes_app (nb_b _) (nb_b _)
theorem opB_len {o : S38} (h : o.f2.length ≤ 400) : (opB o).length ≤ 418 := by
  unfold opB
  have h1 := nb_nine (cl_le (wrap64 (wrap64 (2 * (o.f2.length : Int)) + 1)))
  have h2 := nb_nine (cl_le (wrap64 (2 * o.f1)))
  have h3 := nb_nine (cl_le o.f0)
  split <;> rw [List.length_append] <;> omega
theorem bytes_loop (l : List S38) (hn : l.length ≤ 60) (hs : ∀ o ∈ l, o.f2.length ≤ 400) (hb : okB l) (d : Nat) : ∀ (i : Nat) (x : List Int), i + d = l.length → Bytes x → x.length ≤ 20 + 1000 * i →
    Ev (fun k => delta_Bytes.l0 k x l (l.length : Int) (i : Int)) (x ++ opsB (l.drop i) ++ sb (cs (x ++ opsB (l.drop i))), 0) := by
  induction d with
  | zero =>
    intro i x hi hx hl
    refine Ev.step (f := fun _ => (crc_Seal.f x).bind fun t => some (t, 0)) (fun k => ?_) ?_
    · simp only [delta_Bytes.l0]
      rw [if_neg (by omega)]
    · rw [end40 hi]
      unfold opsB
      rw [List.append_nil, seal_of x hx (by omega)]
      exact ev_some rfl
  | succ d ih =>
    intro i x hi hx hl
    have hlt : i < l.length := by omega
    have hm : rd_T38 l (i : Int) ∈ l := by rw [rd40 hlt]; exact List.getElem_mem hlt
    have h4 := hs _ hm
    have hb4 := hb _ hm
    rw [step40 hlt]
    generalize ho : rd_T38 l (i : Int) = o at h4 hb4 hm ⊢
    have hnext := ih (i + 1) (x ++ opB o) (by omega) (bytes_app hx (opB_b hb4)) (by rw [List.length_append]; have := opB_len h4; omega)
    rw [show x ++ opB o ++ opsB (l.drop (i + 1)) = x ++ opsB (o :: l.drop (i + 1)) by rw [List.append_assoc]; rfl] at hnext
    have hw := inc hlt (by omega)
    by_cases h : (o.f2.length : Int) > 0
    · refine Ev.step (f := fun k => (num_Put.f k x (wrap64 (wrap64 (2 * (o.f2.length : Int)) + 1))).bind fun t => if t.length + o.f2.length < 140737488355328 then delta_Bytes.l0 k (t ++ o.f2) l (l.length : Int) ((i + 1 : Nat) : Int) else none) (fun k => ?_) ?_
      · simp only [delta_Bytes.l0]
        rw [ho, if_pos (by omega), if_pos (by omega), if_pos (by omega), told_d, Option.bind_some, decide_eq_true h, if_pos rfl, hw]
      · have h9 := nb_nine (cl_le (wrap64 (wrap64 (2 * (o.f2.length : Int)) + 1)))
        refine Ev.bind (put_of x _ (by omega)) (ev_pos (by rw [List.length_append]; omega) ?_)
        rw [List.append_assoc]
        have e : opB o = nb (cl (wrap64 (wrap64 (2 * (o.f2.length : Int)) + 1))) ++ o.f2 := by unfold opB; rw [if_pos h]
        rw [← e]
        exact hnext
    · refine Ev.step (f := fun k => (num_Put.f k x (wrap64 (2 * o.f1))).bind fun t => (num_Put.f k t o.f0).bind fun u => delta_Bytes.l0 k u l (l.length : Int) ((i + 1 : Nat) : Int)) (fun k => ?_) ?_
      · simp only [delta_Bytes.l0]
        rw [ho, if_pos (by omega), if_pos (by omega), if_pos (by omega), told_d, Option.bind_some, decide_eq_false h, if_neg (by decide), hw]
      · have h9 := nb_nine (cl_le (wrap64 (2 * o.f1)))
        refine Ev.bind (put_of x _ (by omega)) (Ev.bind (put_of _ _ (by rw [List.length_append]; omega)) ?_)
        rw [List.append_assoc]
        have e : opB o = nb (cl (wrap64 (2 * o.f1))) ++ nb (cl o.f0) := by unfold opB; rw [if_neg h]
        rw [← e]
        exact hnext
/-- What ops are as bytes, or why they are not. -/
def bytesF (l : List S38) : List Int × Int := if chkF 131072 l = 0 then (nb (cl (l.length : Int)) ++ opsB l ++ sb (cs (nb (cl (l.length : Int)) ++ opsB l)), 0) else ([], chkF 131072 l)
theorem bytes_d (l : List S38) (hn : l.length ≤ 60) (hs : ∀ o ∈ l, o.f2.length ≤ 400) (hb : okB l) : Ev (fun k => delta_Bytes.f k l) (bytesF l) := by
  unfold delta_Bytes.f bytesF
  refine Ev.bind (a := chkF 131072 l) ⟨l.length + 3, fun k hk => check_d 131072 l (by omega) (by omega)⟩ ?_
  by_cases h : chkF 131072 l = 0
  · rw [if_pos h]
    refine ev_pos h (Ev.bind (put_of [] _ (by simp)) ?_)
    have h9 := nb_nine (cl_le (l.length : Int))
    have := bytes_loop l hn hs hb l.length 0 (nb (cl (l.length : Int))) (by omega) (nb_b _) (by omega)
    rwa [List.drop_zero] at this
  · rw [if_neg h]
    exact ev_neg h (Ev.now _)
theorem wf8 {n : Int} (h : (Lit.int .u8 n).wf = true) : 0 ≤ n ∧ n < 256 := by
  have e0 : IntKind.u8.min = 0 := by decide
  have e1 : IntKind.u8.max = 255 := by decide
  simp [Lit.wf, e0, e1] at h
  omega
theorem byte_wf {n : Int} (h : (Lit.int .u8 n).wf = true) : 0 ≤ n ∧ n ≤ 255 := by have := wf8 h; omega
/-- The op at a place, and the place behind. -/
def oneRF (l : List Int) (a : Int) : Int × Int × List Int × Int × Int :=
  let g := getF l a
  if g.2.2 = 0 then (if g.1 / 2 = 0 then (0, 0, [], 0, 5) else if g.1 / 2 > 65536 then (0, 0, [], 0, 7) else
    if g.1 % 2 = 1 then (if g.1 / 2 > (l.length : Int) - g.2.1 then (0, 0, [], 0, 4) else (0, 0, (l.take (g.2.1 + g.1 / 2).toNat).drop g.2.1.toNat, g.2.1 + g.1 / 2, 0))
    else (let h := getF l g.2.1; (h.1, g.1 / 2, [], h.2.1, h.2.2))) else (0, 0, [], 0, g.2.2)
theorem getF_bd (l : List Int) (a : Int) : 0 ≤ (getF l a).1 ∧ (getF l a).1 ≤ 4611686018427387903 ∧ 0 ≤ (getF l a).2.1 ∧ (getF l a).2.1 ≤ (l.length : Int) := by
  unfold getF
  by_cases h : a < 0 ∨ a > (l.length : Int)
  · rw [if_pos h]
    exact ⟨by decide, by decide, by decide, by simp⟩
  · rw [if_neg h]
    simp only
    have hm := rl_le 9 (l.drop a.toNat)
    have hlen : (l.drop a.toNat).length = l.length - a.toNat := List.length_drop
    by_cases h9 : rl 9 (l.drop a.toNat) = 9
    · rw [if_pos h9]; exact ⟨by decide, by decide, by decide, by simp⟩
    · rw [if_neg h9]
      by_cases he : rl 9 (l.drop a.toNat) = (l.drop a.toNat).length
      · rw [if_pos he]; exact ⟨by decide, by decide, by decide, by simp⟩
      · rw [if_neg he]
        split
        · exact ⟨by decide, by decide, by decide, by simp⟩
        · split
          · exact ⟨by decide, by decide, by decide, by simp⟩
          · exact ⟨by simp, by simp; omega, by simp; omega, by simp; omega⟩
theorem one_of_ (l : List Int) (hb : Bytes l) (hn : l.length ≤ 1000000000) (a : Int) : Ev (fun k => delta_read.f k l a) (oneRF l a) := by
  unfold delta_read.f
  refine Ev.bind (get_of l hb hn a) ?_
  unfold oneRF
  have hg := getF_bd l a
  generalize getF l a = g at hg ⊢
  obtain ⟨v, p, e⟩ := g
  simp only at hg ⊢
  have e1 : wrap64 (Int.tdiv v 2) = v / 2 := by rw [Int.tdiv_eq_ediv_of_nonneg hg.1]; exact nw64 _ (by omega) (by omega)
  have e2 : Int.tmod v 2 = v % 2 := Int.tmod_eq_emod_of_nonneg hg.1
  rw [e1, e2]
  by_cases h0 : e = 0
  · rw [if_pos h0]
    refine ev_pos h0 ?_
    by_cases h1 : v / 2 = 0
    · rw [if_pos h1]; exact ev_pos h1 (Ev.now _)
    · rw [if_neg h1]
      refine ev_neg h1 ?_
      by_cases h2 : v / 2 > 65536
      · rw [if_pos h2]; exact ev_pos h2 (Ev.now _)
      · rw [if_neg h2]
        refine ev_neg h2 ?_
        have H3 := Aside0.mk (nw64 ((l.length : Int) - p) (by omega) (by omega))
        have H4 := Aside0.mk (nw64 (p + v / 2) (by omega) (by omega))
        by_cases h3 : v % 2 = 1
        · rw [if_pos h3, H3.out, H4.out]
          refine ev_pos h3 ?_
          by_cases h4 : v / 2 > (l.length : Int) - p
          · refine ev_pos h4 ?_
            rw [if_pos h4]; exact Ev.now _
          · refine ev_neg h4 (ev_pos (by omega) (ev_pos (by omega) (ev_pos (by omega) ?_)))
            rw [if_neg h4]
            unfold bytes_Clone.f
            have hl : ((l.take (p + v / 2).toNat).drop p.toNat).length ≤ l.length := by rw [List.length_drop, List.length_take]; omega
            rw [if_pos (by omega)]
            exact ev_some rfl
        · rw [if_neg h3]
          refine ev_neg h3 (Ev.bind (get_of l hb hn p) ?_)
          exact Ev.now _
  · rw [if_neg h0]
    exact ev_neg h0 (Ev.now _)
/-- d more ops from a place on, behind those that came. -/
def opsRF (l : List Int) : Nat → Int → List S38 → List S38 × Int
  | 0, a, x => if a < (l.length : Int) then ([], 5) else if chkF 131072 x = 0 then (x, 0) else ([], chkF 131072 x)
  | d + 1, a, x => let o := oneRF l a; if o.2.2.2.2 = 0 then opsRF l d o.2.2.2.1 (x ++ [⟨o.1, o.2.1, o.2.2.1⟩]) else ([], o.2.2.2.2)
theorem opsRF_few (l : List Int) (d : Nat) : ∀ (a : Int) (x : List S38), (opsRF l d a x).1.length ≤ x.length + d := by
  induction d with
  | zero =>
    intro a x
    unfold opsRF
    split
    · exact Nat.zero_le _
    · split
      · exact Nat.le_refl _
      · exact Nat.zero_le _
  | succ d ih =>
    intro a x
    unfold opsRF
    simp only
    split
    · have := ih (oneRF l a).2.2.2.1 (x ++ [⟨(oneRF l a).1, (oneRF l a).2.1, (oneRF l a).2.2.1⟩])
      rw [List.length_append] at this
      simp at this
      omega
    · exact Nat.zero_le _
theorem read_loop (l : List Int) (hb : Bytes l) (hn : l.length ≤ 1000000000) (n : Nat) (hN : n ≤ 8192) (d : Nat) : ∀ (i : Nat) (a : Int) (x : List S38), i + d = n → x.length = i →
    Ev (fun k => delta_Read.l0 k l a x (n : Int) (i : Int)) (opsRF l d a x) := by
  induction d with
  | zero =>
    intro i a x hi hx
    refine Ev.step (f := fun k => if a < (l.length : Int) then some ([], 5) else (delta_Check.f k x 131072).bind fun t => if t = 0 then some (x, 0) else some ([], t)) (fun k => ?_) ?_
    · simp only [delta_Read.l0]
      rw [if_neg (by omega)]
    · unfold opsRF
      by_cases h : a < (l.length : Int)
      · rw [if_pos h]; exact ev_pos h (Ev.now _)
      · rw [if_neg h]
        refine ev_neg h (Ev.bind (a := chkF 131072 x) ⟨x.length + 3, fun k hk => check_d 131072 x (by omega) (by omega)⟩ ?_)
        by_cases h2 : chkF 131072 x = 0
        · refine ev_pos h2 ?_
          rw [if_pos h2]; exact Ev.now _
        · refine ev_neg h2 ?_
          rw [if_neg h2]; exact Ev.now _
  | succ d ih =>
    intro i a x hi hx
    have hw : wrap64 ((i : Int) + 1) = ((i + 1 : Nat) : Int) := by unfold wrap64; omega
    refine Ev.step (f := fun k => (delta_read.f k l a).bind fun o => if o.2.2.2.2 = 0 then (if x.length < 3518437208883 then delta_Read.l0 k l o.2.2.2.1 (x ++ [(⟨o.1, o.2.1, o.2.2.1⟩ : S38)]) (n : Int) ((i + 1 : Nat) : Int) else none) else some ([], o.2.2.2.2)) (fun k => ?_) ?_
    · simp only [delta_Read.l0]
      rw [if_pos (by omega), hw]
    · refine Ev.bind (one_of_ l hb hn a) ?_
      unfold opsRF
      simp only
      by_cases h : (oneRF l a).2.2.2.2 = 0
      · rw [if_pos h]
        exact ev_pos h (ev_pos (by omega) (ih (i + 1) _ _ (by omega) (by rw [List.length_append]; simp; omega)))
      · rw [if_neg h]; exact ev_neg h (Ev.now _)
/-- What bytes are as ops, or what is wrong. -/
def readF (l : List Int) : List S38 × Int :=
  let o := openF l
  if o.2 = 0 then (let g := getF o.1 0; if g.2.2 = 0 then (if g.1 > 8192 then ([], 7) else opsRF o.1 g.1.toNat g.2.1 []) else ([], g.2.2)) else ([], o.2)
theorem readF_few (l : List Int) : (readF l).1.length ≤ 8192 := by
  unfold readF
  simp only
  split
  · split
    · split
      · exact Nat.zero_le _
      · have h := opsRF_few (openF l).1 (getF (openF l).1 0).1.toNat (getF (openF l).1 0).2.1 []
        have := (getF_bd (openF l).1 0).1
        simp at h
        omega
    · exact Nat.zero_le _
  · exact Nat.zero_le _
theorem read_d (l : List Int) (hb : Bytes l) (hn : l.length ≤ 1000000000) : Ev (fun k => delta_Read.f k l) (readF l) := by
  unfold delta_Read.f
  rw [open_of l hb hn]
  simp only [Option.bind_some]
  unfold readF
  have ho := open_bytes l hb
  generalize openF l = o at ho ⊢
  simp only
  by_cases h : o.2 = 0
  · rw [if_pos h]
    refine ev_pos h (Ev.bind (get_of o.1 ho.1 (by omega) 0) ?_)
    have hg := (getF_bd o.1 0).1
    generalize getF o.1 0 = g at hg ⊢
    by_cases h2 : g.2.2 = 0
    · rw [if_pos h2]
      refine ev_pos h2 ?_
      by_cases h3 : g.1 > 8192
      · rw [if_pos h3]; exact ev_pos h3 (Ev.now _)
      · rw [if_neg h3]
        refine ev_neg h3 ?_
        have := read_loop o.1 ho.1 (by omega) g.1.toNat (by omega) g.1.toNat 0 g.2.1 [] (by omega) rfl
        rwa [Int.toNat_of_nonneg hg] at this
    · rw [if_neg h2]; exact ev_neg h2 (Ev.now _)
  · rw [if_neg h]; exact ev_neg h (Ev.now _)
theorem size_each : ∀ (l : List S38) (n : Int), (∀ o ∈ l, oneF 131072 o = 0 ∧ o.f2.length ≤ 400) → 0 ≤ n → n + 131072 * (l.length : Int) ≤ 1000000000000 → n ≤ sizeL n l ∧ ∀ o ∈ l, n + ln o ≤ sizeL n l
  | [], n, _, _, _ => ⟨Int.le_refl _, fun o ho => (by cases ho)⟩
  | o :: l, n, h, h0, hn => by
    have ho := h o List.mem_cons_self
    have h1 := ln_nonneg o
    have h2 : ln o ≤ 131072 := by
      rcases one_zero (by decide) ho.1 with ⟨q1, q2, q3⟩ | ⟨q1, q2, q3, q4, q5⟩
      · unfold ln
        rw [if_pos q1]
        omega
      · unfold ln
        rw [if_neg (by rw [q1]; decide)]
        have := mx0 o.f1
        omega
    rw [List.length_cons] at hn
    have ih := size_each l (n + ln o) (fun x hx => h x (List.mem_cons_of_mem _ hx)) (by omega) (by omega)
    show n ≤ sizeL (wrap64 (n + ln o)) l ∧ _
    rw [nw64 (n + ln o) (by omega) (by omega)]
    refine ⟨by omega, fun x hx => ?_⟩
    show n + ln x ≤ sizeL (wrap64 (n + ln o)) l
    rw [nw64 (n + ln o) (by omega) (by omega)]
    rcases List.mem_cons.1 hx with rfl | hx
    · exact ih.1
    · have := ih.2 x hx
      omega
theorem opB_told {o : S38} (h : (o.f2.length : Int) > 0) (hs : o.f2.length ≤ 400) : opB o = nb (2 * o.f2.length + 1) ++ o.f2 := by
  unfold opB
  rw [if_pos h]
  have e : wrap64 (wrap64 (2 * (o.f2.length : Int)) + 1) = ((2 * o.f2.length + 1 : Nat) : Int) := by
    rw [nw64 (2 * (o.f2.length : Int)) (by omega) (by omega), nw64 _ (by omega) (by omega)]
    omega
  rw [e]
  have := cl_of (a := ((2 * o.f2.length + 1 : Nat) : Int)) (by omega) (by omega)
  rw [show cl ((2 * o.f2.length + 1 : Nat) : Int) = 2 * o.f2.length + 1 by omega]
theorem opB_copy {o : S38} (h : o.f2 = []) {x y : Nat} (hx : o.f0 = (x : Int)) (hy : o.f1 = (y : Int)) (h1 : x ≤ 1000000) (h2 : y ≤ 1000000) : opB o = nb (2 * y) ++ nb x := by
  unfold opB
  rw [if_neg (by rw [h]; decide), hx, hy]
  have e : wrap64 (2 * (y : Int)) = ((2 * y : Nat) : Int) := by
    rw [nw64 _ (by omega) (by omega)]
    omega
  rw [e]
  have q1 := cl_of (a := ((2 * y : Nat) : Int)) (by omega) (by omega)
  have q2 := cl_of (a := ((x : Nat) : Int)) (by omega) (by omega)
  rw [show cl ((2 * y : Nat) : Int) = 2 * y by omega, show cl (x : Int) = x by omega]
/-- An op that was put is got. -/
theorem one_back (pre rest : List Int) (o : S38) (h1 : oneF 131072 o = 0) (h2 : o.f2.length ≤ 400) (h3 : ln o ≤ 65536) :
    oneRF (pre ++ (opB o ++ rest)) (pre.length : Int) = (o.f0, o.f1, o.f2, (pre.length : Int) + ((opB o).length : Int), 0) := by
  rcases one_zero (by decide) h1 with ⟨q1, q2, q3⟩ | ⟨q1, q2, q3, q4, q5⟩
  · rw [opB_told q1 h2, List.append_assoc]
    unfold oneRF
    rw [getF_nb pre _ _ (by omega)]
    simp only
    have d1 : ((2 * o.f2.length + 1 : Nat) : Int) / 2 = (o.f2.length : Int) := by omega
    have d2 : ((2 * o.f2.length + 1 : Nat) : Int) % 2 = 1 := by omega
    have hl : ((pre ++ (nb (2 * o.f2.length + 1) ++ (o.f2 ++ rest))).length : Int) = (pre.length : Int) + ((nb (2 * o.f2.length + 1)).length : Int) + (o.f2.length : Int) + (rest.length : Int) := by
      simp only [List.length_append]; omega
    rw [d1, d2, hl, if_pos trivial, if_neg (by omega), if_neg (by omega), if_pos rfl, if_neg (by omega), q2, q3]
    have e1 : ((pre.length : Int) + ((nb (2 * o.f2.length + 1)).length : Int)).toNat = (pre ++ nb (2 * o.f2.length + 1)).length := by rw [List.length_append]; omega
    have e2 : ((pre.length : Int) + ((nb (2 * o.f2.length + 1)).length : Int) + (o.f2.length : Int)).toNat = ((pre ++ nb (2 * o.f2.length + 1)) ++ o.f2).length := by rw [List.length_append, List.length_append]; omega
    have e3 : pre ++ (nb (2 * o.f2.length + 1) ++ (o.f2 ++ rest)) = ((pre ++ nb (2 * o.f2.length + 1)) ++ o.f2) ++ rest := by simp only [List.append_assoc]
    rw [e1, e2, e3, List.take_left, List.drop_left, List.length_append]
    congr 4
    omega
  · obtain ⟨x, hx⟩ : ∃ x : Nat, o.f0 = (x : Int) := ⟨o.f0.toNat, by omega⟩
    obtain ⟨y, hy⟩ : ∃ y : Nat, o.f1 = (y : Int) := ⟨o.f1.toNat, by omega⟩
    have hy2 : (y : Int) ≤ 65536 := by
      have : ln o = mx o.f1 0 := by unfold ln; rw [if_neg (by rw [q1]; decide)]
      have := mx0 o.f1
      omega
    rw [opB_copy q1 hx hy (by omega) (by omega), List.append_assoc]
    unfold oneRF
    rw [getF_nb pre _ _ (by omega)]
    simp only
    have d1 : ((2 * y : Nat) : Int) / 2 = (y : Int) := by omega
    have d2 : ¬ ((2 * y : Nat) : Int) % 2 = 1 := by omega
    rw [d1, if_pos trivial, if_neg (by omega), if_neg (by omega), if_neg d2]
    have e3 : pre ++ (nb (2 * y) ++ (nb x ++ rest)) = (pre ++ nb (2 * y)) ++ (nb x ++ rest) := by simp only [List.append_assoc]
    have e4 : (pre.length : Int) + ((nb (2 * y)).length : Int) = ((pre ++ nb (2 * y)).length : Int) := by rw [List.length_append]; omega
    rw [e3, e4, getF_nb (pre ++ nb (2 * y)) rest x (by omega), hx, hy, q1]
    simp only [List.length_append]
    congr 4
    omega
theorem ops_back : ∀ (l x : List S38) (pre : List Int), (∀ o ∈ l, oneF 131072 o = 0 ∧ o.f2.length ≤ 400 ∧ ln o ≤ 65536) → chkF 131072 (x ++ l) = 0 → opsRF (pre ++ opsB l) l.length (pre.length : Int) x = (x ++ l, 0)
  | [], x, pre, _, hc => by
    rw [List.append_nil] at hc ⊢
    show (if (pre.length : Int) < ((pre ++ []).length : Int) then _ else _) = _
    rw [if_neg (by rw [List.append_nil]; omega), if_pos hc]
  | o :: l, x, pre, h, hc => by
    have ho := h o List.mem_cons_self
    have hb := one_back pre (opsB l) o ho.1 ho.2.1 ho.2.2
    show (let q := oneRF (pre ++ (opB o ++ opsB l)) (pre.length : Int); if q.2.2.2.2 = 0 then opsRF (pre ++ (opB o ++ opsB l)) l.length q.2.2.2.1 (x ++ [⟨q.1, q.2.1, q.2.2.1⟩]) else ([], q.2.2.2.2)) = _
    rw [hb]
    simp only
    rw [if_pos trivial]
    have ih := ops_back l (x ++ [o]) (pre ++ opB o) (fun y hy => h y (List.mem_cons_of_mem _ hy)) (by rw [List.append_assoc]; exact hc)
    rw [List.append_assoc, List.append_assoc, List.length_append] at ih
    rw [show (pre.length : Int) + ((opB o).length : Int) = ((pre.length + (opB o).length : Nat) : Int) by omega]
    exact ih
theorem open_sealed (p : List Int) : openF (p ++ sb (cs p)) = (p, 0) := by
  unfold openF
  have hl : (p ++ sb (cs p)).length = p.length + 4 := by rw [List.length_append]; rfl
  rw [if_neg (by omega), hl, show p.length + 4 - 4 = p.length by omega, List.take_left, List.drop_left, if_pos rfl]
theorem read_back (l : List S38) (h60 : l.length ≤ 60) (hs : ∀ o ∈ l, o.f2.length ≤ 400) (hc : chkF 131072 l = 0) : readF (bytesF l).1 = (l, 0) := by
  obtain ⟨c1, c2, c3, c4⟩ := chkF_zero hc
  have hsz := size_each l 0 (fun o ho => ⟨c2 o ho, hs o ho⟩) (Int.le_refl _) (by omega)
  unfold bytesF
  rw [if_pos hc]
  unfold readF
  simp only
  rw [open_sealed]
  simp only
  rw [if_pos trivial]
  have hcl : cl (l.length : Int) = l.length := by have := cl_of (a := (l.length : Int)) (by omega) (by omega); omega
  rw [hcl]
  have hg := getF_nb [] (opsB l) l.length (by omega)
  rw [List.nil_append] at hg
  have z : ((([] : List Int).length : Nat) : Int) = 0 := rfl
  rw [z] at hg
  rw [hg]
  simp only
  rw [if_pos trivial, if_neg (by omega), Int.toNat_natCast]
  have := ops_back l [] (nb l.length) (fun o ho => ⟨c2 o ho, hs o ho, by have := hsz.2 o ho; omega⟩) (by rw [List.nil_append]; exact hc)
  rw [List.nil_append] at this
  rw [← this]
  congr 1
  simp
theorem st1_inj {x y : Nat} (hx : x < 4294967296) (hy : y < 4294967296) (h : st1 x = st1 y) : x = y := by
  have top : ∀ z : Nat, z < 4294967296 → (st1 z).testBit 31 = decide (z % 2 = 1) := by
    intro z hz
    unfold st1
    rw [Nat.testBit_xor]
    have h1 : (z >>> 1).testBit 31 = false := Nat.testBit_lt_two_pow (by rw [Nat.shiftRight_eq_div_pow]; omega)
    rw [h1]
    by_cases hp : z % 2 = 1
    · rw [if_pos hp, decide_eq_true hp]; decide
    · rw [if_neg hp, decide_eq_false hp]; simp
  have ht := (top x hx).symm.trans ((congrArg (fun v => Nat.testBit v 31) h).trans (top y hy))
  have hp : (x % 2 = 1) ↔ (y % 2 = 1) := by simpa using ht
  have hq : x >>> 1 = y >>> 1 := by
    unfold st1 at h
    by_cases h1 : x % 2 = 1
    · rw [if_pos h1, if_pos (hp.1 h1)] at h
      have := congrArg (fun v => v ^^^ 3988292384) h
      simpa [Nat.xor_assoc] using this
    · rw [if_neg h1, if_neg (fun q => h1 (hp.2 q)), Nat.xor_zero, Nat.xor_zero] at h
      exact h
  rw [Nat.shiftRight_eq_div_pow, Nat.shiftRight_eq_div_pow] at hq
  omega
theorem stN_inj (d : Nat) : ∀ {x y : Nat}, x < 4294967296 → y < 4294967296 → stN d x = stN d y → x = y := by
  induction d with
  | zero => intro x y _ _ h; exact h
  | succ d ih => intro x y hx hy h; exact st1_inj hx hy (ih (st1_lt hx) (st1_lt hy) h)
theorem xor_left {a b c : Nat} (h : a ^^^ b = a ^^^ c) : b = c := by
  have := congrArg (fun v => a ^^^ v) h
  simpa [← Nat.xor_assoc] using this
theorem cb_inj {x y c : Nat} (hx : x < 4294967296) (hy : y < 4294967296) (hc : c < 4294967296) (h : cb x c = cb y c) : x = y := by
  have := stN_inj 8 (Nat.xor_lt_two_pow (n := 32) hx hc) (Nat.xor_lt_two_pow (n := 32) hy hc) h
  rw [Nat.xor_comm x, Nat.xor_comm y] at this
  exact xor_left this
theorem cr_inj : ∀ (l : List Int), Bytes l → ∀ {x y : Nat}, x < 4294967296 → y < 4294967296 → cr x l = cr y l → x = y
  | [], _, x, y, _, _, h => h
  | c :: l, hl, x, y, hx, hy, h => by
    have hc := hl c List.mem_cons_self
    exact cb_inj hx hy (by omega) (cr_inj l (fun z hz => hl z (List.mem_cons_of_mem _ hz)) (cb_lt hx (by omega)) (cb_lt hy (by omega)) h)
theorem cr_app (a b : List Int) (x : Nat) : cr x (a ++ b) = cr (cr x a) b := by unfold cr; rw [List.foldl_append]
/-- A text of which one byte is another one has another sum. -/
theorem cs_set (l : List Int) (hl : Bytes l) (i : Nat) (hi : i < l.length) (c : Int) (h0 : 0 ≤ c) (h1 : c ≤ 255) (hne : c ≠ l[i]) : cs (l.set i c) ≠ cs l := by
  intro h
  have e1 : l = l.take i ++ l[i] :: l.drop (i + 1) := by rw [← List.drop_eq_getElem_cons hi, List.take_append_drop]
  have e2 : l.set i c = l.take i ++ c :: l.drop (i + 1) := by
    rw [List.set_eq_take_append_cons_drop, if_pos hi]
  have hli := hl _ (List.getElem_mem hi)
  have hx := cr_lt (l.take i) (bytes_take hl i) (x := 4294967295) (by decide)
  have b1 := cr_lt l hl (x := 4294967295) (by decide)
  have hset : Bytes (l.set i c) := fun z hz => by
    rcases List.mem_or_eq_of_mem_set hz with hz | rfl
    · exact hl z hz
    · exact ⟨h0, h1⟩
  have b2 := cr_lt (l.set i c) hset (x := 4294967295) (by decide)
  unfold cs at h
  have h3 : cr 4294967295 (l.set i c) = cr 4294967295 l := by omega
  rw [e2] at h3
  have h4 : cr 4294967295 (l.take i ++ c :: l.drop (i + 1)) = cr 4294967295 (l.take i ++ l[i] :: l.drop (i + 1)) := by rw [← e1]; exact h3
  rw [cr_app, cr_app] at h4
  generalize cr 4294967295 (l.take i) = x at hx h4
  have h5 : cb x c.toNat = cb x (l[i]).toNat := cr_inj (l.drop (i + 1)) (bytes_drop hl _) (cb_lt hx (by omega)) (cb_lt hx (by omega)) h4
  have h6 := stN_inj 8 (Nat.xor_lt_two_pow (n := 32) hx (by omega)) (Nat.xor_lt_two_pow (n := 32) hx (by omega)) h5
  have := xor_left h6
  omega
theorem sb_inj {a b : Nat} (ha : a < 4294967296) (hb : b < 4294967296) (h : sb a = sb b) : a = b := by
  unfold sb at h
  simp only [List.cons.injEq, and_true] at h
  omega
/-- What is sealed, and of which one byte is another one then, is not opened. -/
theorem open_bad (p : List Int) (hp : Bytes p) (i : Nat) (hi : i < (p ++ sb (cs p)).length) (c : Int) (h0 : 0 ≤ c) (h1 : c ≤ 255) (hne : c ≠ (p ++ sb (cs p))[i]) : openF ((p ++ sb (cs p)).set i c) = ([], 6) := by
  have hl : (p ++ sb (cs p)).length = p.length + 4 := by rw [List.length_append]; rfl
  unfold openF
  rw [List.length_set, if_neg (by omega), hl, show p.length + 4 - 4 = p.length by omega]
  refine if_neg (fun he => ?_)
  by_cases hip : i < p.length
  · rw [List.set_append_left _ _ hip] at he
    rw [List.take_left' (by rw [List.length_set]), List.drop_left' (by rw [List.length_set])] at he
    have := sb_inj (cs_lt _) (cs_lt _) he
    refine cs_set p hp i hip c h0 h1 ?_ this
    rwa [List.getElem_append_left hip] at hne
  · rw [List.set_append_right _ _ (by omega)] at he
    rw [List.take_left, List.drop_left] at he
    have hi2 : i - p.length < (sb (cs p)).length := by show i - p.length < 4; omega
    have := congrArg (fun q => q[i - p.length]?) he
    simp only [List.getElem?_set_self hi2, List.getElem?_eq_getElem hi2, Option.some.injEq] at this
    rw [List.getElem_append_right (by omega)] at hne
    exact hne this.symm
theorem xor8 {a c : Int} (ha : 0 ≤ a ∧ a ≤ 255) (hc : 0 ≤ c ∧ c ≤ 255) : 0 ≤ Go.bits .xor .u8 a c ∧ Go.bits .xor .u8 a c ≤ 255 ∧ (c ≠ 0 → Go.bits .xor .u8 a c ≠ a) := by
  obtain ⟨x, rfl⟩ := Int.eq_ofNat_of_zero_le ha.1
  obtain ⟨y, rfl⟩ := Int.eq_ofNat_of_zero_le hc.1
  have h := Nat.xor_lt_two_pow (n := 8) (x := x) (y := y) (by omega) (by omega)
  have e : Go.bits .xor .u8 (x : Int) (y : Int) = ((x ^^^ y : Nat) : Int) := by
    unfold Go.bits
    simp only [BitVec.ofInt_natCast, BitVec.toNat_xor, BitVec.toNat_ofNat]
    rw [IntKind.wrap_u8, show IntKind.u8.bits = 8 from rfl, Nat.mod_eq_of_lt (show x < 2 ^ 8 by omega), Nat.mod_eq_of_lt (show y < 2 ^ 8 by omega)]
    omega
  rw [e]
  refine ⟨by omega, by omega, fun hy hx => hy ?_⟩
  have hx' : x ^^^ y = x ^^^ 0 := by rw [Nat.xor_zero]; omega
  have := xor_left hx'
  omega
theorem opsB_b : ∀ {l : List S38}, okB l → Bytes (opsB l)
  | [], _ => fun x hx => (by cases hx)
  | o :: l, h => bytes_app (opB_b (h o List.mem_cons_self)) (opsB_b (fun x hx => h x (List.mem_cons_of_mem _ hx)))
theorem opsB_len : ∀ {l : List S38}, (∀ o ∈ l, o.f2.length ≤ 400) → (opsB l).length ≤ 418 * l.length
  | [], _ => Nat.le_refl _
  | o :: l, h => by
    have h1 := opB_len (h o List.mem_cons_self)
    have h2 := opsB_len (l := l) (fun x hx => h x (List.mem_cons_of_mem _ hx))
    show (opB o ++ opsB l).length ≤ 418 * (l.length + 1)
    rw [List.length_append]
    omega

theorem DeltaBack : remoralaw08_DeltaBack.Pure := by
  intro l a c hl h40 ha hc
  have hn := few h40
  have hc' := byte_wf hc
  have ha' : 0 ≤ a ∧ a ≤ 65535 := by
    have e0 : IntKind.u16.min = 0 := by decide
    have e1 : IntKind.u16.max = 65535 := by decide
    simp [Lit.wf, e0, e1] at ha
    omega
  refine Ev.rounds ?_
  obtain ⟨t, h1, h2⟩ := small_of l hn (k := l.length + 1) (by omega)
  unfold remoralaw08_DeltaBack.f
  refine Ev.bind (a := t) (Ev.of (remoraref08_Small.mono l) h1) ?_
  by_cases ht : t = true
  · obtain ⟨hs, h60⟩ := h2 ht
    have hb : okB l := fun o ho x hx => byte_wf ((hl.2 o ho).2.2.2 x hx)
    refine ev_pos ht (Ev.bind (bytes_d l h60 hs hb) ?_)
    by_cases hk : chkF 131072 l = 0
    · have hrb := read_back l h60 hs hk
      have hP : ∃ p, Bytes p ∧ p.length ≤ 100000 ∧ bytesF l = (p ++ sb (cs p), 0) := by
        refine ⟨nb (cl (l.length : Int)) ++ opsB l, bytes_app (nb_b _) (opsB_b hb), ?_, ?_⟩
        · have h9 := nb_nine (cl_le (l.length : Int))
          have := opsB_len hs
          rw [List.length_append]
          omega
        · unfold bytesF
          rw [if_pos hk]
      obtain ⟨p, hp1, hp2, hp3⟩ := hP
      rw [hp3] at hrb ⊢
      simp only at hrb ⊢
      have hbl : (p ++ sb (cs p)).length = p.length + 4 := by rw [List.length_append]; rfl
      have hbb : Bytes (p ++ sb (cs p)) := bytes_app hp1 (sb_b (cs_lt _))
      have r1 := read_d (p ++ sb (cs p)) hbb (by omega)
      rw [hrb] at r1
      (try refine ev_pos (show (0 : Int) = 0 from rfl) ?_)
      refine Ev.bind r1 ?_
      refine ev_pos (show (0 : Int) = 0 from rfl) ?_
      refine Ev.bind (a := true) ⟨l.length + 1, fun k hk => dsame_of (k := k) l hn (by omega)⟩ ?_
      refine ev_pos (show true = true from rfl) ?_
      rw [show (((p ++ sb (cs p)).length : Int) == 0) = false by rw [hbl]; simp; omega]
      have hw : wrap64 a = a := nw64 a (by omega) (by omega)
      have hm : Int.tmod a ((p ++ sb (cs p)).length : Int) = ((a.toNat % (p ++ sb (cs p)).length : Nat) : Int) := by
        rw [Int.tmod_eq_emod_of_nonneg ha'.1]
        obtain ⟨n, rfl⟩ := Int.eq_ofNat_of_zero_le ha'.1
        rw [Int.toNat_natCast]
        rfl
      have hi : a.toNat % (p ++ sb (cs p)).length < (p ++ sb (cs p)).length := Nat.mod_lt _ (by omega)
      generalize hii : a.toNat % (p ++ sb (cs p)).length = i at hm hi
      have hrd : rd (p ++ sb (cs p)) (i : Int) = (p ++ sb (cs p))[i] := by unfold rd; rw [Int.toNat_natCast, List.getD_eq_getElem?_getD, List.getElem?_eq_getElem hi, Option.getD_some]
      have hx := xor8 (hbb _ (List.getElem_mem hi)) hc'
      have hbs : Bytes ((p ++ sb (cs p)).set i (Go.bits .xor .u8 (p ++ sb (cs p))[i] c)) := fun z hz => by
        rcases List.mem_or_eq_of_mem_set hz with hz | rfl
        · exact hbb z hz
        · exact ⟨hx.1, hx.2.1⟩
      have r2 := read_d _ hbs (by rw [List.length_set]; omega)
      refine Ev.step (f := fun k => (delta_Read.f k ((p ++ sb (cs p)).set i (Go.bits .xor .u8 (p ++ sb (cs p))[i] c))).bind fun bt => if c = 0 then (remoralaw08_awake.f).bind fun t => some t else if bt.2 = 6 then (remoralaw08_awake.f).bind fun t => some t else none) (fun k => ?_) (Ev.bind r2 ?_)
      · simp only [remoralaw08_DeltaBack.j0]
        rw [if_neg (by simp), if_neg (by omega)]
        simp only [Option.bind_some, List.length_nil, Nat.zero_add, List.nil_append]
        rw [if_pos (by omega), hw, hm, if_pos (by omega), if_pos (by omega), Int.toNat_natCast, hrd]
      · by_cases h0 : c = 0
        · exact ev_pos h0 (ev_some rfl)
        · refine ev_neg h0 (ev_pos ?_ (ev_some rfl))
          have hbad := open_bad p hp1 i hi _ hx.1 hx.2.1 (hx.2.2 h0)
          unfold readF
          rw [hbad]
          rfl
    · have hF : bytesF l = ([], chkF 131072 l) := by unfold bytesF; rw [if_neg hk]
      rw [hF]
      refine ev_neg hk (ev_pos (by rfl) (Ev.bind (a := chkF 131072 l) ⟨l.length + 3, fun k hk => check_d 131072 l hn (by omega)⟩ (ev_pos rfl (ev_some rfl))))
  · exact ev_neg ht (ev_some rfl)

end Go.Proofs.YtifmajnhcbicnaaDoor.Pure
