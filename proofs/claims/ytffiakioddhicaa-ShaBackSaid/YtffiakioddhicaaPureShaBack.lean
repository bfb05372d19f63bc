/- The plain law of ShaBack: what the printed functions compute answers true, for all arguments within the bounds of the row. -/
import Derived.Test.YtffiakioddhicaaPShaBackx4
namespace Go.Proofs.Ytffiakioddhicaa.Pure
open Go.RowKit Go.Proofs.Ytffiakioddhicaa.PShaBack Go.Proofs.YtffiakioddhicaaW.PrintWords Go.Proofs.YtffiakioddhicaaW.PrintLast
set_option linter.unusedVariables false
theorem wf8 {n : Int} (h : (Lit.int .u8 n).wf = true) : 0 ≤ n ∧ n < 256 := by
  have e0 : IntKind.u8.min = 0 := by decide
  have e1 : IntKind.u8.max = 255 := by decide
  simp [Lit.wf, e0, e1] at h
  omega
theorem byte_wf {n : Int} (h : (Lit.int .u8 n).wf = true) : 0 ≤ n ∧ n ≤ 255 := by have := wf8 h; omega
theorem bytes_back (l : List Int) (h : ∀ x ∈ l, 0 ≤ x ∧ x ≤ 255) : bytesOf (strOfNums l) = l := by
  unfold bytesOf
  rw [strOfNums_data, List.map_map]
  refine (List.map_congr_left (g := id) (fun x hx => ?_)).trans (List.map_id l)
  obtain ⟨h0, h1⟩ := h x hx
  show ((UInt8.ofNat x.toNat).toNat : Int) = x
  rw [UInt8.toNat_ofNat']
  omega
theorem str_back (s : ByteArray) : strOfNums (bytesOf s) = s := by
  obtain ⟨⟨l⟩⟩ := s
  unfold strOfNums bytesOf
  congr 1
  congr 1
  rw [List.map_map]
  refine (List.map_congr_left (g := id) (fun x _ => ?_)).trans (List.map_id l)
  show UInt8.ofNat ((x.toNat : Int)).toNat = x
  simp
theorem bytes_all (s : ByteArray) : ∀ x ∈ bytesOf s, 0 ≤ x ∧ x ≤ 255 := by
  intro x hx
  unfold bytesOf at hx
  obtain ⟨b, _, rfl⟩ := List.mem_map.1 hx
  have := b.toNat_lt
  omega
theorem bt_bytes (s : ByteArray) (i : Nat) : bt s (i : Int) = (bytesOf s)[i]?.getD 0 := by
  rw [← rd_bytesOf]
  unfold rd
  rw [Int.toNat_natCast, List.getD_eq_getElem?_getD]
def DG : ByteArray := ⟨#[48, 49, 50, 51, 52, 53, 54, 55, 56, 57, 97, 98, 99, 100, 101, 102]⟩
theorem dg_dv : ∀ q : Nat, q < 16 → dv (bt DG (q : Int)) = (q : Int) ∧ 0 ≤ bt DG (q : Int) ∧ bt DG (q : Int) ≤ 255 := by decide +kernel
theorem dv_dg : ∀ c : Nat, c < 256 → dv (c : Int) ≤ 15 → bt DG (dv (c : Int)) = (c : Int) := by decide +kernel
theorem quo_nat (q : Nat) (h : q < 256) : IntKind.u8.wrap (Int.tdiv (q : Int) 16) = ((q / 16 : Nat) : Int) ∧ Int.tmod (q : Int) 16 = ((q % 16 : Nat) : Int) := by
  rw [IntKind.wrap_u8, Int.tdiv_eq_ediv_of_nonneg (by omega), Int.tmod_eq_emod_of_nonneg (by omega)]
  omega
/-- The digits of bytes, one by one. -/
theorem txtN_at (b : List Int) : ∀ (m i : Nat), i < m → (txtN b m)[2 * i]?.getD 0 = bt DG (IntKind.u8.wrap (Int.tdiv (b[i]?.getD 0) 16)) ∧ (txtN b m)[2 * i + 1]?.getD 0 = bt DG (Int.tmod (b[i]?.getD 0) 16)
  | m + 1, i, h => by
    have hl := txtN_len b m
    rw [txtN]
    by_cases he : i = m
    · subst he
      rw [List.getElem?_append_right (by omega), List.getElem?_append_right (by omega), hl, show 2 * i - 2 * i = 0 by omega, show 2 * i + 1 - 2 * i = 1 by omega]
      exact ⟨rfl, rfl⟩
    · rw [List.getElem?_append_left (by omega), List.getElem?_append_left (by omega)]
      exact txtN_at b m i (by omega)
theorem txtN_bytes (b : List Int) (hb : ∀ i : Nat, 0 ≤ b[i]?.getD 0 ∧ b[i]?.getD 0 ≤ 255) : ∀ m, ∀ x ∈ txtN b m, 0 ≤ x ∧ x ≤ 255
  | 0, x, hx => by simp [txtN] at hx
  | m + 1, x, hx => by
    rw [txtN] at hx
    rcases List.mem_append.1 hx with h | h
    · exact txtN_bytes b hb m x h
    · obtain ⟨q, hq⟩ := Int.eq_ofNat_of_zero_le (hb m).1
      have h1 := (hb m).2
      rw [hq] at h1 h
      obtain ⟨e1, e2⟩ := quo_nat q (by omega)
      rw [e1, e2] at h
      rcases List.mem_cons.1 h with rfl | h
      · exact (dg_dv (q / 16) (by omega)).2
      · obtain rfl := List.mem_singleton.1 h
        exact (dg_dv (q % 16) (by omega)).2
theorem opt_range {b : List Int} (h : ∀ x ∈ b, 0 ≤ x ∧ x ≤ 255) (i : Nat) : 0 ≤ b[i]?.getD 0 ∧ b[i]?.getD 0 ≤ 255 := by
  rcases Nat.lt_or_ge i b.length with hi | hi
  · rw [List.getElem?_eq_getElem hi]; exact h _ (List.getElem_mem hi)
  · rw [List.getElem?_eq_none hi]; simp
/-- What Parse reads of the digits of 32 bytes. -/
theorem parse_text (b : List Int) (hb : ∀ x ∈ b, 0 ≤ x ∧ x ≤ 255) (hl : b.length = 32) : sha_Parse.f (strOfNums (txtN b 32)) = some (strOfNums b, 0) := by
  have hr := opt_range hb
  have hT := bytes_back (txtN b 32) (txtN_bytes b hr 32)
  obtain ⟨T, hTT⟩ : ∃ T, T = strOfNums (txtN b 32) := ⟨_, rfl⟩
  have hsz : T.size = 64 := by rw [hTT, strOfNums_size, txtN_len]
  rw [← hTT] at hT ⊢
  have hp : ∀ i, i < 32 → pX T i = b[i]?.getD 0 / 16 ∧ pY T i = b[i]?.getD 0 % 16 := fun i hi => by
    unfold pX pY
    rw [bt_bytes, bt_bytes, hT, (txtN_at b 32 i hi).1, (txtN_at b 32 i hi).2]
    obtain ⟨q, hq⟩ := Int.eq_ofNat_of_zero_le (hr i).1
    have h1 := (hr i).2
    rw [hq] at h1 ⊢
    obtain ⟨e1, e2⟩ := quo_nat q (by omega)
    rw [e1, e2, (dg_dv (q / 16) (by omega)).1, (dg_dv (q % 16) (by omega)).1]
    exact ⟨by omega, by omega⟩
  have hg : pGood T 32 = true := by
    unfold pGood
    rw [List.all_eq_true]
    intro i hi
    have hi := List.mem_range.1 hi
    have h1 := hr i
    rw [(hp i hi).1, (hp i hi).2, Bool.and_eq_true]
    exact ⟨decide_eq_true (by omega), decide_eq_true (by omega)⟩
  have hprs : ∀ m, m ≤ 32 → prsN T m = b.take m ++ List.replicate (32 - m) 0 := fun m => by
    induction m with
    | zero => intro _; simp [prsN]
    | succ m ihm =>
      intro h
      have ih := ihm (by omega)
      have h1 := hr m
      have e : 16 * (b[m]?.getD 0 / 16) + b[m]?.getD 0 % 16 = b[m]?.getD 0 := by omega
      rw [prsN, ih, (hp m (by omega)).1, (hp m (by omega)).2, e, List.set_append_right _ _ (by rw [List.length_take]; omega), List.length_take, Nat.min_eq_left (by omega), Nat.sub_self, show 32 - m = (32 - (m + 1)) + 1 by omega, List.replicate_succ, List.set_cons_zero]
      have hm : m < b.length := by omega
      rw [List.take_succ_eq_append_getElem hm, List.getElem?_eq_getElem hm, List.append_assoc]
      rfl
  unfold sha_Parse.f
  rw [if_pos (by rw [hsz]; rfl), if_pos hg, hprs 32 (by omega), List.take_of_length_le (by omega)]
  simp
/-- What is read of digits has just these. -/
theorem text_parse (s : ByteArray) (hs : s.size = 64) (hg : pGood s 32 = true) : txtN (prsN s 32) 32 = bytesOf s ∧ (∀ x ∈ prsN s 32, 0 ≤ x ∧ x ≤ 255) := by
  have hgi : ∀ i, i < 32 → pX s i ≤ 15 ∧ pY s i ≤ 15 := fun i hi => by
    unfold pGood at hg
    have h1 := List.all_eq_true.1 hg i (List.mem_range.2 hi)
    rw [Bool.and_eq_true] at h1
    exact ⟨of_decide_eq_true h1.1, of_decide_eq_true h1.2⟩
  have hx0 : ∀ i, 0 ≤ pX s i ∧ 0 ≤ pY s i := fun i => ⟨(dv_range _).1, (dv_range _).1⟩
  have hprs : ∀ m, m ≤ 32 → ∀ i, (prsN s m)[i]?.getD 0 = if i < m then 16 * pX s i + pY s i else 0 := fun m => by
    induction m with
    | zero =>
      intro _ i
      rw [prsN, List.getElem?_replicate]
      split <;> rfl
    | succ m ihm =>
      intro h i
      rw [prsN]
      by_cases he : i = m
      · subst he
        rw [List.getElem?_set_self (by rw [prsN_len]; omega), if_pos (by omega)]
        rfl
      · rw [List.getElem?_set_ne (Ne.symm he), ihm (by omega) i]
        by_cases hi : i < m
        · rw [if_pos hi, if_pos (by omega)]
        · rw [if_neg hi, if_neg (by omega)]
  have hbytes : ∀ x ∈ prsN s 32, 0 ≤ x ∧ x ≤ 255 := by
    intro x hx
    obtain ⟨i, hi⟩ := List.getElem?_of_mem hx
    have h1 := hprs 32 (Nat.le_refl _) i
    rw [hi, Option.getD_some] at h1
    have h2 : i < 32 := by
      rcases Nat.lt_or_ge i 32 with h | h
      · exact h
      · rw [List.getElem?_eq_none (by rw [prsN_len]; exact h)] at hi; cases hi
    rw [if_pos h2] at h1
    have h3 := hgi i h2
    have h4 := hx0 i
    omega
  refine ⟨?_, hbytes⟩
  refine List.ext_getElem (by rw [txtN_len, bytesOf_len, hs]) (fun j h1 h2 => ?_)
  have hj : j < 64 := by rw [txtN_len] at h1; omega
  have key : (txtN (prsN s 32) 32)[j]?.getD 0 = (bytesOf s)[j]?.getD 0 := by
    have hi : j / 2 < 32 := by omega
    have hp := hprs 32 (Nat.le_refl _) (j / 2)
    rw [if_pos hi] at hp
    have h3 := hgi (j / 2) hi
    have h4 := hx0 (j / 2)
    obtain ⟨t1, t2⟩ := txtN_at (prsN s 32) 32 (j / 2) hi
    rw [hp] at t1 t2
    obtain ⟨X, hX⟩ := Int.eq_ofNat_of_zero_le h4.1
    obtain ⟨Y, hY⟩ := Int.eq_ofNat_of_zero_le h4.2
    rw [hX, hY] at t1 t2 h3
    have eq0 : 16 * (X : Int) + (Y : Int) = ((16 * X + Y : Nat) : Int) := by omega
    rw [eq0] at t1 t2
    obtain ⟨e1, e2⟩ := quo_nat (16 * X + Y) (by omega)
    rw [e1, show (16 * X + Y) / 16 = X by omega] at t1
    rw [e2, show (16 * X + Y) % 16 = Y by omega] at t2
    have hb1 := opt_range (bytes_all s) (2 * (j / 2))
    have hb2 := opt_range (bytes_all s) (2 * (j / 2) + 1)
    unfold pX at hX
    unfold pY at hY
    rw [bt_bytes] at hX hY
    obtain ⟨c1, hc1⟩ := Int.eq_ofNat_of_zero_le hb1.1
    obtain ⟨c2, hc2⟩ := Int.eq_ofNat_of_zero_le hb2.1
    rw [hc1] at hX hb1
    rw [hc2] at hY hb2
    have d1 := dv_dg c1 (by omega) (by rw [hX]; omega)
    have d2 := dv_dg c2 (by omega) (by rw [hY]; omega)
    rw [hX] at d1
    rw [hY] at d2
    rcases Nat.mod_two_eq_zero_or_one j with h0 | h0
    · rw [show j = 2 * (j / 2) by omega, t1, hc1, d1]
    · rw [show j = 2 * (j / 2) + 1 by omega, t2, hc2, d2]
  rw [List.getElem?_eq_getElem h1, List.getElem?_eq_getElem h2] at key
  exact key
theorem shaSum_bytes (l0 : List Int) : ∀ x ∈ shaSum l0, 0 ≤ x ∧ x ≤ 255 := by
  have hK : ∀ (x : Int) (O : List Int) (i k : Nat), (∀ y ∈ O, 0 ≤ y ∧ y ≤ 255) → ∀ y ∈ outK x O i k, 0 ≤ y ∧ y ≤ 255 := fun x O i k hO => by
    induction k with
    | zero => exact hO
    | succ k ih =>
      intro y hy
      rw [outK] at hy
      rcases List.mem_or_eq_of_mem_set hy with h | rfl
      · exact ih y h
      · omega
  have hT : ∀ (hs : List Int) (i : Nat), ∀ y ∈ outT hs i, 0 ≤ y ∧ y ≤ 255 := fun hs i => by
    induction i with
    | zero => intro y hy; rw [outT] at hy; obtain rfl := (List.mem_replicate.1 hy).2; omega
    | succ i ih => rw [outT]; exact hK _ _ _ _ ih
  exact hT _ _
theorem ShaBack : remoralaw03_ShaBack.Pure := by
  intro l0 a1 hl hm hs
  unfold remoralaw03_ShaBack.f
  by_cases hbig : (l0.length : Int) > 4000
  · rw [if_pos hbig]
    rfl
  · rw [if_neg hbig]
    have hsum : sha_Sum.f l0 = some (strOfNums (shaSum l0)) := by
      unfold sha_Sum.f
      rw [if_pos (by omega)]
    obtain ⟨b, hb⟩ : ∃ b, b = shaSum l0 := ⟨_, rfl⟩
    have hbl : b.length = 32 := by rw [hb]; exact shaSum_len l0
    have hbb : ∀ x ∈ b, 0 ≤ x ∧ x ≤ 255 := by rw [hb]; exact shaSum_bytes l0
    rw [← hb] at hsum
    clear hb
    have hsz : (strOfNums b).size = 32 := by rw [strOfNums_size, hbl]
    have htext : sha_Text.f (strOfNums b) = some (strOfNums (txtN b 32)) := by
      unfold sha_Text.f
      rw [if_pos (by omega), bytes_back b hbb, hsz]
    have hpars : sha_Parse.f (strOfNums (txtN b 32)) = some (strOfNums b, 0) := parse_text b hbb hbl
    rw [hsum, Option.bind_some, htext, Option.bind_some, hpars, Option.bind_some]
    have hp2 : ∃ y e, sha_Parse.f a1 = some (y, e) ∧ (e = 0 → y.size = 32 ∧ sha_Text.f y = some a1) := by
      unfold sha_Parse.f
      by_cases h64 : (a1.size : Int) = 64
      · rw [if_pos h64]
        by_cases hg : pGood a1 32 = true
        · rw [if_pos hg]
          refine ⟨_, _, rfl, fun _ => ?_⟩
          obtain ⟨t1, t2⟩ := text_parse a1 (by omega) hg
          have hz : (strOfNums (prsN a1 32)).size = 32 := by rw [strOfNums_size, prsN_len]
          refine ⟨hz, ?_⟩
          unfold sha_Text.f
          rw [if_pos (by omega), bytes_back _ t2, hz, t1, str_back]
        · rw [if_neg hg]
          exact ⟨_, _, rfl, fun h => by cases h⟩
      · rw [if_neg h64]
        exact ⟨_, _, rfl, fun h => by cases h⟩
    obtain ⟨y, e, hy, hye⟩ := hp2
    rw [hy, Option.bind_some, if_pos rfl, Option.bind_some, if_pos rfl, if_pos (by show ((strOfNums b).size : Int) = 32; omega)]
    by_cases he : e = 0
    · obtain ⟨z1, z2⟩ := hye he
      rw [if_pos he, z2, Option.bind_some, if_pos rfl, if_pos (by show (y.size : Int) = 32; omega)]
      rfl
    · rw [if_neg he]
      rfl
end Go.Proofs.Ytffiakioddhicaa.Pure
