/- From any cut on a text is cut as the rest alone; two texts that end alike are cut alike from a common cut on, for texts of at most 1,000 bytes each. Conditions: none. -/
import Derived.Test.YtpelnalhdpjabaaDoorPGearSamex3
namespace Go.Proofs.YtpelnalhdpjabaaDoor.Pure
open Go.RowKit Go.Proofs.YtpelnalhdpjabaaDoor.PGearSame Go.Proofs.YtpelnalhdpjabaaDoorW.PrintWords Go.Proofs.YtpelnalhdpjabaaDoorW.PrintLast Go.Proofs.YtpelnalhdpjabaaDoorW.PrintMore
set_option maxRecDepth 100000
theorem w64 (n : Int) (h0 : -9223372036854775808 ≤ n) (h1 : n ≤ 9223372036854775807) : wrap64 n = n := by unfold wrap64; omega
theorem wf8 {n : Int} (h : (Lit.int .u8 n).wf = true) : 0 ≤ n ∧ n < 256 := by
  have e0 : IntKind.u8.min = 0 := by decide
  have e1 : IntKind.u8.max = 255 := by decide
  simp [Lit.wf, e0, e1] at h
  omega
def gw (g c : Int) : Int := IntKind.u64.wrap (IntKind.u64.wrap (g * 2) + tabI c)
/-- From place i on, with sum g: where the piece ends. -/
def scan (least bits : Int) : Nat → Int → List Int → Nat
  | i, _, [] => i
  | i, g, c :: t => if least ≤ (i : Int) + 1 ∧ shr .u64 (gw g c) (64 - bits) = 0 then i + 1 else scan least bits (i + 1) (gw g c) t
theorem scan_nil (least bits : Int) (i : Nat) (g : Int) : scan least bits i g [] = i := by unfold scan; rfl
theorem scan_yes {least bits : Int} {i : Nat} {g c : Int} {t : List Int} (h : least ≤ (i : Int) + 1 ∧ shr .u64 (gw g c) (64 - bits) = 0) : scan least bits i g (c :: t) = i + 1 := by rw [scan, if_pos h]
theorem scan_no {least bits : Int} {i : Nat} {g c : Int} {t : List Int} (h : ¬ (least ≤ (i : Int) + 1 ∧ shr .u64 (gw g c) (64 - bits) = 0)) : scan least bits i g (c :: t) = scan least bits (i + 1) (gw g c) t := by rw [scan, if_neg h]
def okP (a b c : Int) : Prop := 1 ≤ a ∧ a ≤ b ∧ b ≤ 65536 ∧ 1 ≤ c ∧ c ≤ 16
def Bytes (l : List Int) : Prop := ∀ x ∈ l, 0 ≤ x ∧ x < 256
theorem check_ok {a b c : Int} (h : okP a b c) : gear_Check.f a b c = some 0 := by
  obtain ⟨h1, h2, h3, h4, h5⟩ := h
  unfold gear_Check.f
  rw [if_neg (by omega), if_neg (by omega), if_neg (by omega), if_neg (by omega), if_neg (by omega)]
theorem check_no {a b c : Int} (h : ¬ okP a b c) : gear_Check.f a b c = some 2 := by
  unfold okP at h
  unfold gear_Check.f
  by_cases h1 : a < 1
  · rw [if_pos h1]
  rw [if_neg h1]
  by_cases h2 : a > b
  · rw [if_pos h2]
  rw [if_neg h2]
  by_cases h3 : b > 65536
  · rw [if_pos h3]
  rw [if_neg h3]
  by_cases h4 : c < 1
  · rw [if_pos h4]
  rw [if_neg h4, if_pos (by omega)]
theorem table_f {c : Int} (h : 0 ≤ c ∧ c < 256) : gear_Table.f c = some (tabI c) := by unfold gear_Table.f; rw [if_pos h.1, if_pos h.2]
theorem rd_drop {L : List Int} {i : Nat} (h : i < L.length) : L.drop i = rd L (i : Int) :: L.drop (i + 1) := by
  rw [List.drop_eq_getElem_cons h]
  unfold rd
  rw [Int.toNat_natCast, List.getD_eq_getElem?_getD, List.getElem?_eq_getElem h, Option.getD_some]
theorem rd_mem {L : List Int} {i : Nat} (h : i < L.length) : rd L (i : Int) ∈ L := by
  unfold rd
  rw [Int.toNat_natCast, List.getD_eq_getElem?_getD, List.getElem?_eq_getElem h, Option.getD_some]
  exact List.getElem_mem h
theorem next_loop (least most bits : Int) (hb : 1 ≤ bits ∧ bits ≤ 16) (L : List Int) (hL : Bytes L) (hn : L.length ≤ 70000) (d : Nat) : ∀ (k i : Nat) (g : Int), i + d = L.length → d < k →
    gear_Next.l0 k L g L (L.length : Int) (i : Int) least most bits = some ((scan least bits i g (L.drop i) : Nat) : Int) := by
  induction d with
  | zero =>
    intro k i g hd hk
    obtain ⟨k, rfl⟩ : ∃ m, k = m + 1 := ⟨k - 1, by omega⟩
    simp only [gear_Next.l0]
    rw [if_neg (by omega), List.drop_of_length_le (by omega), scan_nil]
    congr 1
    omega
  | succ d ih =>
    intro k i g hd hk
    obtain ⟨k, rfl⟩ : ∃ m, k = m + 1 := ⟨k - 1, by omega⟩
    have hi : i < L.length := by omega
    have e1 : wrap64 ((i : Int) + 1) = (i : Int) + 1 := w64 _ (by omega) (by omega)
    have e2 : wrap64 (64 - bits) = 64 - bits := w64 _ (by omega) (by omega)
    have e3 : ((i + 1 : Nat) : Int) = (i : Int) + 1 := by omega
    simp only [gear_Next.l0]
    rw [if_pos (by omega), if_pos (by omega), if_pos (by omega), table_f (hL _ (rd_mem hi)), rd_drop hi]
    rw [Option.bind_some, e1, e2]
    have hg : IntKind.u64.wrap (IntKind.u64.wrap (g * 2) + tabI (rd L (i : Int))) = gw g (rd L (i : Int)) := rfl
    rw [hg]
    by_cases h1 : (i : Int) + 1 ≥ least
    · rw [if_pos h1, if_pos (by omega)]
      by_cases h2 : shr .u64 (gw g (rd L (i : Int))) (64 - bits) = 0
      · rw [if_pos h2, scan_yes ⟨h1, h2⟩, e3]
      · rw [if_neg h2, scan_no (fun h => h2 h.2), ← e3]
        exact ih k (i + 1) _ (by omega) (by omega)
    · rw [if_neg h1, scan_no (fun h => h1 h.1), ← e3]
      exact ih k (i + 1) _ (by omega) (by omega)
/-- Where the first piece ends. -/
def nx (least most bits : Int) (l : List Int) : Nat := scan least bits 0 0 (l.take most.toNat)
theorem bytes_take {l : List Int} (h : Bytes l) (n : Nat) : Bytes (l.take n) := fun x hx => h x (List.mem_of_mem_take hx)
theorem bytes_drop {l : List Int} (h : Bytes l) (n : Nat) : Bytes (l.drop n) := fun x hx => h x (List.mem_of_mem_drop hx)
theorem next_of {least most bits : Int} (hp : okP least most bits) {l : List Int} (hl : Bytes l) (hn : l.length ≤ 70000) {k : Nat} (hk : l.length < k) : gear_Next.f k l least most bits = some ((nx least most bits l : Nat) : Int) := by
  obtain ⟨h1, h2, h3, h4, h5⟩ := hp
  have em : l.take (mn (l.length : Int) most).toNat = l.take most.toNat := by
    unfold mn
    by_cases h : most < (l.length : Int)
    · rw [if_pos h]
    · rw [if_neg h, Int.toNat_natCast, List.take_length, List.take_of_length_le (by omega)]
  have hm : 0 ≤ mn (l.length : Int) most ∧ mn (l.length : Int) most ≤ (l.length : Int) := by unfold mn; omega
  unfold gear_Next.f
  rw [check_ok ⟨h1, h2, h3, h4, h5⟩]; simp only [Option.bind_some]
  rw [if_pos trivial, if_pos hm.1, if_pos hm.2, em]
  have hlt : (l.take most.toNat).length ≤ l.length := List.length_take_le' ..
  have := next_loop least most bits ⟨h4, h5⟩ (l.take most.toNat) (bytes_take hl _) (by omega) (l.take most.toNat).length k 0 0 (by omega) (by omega)
  rw [List.drop_zero] at this
  exact this
theorem scan_bd (least bits : Int) (l : List Int) : ∀ (i : Nat) (g : Int), i ≤ scan least bits i g l ∧ scan least bits i g l ≤ i + l.length := by
  induction l with
  | nil => intro i g; rw [scan_nil]; simp
  | cons c t ih =>
    intro i g
    by_cases h : least ≤ (i : Int) + 1 ∧ shr .u64 (gw g c) (64 - bits) = 0
    · rw [scan_yes h, List.length_cons]; omega
    · rw [scan_no h, List.length_cons]
      have := ih (i + 1) (gw g c)
      omega
theorem nx_bd {a b c : Int} (hp : okP a b c) {l : List Int} (hl : 0 < l.length) : 1 ≤ nx a b c l ∧ nx a b c l ≤ l.length ∧ (nx a b c l : Int) ≤ b := by
  obtain ⟨h1, h2, h3, h4, h5⟩ := hp
  have hb := scan_bd a c (l.take b.toNat) 0 0
  have hlen : (l.take b.toNat).length = min b.toNat l.length := List.length_take
  unfold nx
  refine ⟨?_, by omega, by omega⟩
  obtain ⟨x, t, hx⟩ : ∃ x t, l.take b.toNat = x :: t := by
    cases h : l.take b.toNat with
    | nil => rw [h] at hlen; simp at hlen; omega
    | cons x t => exact ⟨x, t, rfl⟩
  rw [hx]
  by_cases h : a ≤ ((0 : Nat) : Int) + 1 ∧ shr .u64 (gw 0 x) (64 - c) = 0
  · rw [scan_yes h]; omega
  · rw [scan_no h]
    have := scan_bd a c t (0 + 1) (gw 0 x)
    omega
/-- The cuts from place p on. -/
def cutsN (a b c : Int) (L : List Int) : Nat → Nat → List Nat
  | 0, _ => []
  | f + 1, p => if p < L.length then (p + nx a b c (L.drop p)) :: cutsN a b c L f (p + nx a b c (L.drop p)) else []
def ints (l : List Nat) : List Int := l.map fun n : Nat => (n : Int)
theorem ints_len (l : List Nat) : (ints l).length = l.length := by unfold ints; rw [List.length_map]
theorem rd_ints {l : List Nat} {i : Nat} (h : i < l.length) : rd (ints l) (i : Int) = ((l[i] : Nat) : Int) := by
  unfold rd ints
  rw [Int.toNat_natCast, List.getD_eq_getElem?_getD, List.getElem?_map, List.getElem?_eq_getElem h]
  rfl
def Chain : Nat → Nat → List Nat → Prop
  | p, n, [] => p = n
  | p, n, t :: r => p < t ∧ t ≤ n ∧ Chain t n r
theorem chain_len : ∀ (l : List Nat) (p n : Nat), Chain p n l → p + l.length ≤ n
  | [], p, n, h => by have : p = n := h; simp; omega
  | t :: r, p, n, h => by
    obtain ⟨h1, h2, h3⟩ := h
    have := chain_len r t n h3
    rw [List.length_cons]; omega
theorem chain_cuts {a b c : Int} (hp : okP a b c) (L : List Int) : ∀ (f p : Nat), p ≤ L.length → L.length ≤ p + f → Chain p L.length (cutsN a b c L f p)
  | 0, p, h1, h2 => by show p = L.length; omega
  | f + 1, p, h1, h2 => by
    unfold cutsN
    by_cases h : p < L.length
    · rw [if_pos h]
      have hb := nx_bd hp (l := L.drop p) (by rw [List.length_drop]; omega)
      rw [List.length_drop] at hb
      exact ⟨by omega, by omega, chain_cuts hp L f _ (by omega) (by omega)⟩
    · rw [if_neg h]; show p = L.length; omega
theorem cuts_loop {a b c : Int} (hp : okP a b c) (L : List Int) (hB : Bytes L) (hn : L.length ≤ 70000) : ∀ (f k p : Nat) (out : List Int), p ≤ L.length → L.length ≤ p + f → f + L.length + 1 < k → out.length ≤ p →
    gear_Cuts.l0 k L out (p : Int) a b c = some (out ++ ints (cutsN a b c L f p), 0)
  | 0, k, p, out, h1, h2, h3, h4 => by
    obtain ⟨k, rfl⟩ : ∃ m, k = m + 1 := ⟨k - 1, by omega⟩
    rw [gear_Cuts.l0.eq_2, if_neg (by omega)]
    simp [cutsN, ints]
  | f + 1, k, p, out, h1, h2, h3, h4 => by
    obtain ⟨k, rfl⟩ : ∃ m, k = m + 1 := ⟨k - 1, by omega⟩
    by_cases h : p < L.length
    · have hb := nx_bd hp (l := L.drop p) (by rw [List.length_drop]; omega)
      have hd : (L.drop p).length = L.length - p := List.length_drop
      have e : (p : Int) + ((nx a b c (L.drop p) : Nat) : Int) = ((p + nx a b c (L.drop p) : Nat) : Int) := by omega
      rw [gear_Cuts.l0.eq_2, if_pos (by omega), if_pos (by omega), if_pos (by omega), Int.toNat_natCast, next_of hp (bytes_drop hB p) (by omega) (by omega), Option.bind_some, if_pos (by omega), w64 _ (by omega) (by omega), e, cuts_loop hp L hB hn f k _ _ (by omega) (by omega) (by omega) (by rw [List.length_append]; simp; omega)]
      simp [cutsN, ints, h]
    · rw [gear_Cuts.l0.eq_2, if_neg (by omega)]
      simp [cutsN, ints, h]
def cutsOf (a b c : Int) (L : List Int) : List Nat := cutsN a b c L L.length 0
theorem cuts_of {a b c : Int} (hp : okP a b c) {L : List Int} (hB : Bytes L) (hn : L.length ≤ 65536) {k : Nat} (hk : 2 * L.length + 1 < k) : gear_Cuts.f k L a b c = some (ints (cutsOf a b c L), 0) := by
  unfold gear_Cuts.f
  rw [check_ok hp, Option.bind_some, if_pos rfl, if_neg (by omega)]
  exact cuts_loop hp L hB (by omega) L.length k 0 [] (by omega) (by omega) (by omega) (by simp)
theorem cuts_bad {a b c : Int} (hp : ¬ okP a b c) (L : List Int) (k : Nat) : gear_Cuts.f k L a b c = some ([], 2) := by
  unfold gear_Cuts.f
  rw [check_no hp, Option.bind_some, if_neg (by decide)]
theorem chain_of {a b c : Int} (hp : okP a b c) (L : List Int) : Chain 0 L.length (cutsOf a b c L) := chain_cuts hp L L.length 0 (by omega) (by omega)
theorem cutsN_fuel {a b c : Int} (hp : okP a b c) (L : List Int) : ∀ (f f' p : Nat), p ≤ L.length → L.length ≤ p + f → L.length ≤ p + f' → cutsN a b c L f p = cutsN a b c L f' p
  | 0, 0, p, _, _, _ => rfl
  | 0, f' + 1, p, h1, h2, _ => by rw [cutsN, cutsN, if_neg (by omega)]
  | f + 1, 0, p, h1, _, h3 => by rw [cutsN, cutsN, if_neg (by omega)]
  | f + 1, f' + 1, p, h1, h2, h3 => by
    rw [cutsN, cutsN]
    by_cases h : p < L.length
    · have hb := nx_bd hp (l := L.drop p) (by rw [List.length_drop]; omega)
      rw [List.length_drop] at hb
      rw [if_pos h, if_pos h, cutsN_fuel hp L f f' _ (by omega) (by omega) (by omega)]
    · rw [if_neg h, if_neg h]
theorem cutsN_shift (a b c : Int) (L : List Int) (t : Nat) (ht : t ≤ L.length) : ∀ (f p : Nat), cutsN a b c L f (t + p) = (cutsN a b c (L.drop t) f p).map (· + t)
  | 0, p => by simp [cutsN]
  | f + 1, p => by
    rw [cutsN, cutsN, List.length_drop, List.drop_drop]
    by_cases h : t + p < L.length
    · rw [if_pos h, if_pos (by omega), List.map_cons, Nat.add_assoc, cutsN_shift a b c L t ht f (p + nx a b c (L.drop (t + p))), show t + (p + nx a b c (L.drop (t + p))) = p + nx a b c (L.drop (t + p)) + t by omega]
    · rw [if_neg h, if_neg (by omega), List.map_nil]
theorem cutsN_from {a b c : Int} (hp : okP a b c) (L : List Int) : ∀ (i f p : Nat) (h : i < (cutsN a b c L f p).length), p ≤ L.length → L.length ≤ p + f →
    (cutsN a b c L f p)[i] ≤ L.length ∧ L.length ≤ (cutsN a b c L f p)[i] + (f - (i + 1)) ∧ (cutsN a b c L f p).drop (i + 1) = cutsN a b c L (f - (i + 1)) (cutsN a b c L f p)[i]
  | i, 0, p, h, _, _ => by simp [cutsN] at h
  | i, f + 1, p, h, h1, h2 => by
    by_cases hl : p < L.length
    · have hb := nx_bd hp (l := L.drop p) (by rw [List.length_drop]; omega)
      rw [List.length_drop] at hb
      have e : cutsN a b c L (f + 1) p = (p + nx a b c (L.drop p)) :: cutsN a b c L f (p + nx a b c (L.drop p)) := by rw [cutsN, if_pos hl]
      simp only [e] at h ⊢
      cases i with
      | zero => exact ⟨by simp; omega, by simp; omega, by simp⟩
      | succ i =>
        have ih := cutsN_from hp L i f (p + nx a b c (L.drop p)) (by simpa using h) (by omega) (by omega)
        simp only [List.getElem_cons_succ, List.drop_succ_cons]
        rw [show f + 1 - (i + 1 + 1) = f - (i + 1) by omega]
        exact ih
    · have e : cutsN a b c L (f + 1) p = [] := by rw [cutsN, if_neg hl]
      simp only [e] at h
      simp at h
/-- From a cut on a text is cut as the rest alone. -/
theorem cuts_rest {a b c : Int} (hp : okP a b c) (L : List Int) (i : Nat) (h : i < (cutsOf a b c L).length) : (cutsOf a b c L)[i] ≤ L.length ∧ (cutsOf a b c L).drop (i + 1) = (cutsOf a b c (L.drop (cutsOf a b c L)[i])).map (· + (cutsOf a b c L)[i]) := by
  obtain ⟨h1, h2, h3⟩ := cutsN_from hp L i L.length 0 h (by omega) (by omega)
  refine ⟨h1, ?_⟩
  obtain ⟨t, ht⟩ : ∃ t, t = (cutsOf a b c L)[i] := ⟨_, rfl⟩
  have h3' : (cutsOf a b c L).drop (i + 1) = cutsN a b c L (L.length - (i + 1)) t := by rw [ht]; exact h3
  have h2' : L.length ≤ t + (L.length - (i + 1)) := by rw [ht]; exact h2
  have h1' : t ≤ L.length := by rw [ht]; exact h1
  rw [h3', ← ht]
  have hs := cutsN_shift a b c L t h1' (L.drop t).length 0
  rw [Nat.add_zero] at hs
  unfold cutsOf
  rw [← hs, List.length_drop]
  exact cutsN_fuel hp L _ _ t h1' h2' (by omega)
theorem ints_nil : ints [] = [] := rfl
theorem place_loop (C : List Nat) (hC : C.length ≤ 70000) (at_ : Nat) (d : Nat) : ∀ (k i : Nat), i + d = C.length → d < k → ∃ r : Int, remoralaw11_place.l0 k (ints C) (at_ : Int) (i : Int) = some r ∧ (r < 0 ∨ ∃ j : Nat, r = (j : Int) ∧ 0 < j ∧ j ≤ C.length ∧ C[j - 1]? = some at_) := by
  induction d with
  | zero =>
    intro k i hd hk
    obtain ⟨k, rfl⟩ : ∃ m, k = m + 1 := ⟨k - 1, by omega⟩
    exact ⟨-1, by rw [remoralaw11_place.l0.eq_2, ints_len, if_neg (by omega)], .inl (by omega)⟩
  | succ d ih =>
    intro k i hd hk
    obtain ⟨k, rfl⟩ : ∃ m, k = m + 1 := ⟨k - 1, by omega⟩
    have hi : i < C.length := by omega
    have e : Aside0 (wrap64 ((i : Int) + 1) = ((i + 1 : Nat) : Int)) := Aside0.mk (by rw [w64 _ (by omega) (by omega)]; omega)
    by_cases h : C[i] = at_
    · refine ⟨((i + 1 : Nat) : Int), ?_, .inr ⟨i + 1, rfl, by omega, by omega, ?_⟩⟩
      · rw [remoralaw11_place.l0.eq_2, ints_len, if_pos (by omega), if_pos (by omega), rd_ints hi, if_pos (by omega), e.out]
      · rw [Nat.add_sub_cancel, List.getElem?_eq_getElem hi, h]
    · obtain ⟨r, h1, h2⟩ := ih k (i + 1) (by omega) (by omega)
      refine ⟨r, ?_, h2⟩
      rw [remoralaw11_place.l0.eq_2, ints_len, if_pos (by omega), if_pos (by omega), rd_ints hi, if_neg (by omega), e.out]
      exact h1
theorem place_of {a b c : Int} (hp : okP a b c) (s t : List Int) (hn : (s ++ t).length ≤ 65536) {k : Nat} (hk : (s ++ t).length < k) :
    ∃ r : Int, remoralaw11_place.f k (ints (cutsOf a b c (s ++ t))) (s.length : Int) = some r ∧ (r < 0 ∨ ∃ j : Nat, r = (j : Int) ∧ j ≤ (cutsOf a b c (s ++ t)).length ∧ (cutsOf a b c (s ++ t)).drop j = (cutsOf a b c t).map (· + s.length)) := by
  have hle := chain_len _ _ _ (chain_of hp (s ++ t))
  unfold remoralaw11_place.f
  by_cases h0 : s.length = 0
  · refine ⟨0, by rw [if_pos (by omega)], .inr ⟨0, rfl, Nat.zero_le _, ?_⟩⟩
    have : s = [] := List.length_eq_zero_iff.1 h0
    subst this
    simp
  · rw [if_neg (by omega)]
    obtain ⟨r, h1, h2⟩ := place_loop (cutsOf a b c (s ++ t)) (by omega) s.length (cutsOf a b c (s ++ t)).length k 0 (by omega) (by omega)
    refine ⟨r, h1, ?_⟩
    rcases h2 with h2 | ⟨j, rfl, hj0, hj1, hj2⟩
    · exact .inl h2
    · refine .inr ⟨j, rfl, hj1, ?_⟩
      have hlt : j - 1 < (cutsOf a b c (s ++ t)).length := by omega
      rw [List.getElem?_eq_getElem hlt] at hj2
      have e := Option.some.inj hj2
      obtain ⟨_, h3⟩ := cuts_rest hp (s ++ t) (j - 1) hlt
      rw [show j - 1 + 1 = j by omega, e, List.drop_left] at h3
      exact h3
theorem rd_drop_map {C B : List Nat} {j s n : Nat} (h : C.drop j = B.map (· + s)) (hn : n < B.length) : j + n < C.length ∧ rd (ints C) ((j + n : Nat) : Int) = ((B[n] + s : Nat) : Int) := by
  have h1 : (C.drop j)[n]? = some (B[n] + s) := by rw [h, List.getElem?_map, List.getElem?_eq_getElem hn]; rfl
  rw [List.getElem?_drop] at h1
  obtain ⟨h2, h3⟩ := List.getElem?_eq_some_iff.1 h1
  exact ⟨h2, by rw [rd_ints h2, h3]⟩
theorem map_len {C B : List Nat} {j s : Nat} (h : C.drop j = B.map (· + s)) : C.length - j = B.length := by
  have := congrArg List.length h
  rwa [List.length_drop, List.length_map] at this
theorem l2_loop (Cx Cy B : List Nat) (s t : List Int) (i j : Nat) (hx : Cx.drop i = B.map (· + s.length)) (hy : Cy.drop j = B.map (· + t.length)) (hi : i ≤ Cx.length) (hCx : Cx.length ≤ 70000) (hCy : Cy.length ≤ 70000) (hB : ∀ n (h : n < B.length), B[n] ≤ 70000) (_hs : s.length ≤ 70000) (_ht : t.length ≤ 70000) (d : Nat) : ∀ (k n : Nat), n + d = B.length → d < k →
    remoralaw11_GearSame.l2 k (ints Cx) (ints Cy) (i : Int) (j : Int) (n : Int) s t = some true := by
  have hlx := map_len hx
  have hly := map_len hy
  induction d with
  | zero =>
    intro k n hd hk
    obtain ⟨k, rfl⟩ : ∃ m, k = m + 1 := ⟨k - 1, by omega⟩
    have e1 : Aside0 (wrap64 ((i : Int) + (n : Int)) = ((i + n : Nat) : Int)) := Aside0.mk (by rw [w64 _ (by omega) (by omega)]; omega)
    rw [remoralaw11_GearSame.l2.eq_2, e1.out, ints_len, if_neg (by omega)]
    rfl
  | succ d ih =>
    intro k n hd hk
    obtain ⟨k, rfl⟩ : ∃ m, k = m + 1 := ⟨k - 1, by omega⟩
    have hnB : n < B.length := by omega
    have hBn := hB n hnB
    obtain ⟨q1, r1⟩ := rd_drop_map hx hnB
    obtain ⟨q2, r2⟩ := rd_drop_map hy hnB
    have e1 : Aside0 (wrap64 ((i : Int) + (n : Int)) = ((i + n : Nat) : Int)) := Aside0.mk (by rw [w64 _ (by omega) (by omega)]; omega)
    have e2 : Aside0 (wrap64 ((j : Int) + (n : Int)) = ((j + n : Nat) : Int)) := Aside0.mk (by rw [w64 _ (by omega) (by omega)]; omega)
    have e3 : Aside0 (wrap64 ((n : Int) + 1) = ((n + 1 : Nat) : Int)) := Aside0.mk (by rw [w64 _ (by omega) (by omega)]; omega)
    have e4 : Aside0 (wrap64 (((B[n] + s.length : Nat) : Int) - (s.length : Int)) = ((B[n] : Nat) : Int)) := Aside0.mk (by rw [w64 _ (by omega) (by omega)]; omega)
    have e5 : Aside0 (wrap64 (((B[n] + t.length : Nat) : Int) - (t.length : Int)) = ((B[n] : Nat) : Int)) := Aside0.mk (by rw [w64 _ (by omega) (by omega)]; omega)
    rw [remoralaw11_GearSame.l2.eq_2, e1.out, e2.out, ints_len, ints_len, if_pos (by omega), if_pos (by omega), if_pos (by omega), if_pos (by omega), r1, r2, e4.out, e5.out, if_pos rfl, e3.out]
    exact ih k (n + 1) (by omega) (by omega)
theorem j6_true (k : Nat) (x y : List Int) (p q : Int) (s t : List Int) : remoralaw11_GearSame.j6 (k + 1) x y p q true s t = some true := by
  rw [remoralaw11_GearSame.j6.eq_2, if_pos rfl]; rfl
/-- The rest's cuts, one by one. -/
theorem l1_loop (x : List Int) (C m R : List Nat) (i K : Nat) (hi : i < C.length) (hR : C.drop (i + 1) = R.map (· + C[i])) (hC : C.length ≤ 70000) (hb : ∀ n (h : n < C.length), C[n] ≤ 70000) (s t : List Int) (a b c : Int) (d : Nat) : ∀ (k : Nat), k + d = R.length →
    remoralaw11_GearSame.l1 (K + d + 1) x (ints C) (ints m) (i : Int) (ints R) (k : Int) s t a b c = remoralaw11_GearSame.l0 K x (ints C) (ints m) ((i + 1 : Nat) : Int) s t a b c := by
  have hl := map_len hR
  induction d with
  | zero =>
    intro k hd
    have e : Aside0 (wrap64 ((i : Int) + 1) = ((i + 1 : Nat) : Int)) := Aside0.mk (by rw [w64 _ (by omega) (by omega)]; omega)
    rw [remoralaw11_GearSame.l1.eq_2, ints_len, if_neg (by omega), e.out]
  | succ d ih =>
    intro k hd
    have hkR : k < R.length := by omega
    obtain ⟨q1, r1⟩ := rd_drop_map hR hkR
    have hbb := hb (i + 1 + k) q1
    have hv : C[i + 1 + k] = R[k] + C[i] := by
      rw [rd_ints q1] at r1
      omega
    have e1 : Aside0 (wrap64 (wrap64 ((i : Int) + 1) + (k : Int)) = ((i + 1 + k : Nat) : Int)) := Aside0.mk (by rw [w64 ((i : Int) + 1) (by omega) (by omega), w64 _ (by omega) (by omega)]; omega)
    have e2 : Aside0 (wrap64 (((R[k] : Nat) : Int) + ((C[i] : Nat) : Int)) = ((R[k] + C[i] : Nat) : Int)) := Aside0.mk (by rw [w64 _ (by omega) (by omega)]; omega)
    have e3 : Aside0 (wrap64 ((k : Int) + 1) = ((k + 1 : Nat) : Int)) := Aside0.mk (by rw [w64 _ (by omega) (by omega)]; omega)
    rw [show K + (d + 1) + 1 = (K + d + 1) + 1 by omega, remoralaw11_GearSame.l1.eq_2, e1.out, ints_len, ints_len, if_pos (by omega), if_pos (by omega), if_pos (by omega), if_pos (by omega), if_pos (by omega), if_pos (by omega), rd_ints hkR, rd_ints hi, r1, e2.out, if_pos rfl, e3.out]
    exact ih (k + 1) (by omega)
theorem chain_le : ∀ (l : List Nat) (p n : Nat), Chain p n l → ∀ i (h : i < l.length), l[i] ≤ n
  | [], _, _, _, i, h => by simp at h
  | t :: r, p, n, hc, i, h => by
    obtain ⟨h1, h2, h3⟩ := hc
    cases i with
    | zero => exact h2
    | succ i => exact chain_le r t n h3 i (by simpa using h)
theorem l0_loop {a b c : Int} (hp : okP a b c) (s t u : List Int) (hBs : Bytes s) (hBu : Bytes u) (hs : s.length ≤ 1000) (ht : t.length ≤ 1000) (hu : u.length ≤ 1000) (d : Nat) : ∀ (k i : Nat), i + d = (cutsOf a b c (s ++ u)).length → 2010 * d + 5000 ≤ k →
    remoralaw11_GearSame.l0 k (s ++ u) (ints (cutsOf a b c (s ++ u))) (ints (cutsOf a b c (t ++ u))) (i : Int) s t a b c = some true := by
  have hx : (s ++ u).length ≤ 2000 := by rw [List.length_append]; omega
  have hy : (t ++ u).length ≤ 2000 := by rw [List.length_append]; omega
  have hcx := chain_len _ _ _ (chain_of hp (s ++ u))
  have hcy := chain_len _ _ _ (chain_of hp (t ++ u))
  have hbx := chain_le _ _ _ (chain_of hp (s ++ u))
  have hbu := chain_le _ _ _ (chain_of hp u)
  have hBx : Bytes (s ++ u) := fun z hz => by
    rcases List.mem_append.1 hz with h | h
    · exact hBs z h
    · exact hBu z h
  induction d with
  | zero =>
    intro k i hd hk
    obtain ⟨k, rfl⟩ : ∃ m, k = m + 1 := ⟨k - 1, by omega⟩
    obtain ⟨r1, p1, q1⟩ := place_of hp s u (by omega) (k := k) (by omega)
    obtain ⟨r2, p2, q2⟩ := place_of hp t u (by omega) (k := k) (by omega)
    rw [remoralaw11_GearSame.l0.eq_2, ints_len, if_neg (by omega), p1, Option.bind_some, p2, Option.bind_some]
    obtain ⟨k, rfl⟩ : ∃ m, k = m + 1 := ⟨k - 1, by omega⟩
    by_cases h1 : r1 < 0
    · rw [if_pos h1]; exact j6_true _ _ _ _ _ _ _
    rw [if_neg h1]
    by_cases h2 : r2 < 0
    · rw [decide_eq_true h2]; exact j6_true _ _ _ _ _ _ _
    rw [decide_eq_false h2]
    rcases q1 with q1 | ⟨j1, rfl, hj1, q1⟩
    · omega
    rcases q2 with q2 | ⟨j2, rfl, hj2, q2⟩
    · omega
    have hl1 := map_len q1
    have hl2 := map_len q2
    have e1 : Aside0 (wrap64 (((cutsOf a b c (s ++ u)).length : Int) - (j1 : Int)) = ((cutsOf a b c u).length : Int)) := Aside0.mk (by rw [w64 _ (by omega) (by omega)]; omega)
    have e2 : Aside0 (wrap64 (((cutsOf a b c (t ++ u)).length : Int) - (j2 : Int)) = ((cutsOf a b c u).length : Int)) := Aside0.mk (by rw [w64 _ (by omega) (by omega)]; omega)
    rw [remoralaw11_GearSame.j6.eq_2, if_neg (by decide), ints_len, ints_len, e1.out, e2.out, if_pos rfl]
    exact l2_loop _ _ (cutsOf a b c u) s t j1 j2 q1 q2 (by omega) (by omega) (by omega) (fun n h => by have := hbu n h; omega) (by omega) (by omega) (cutsOf a b c u).length k 0 (by omega) (by omega)
  | succ d ih =>
    intro k i hd hk
    have hi : i < (cutsOf a b c (s ++ u)).length := by omega
    obtain ⟨h1, h2⟩ := cuts_rest hp (s ++ u) i hi
    obtain ⟨v, hv⟩ : ∃ v, v = (cutsOf a b c (s ++ u))[i] := ⟨_, rfl⟩
    have hl := map_len h2
    rw [← hv] at h1 hl
    have hrd : rd (ints (cutsOf a b c (s ++ u))) (i : Int) = ((v : Nat) : Int) := by rw [rd_ints hi, hv]
    have hdl : ((s ++ u).drop v).length ≤ 2000 := by rw [List.length_drop]; omega
    obtain ⟨K, rfl⟩ : ∃ K, k = (K + (cutsOf a b c ((s ++ u).drop v)).length + 1 + 1 + 1) + 1 := ⟨k - (cutsOf a b c ((s ++ u).drop v)).length - 4, by omega⟩
    have ho : remoralaw11_Of.f a b c = some (a, b, c) := rfl
    have e1 : Aside0 (wrap64 (wrap64 (((cutsOf a b c (s ++ u)).length : Int) - (i : Int)) - 1) = ((cutsOf a b c ((s ++ u).drop v)).length : Int)) := Aside0.mk (by rw [w64 (((cutsOf a b c (s ++ u)).length : Int) - (i : Int)) (by omega) (by omega), w64 _ (by omega) (by omega)]; omega)
    rw [remoralaw11_GearSame.l0.eq_2, ints_len, if_pos (by omega), if_pos (by omega), hrd, if_neg (by omega), decide_eq_false (by omega), remoralaw11_GearSame.j3.eq_2, if_neg (by decide), if_pos (by omega), ints_len, if_pos (by omega), hrd, if_pos (by omega), if_pos (by omega), Int.toNat_natCast, ho, Option.bind_some, cuts_of hp (bytes_drop hBx v) (by omega) (by omega), Option.bind_some, if_pos rfl]
    show remoralaw11_GearSame.j4 (K + (cutsOf a b c ((s ++ u).drop v)).length + 1 + 1) (s ++ u) (ints (cutsOf a b c (s ++ u))) (ints (cutsOf a b c (t ++ u))) (i : Int) (ints (cutsOf a b c ((s ++ u).drop v))) (((ints (cutsOf a b c ((s ++ u).drop v))).length : Int) != (wrap64 ((wrap64 (((cutsOf a b c (s ++ u)).length : Int) - (i : Int))) - 1))) s t a b c = some true
    rw [e1.out, ints_len, bne_self_eq_false, remoralaw11_GearSame.j4.eq_2, if_neg (by decide)]
    have hl1 := l1_loop (s ++ u) (cutsOf a b c (s ++ u)) (cutsOf a b c (t ++ u)) (cutsOf a b c ((s ++ u).drop v)) i K hi (by rw [hv]; exact h2) (by omega) (fun n h => by have := hbx n h; omega) s t a b c (cutsOf a b c ((s ++ u).drop v)).length 0 (by omega)
    rw [show ((0 : Nat) : Int) = 0 from rfl] at hl1
    rw [hl1]
    exact ih K (i + 1) (by omega) (by omega)

theorem GearSame : remoralaw11_GearSame.Pure := by
  intro s t u a b c hls hlt hlu _ _ _ _
  obtain ⟨k, hk⟩ : ∃ k, 2010 * 2000 + 6000 ≤ k := ⟨_, Nat.le_refl _⟩
  refine ⟨k + 1 + 1, ?_⟩
  have hBs : Bytes s := fun x hx => wf8 (hls.2 x hx)
  have hBt : Bytes t := fun x hx => wf8 (hlt.2 x hx)
  have hBu : Bytes u := fun x hx => wf8 (hlu.2 x hx)
  have j0t : remoralaw11_GearSame.j0 (k + 1 + 1) u true s t a b c = some true := by
    rw [remoralaw11_GearSame.j0.eq_2, if_pos rfl]; rfl
  unfold remoralaw11_GearSame.f
  by_cases h1 : (s.length : Int) > 1000
  · rw [if_pos h1]; exact j0t
  rw [if_neg h1]
  by_cases h2 : (t.length : Int) > 1000
  · rw [if_pos h2]; exact j0t
  rw [if_neg h2]
  by_cases h3 : (u.length : Int) > 1000
  · rw [if_pos h3]; exact j0t
  rw [if_neg h3]
  by_cases hp : okP a b c
  · have hr : remoraref11_Check.f a b c = some 0 := check_ok hp
    have ho : remoralaw11_Of.f a b c = some (a, b, c) := rfl
    have hBx : Bytes (s ++ u) := fun z hz => by
      rcases List.mem_append.1 hz with h | h
      · exact hBs z h
      · exact hBu z h
    have hBy : Bytes (t ++ u) := fun z hz => by
      rcases List.mem_append.1 hz with h | h
      · exact hBt z h
      · exact hBu z h
    have hx : (s ++ u).length ≤ 2000 := by rw [List.length_append]; omega
    have hy : (t ++ u).length ≤ 2000 := by rw [List.length_append]; omega
    have hcx := chain_len _ _ _ (chain_of hp (s ++ u))
    have n0 : ([] : List Int).length = 0 := rfl
    rw [hr, Option.bind_some, show ((0 : Int) != 0) = false from rfl, remoralaw11_GearSame.j0.eq_2, if_neg (by decide), Option.bind_some, n0, if_pos (by omega), Option.bind_some, List.nil_append, if_pos (by omega), Option.bind_some, Option.bind_some, n0, if_pos (by omega), Option.bind_some, List.nil_append, if_pos (by omega), ho, Option.bind_some, cuts_of hp hBx (by omega) (by omega), Option.bind_some, Option.bind_some, cuts_of hp hBy (by omega) (by omega), Option.bind_some, if_pos rfl]
    show remoralaw11_GearSame.j1 (k + 1) (s ++ u) (ints (cutsOf a b c (s ++ u))) (ints (cutsOf a b c (t ++ u))) false s t a b c = some true
    rw [remoralaw11_GearSame.j1.eq_2, if_neg (by decide)]
    exact l0_loop hp s t u hBs hBu (by omega) (by omega) (by omega) (cutsOf a b c (s ++ u)).length k 0 (by omega) (by omega)
  · have hr : remoraref11_Check.f a b c = some 2 := check_no hp
    rw [hr, Option.bind_some, show ((2 : Int) != 0) = true from rfl]; exact j0t

end Go.Proofs.YtpelnalhdpjabaaDoor.Pure
