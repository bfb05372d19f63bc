/- Two texts of one length that differ only more than 64 bytes ahead of the least length have their first cut alike, for any texts of at most 1,000 bytes. Conditions: none. -/
import Derived.Test.YtpelnalhdpjabaaDoorPGearLastx2
namespace Go.Proofs.YtpelnalhdpjabaaDoor.Pure
open Go.RowKit Go.Proofs.YtpelnalhdpjabaaDoor.PGearLast Go.Proofs.YtpelnalhdpjabaaDoorW.PrintWords Go.Proofs.YtpelnalhdpjabaaDoorW.PrintLast Go.Proofs.YtpelnalhdpjabaaDoorW.PrintMore
set_option maxRecDepth 100000
theorem w64 (n : Int) (h0 : -9223372036854775808 ≤ n) (h1 : n ≤ 9223372036854775807) : wrap64 n = n := by unfold wrap64; omega
theorem wf8 {n : Int} (h : (Lit.int .u8 n).wf = true) : 0 ≤ n ∧ n < 256 := by
  have e0 : IntKind.u8.min = 0 := by decide
  have e1 : IntKind.u8.max = 255 := by decide
  simp [Lit.wf, e0, e1] at h
  omega
def gw (g c : Int) : Int := IntKind.u64.wrap (IntKind.u64.wrap (g * 2) + tabI c)
/-- From place i on, with sum g: where the piece ends. -/
def scan (least bits : Int) : Nat → Int → List Int → Nat
  | i, _, [] => i
  | i, g, c :: t => if least ≤ (i : Int) + 1 ∧ shr .u64 (gw g c) (64 - bits) = 0 then i + 1 else scan least bits (i + 1) (gw g c) t
theorem scan_nil (least bits : Int) (i : Nat) (g : Int) : scan least bits i g [] = i := by unfold scan; rfl
theorem scan_yes {least bits : Int} {i : Nat} {g c : Int} {t : List Int} (h : least ≤ (i : Int) + 1 ∧ shr .u64 (gw g c) (64 - bits) = 0) : scan least bits i g (c :: t) = i + 1 := by rw [scan, if_pos h]
theorem scan_no {least bits : Int} {i : Nat} {g c : Int} {t : List Int} (h : ¬ (least ≤ (i : Int) + 1 ∧ shr .u64 (gw g c) (64 - bits) = 0)) : scan least bits i g (c :: t) = scan least bits (i + 1) (gw g c) t := by rw [scan, if_neg h]
def okP (a b c : Int) : Prop := 1 ≤ a ∧ a ≤ b ∧ b ≤ 65536 ∧ 1 ≤ c ∧ c ≤ 16
def Bytes (l : List Int) : Prop := ∀ x ∈ l, 0 ≤ x ∧ x < 256
theorem check_ok {a b c : Int} (h : okP a b c) : gear_Check.f a b c = some 0 := by
  obtain ⟨h1, h2, h3, h4, h5⟩ := h
  unfold gear_Check.f
  rw [if_neg (by omega), if_neg (by omega), if_neg (by omega), if_neg (by omega), if_neg (by omega)]
theorem check_no {a b c : Int} (h : ¬ okP a b c) : gear_Check.f a b c = some 2 := by
  unfold okP at h
  unfold gear_Check.f
  by_cases h1 : a < 1
  · rw [if_pos h1]
  rw [if_neg h1]
  by_cases h2 : a > b
  · rw [if_pos h2]
  rw [if_neg h2]
  by_cases h3 : b > 65536
  · rw [if_pos h3]
  rw [if_neg h3]
  by_cases h4 : c < 1
  · rw [if_pos h4]
  rw [if_neg h4, if_pos (by omega)]
theorem table_f {c : Int} (h : 0 ≤ c ∧ c < 256) : gear_Table.f c = some (tabI c) := by unfold gear_Table.f; rw [if_pos h.1, if_pos h.2]
theorem rd_drop {L : List Int} {i : Nat} (h : i < L.length) : L.drop i = rd L (i : Int) :: L.drop (i + 1) := by
  rw [List.drop_eq_getElem_cons h]
  unfold rd
  rw [Int.toNat_natCast, List.getD_eq_getElem?_getD, List.getElem?_eq_getElem h, Option.getD_some]
theorem rd_mem {L : List Int} {i : Nat} (h : i < L.length) : rd L (i : Int) ∈ L := by
  unfold rd
  rw [Int.toNat_natCast, List.getD_eq_getElem?_getD, List.getElem?_eq_getElem h, Option.getD_some]
  exact List.getElem_mem h
theorem next_loop (least most bits : Int) (hb : 1 ≤ bits ∧ bits ≤ 16) (L : List Int) (hL : Bytes L) (hn : L.length ≤ 70000) (d : Nat) : ∀ (k i : Nat) (g : Int), i + d = L.length → d < k →
    gear_Next.l0 k L g L (L.length : Int) (i : Int) least most bits = some ((scan least bits i g (L.drop i) : Nat) : Int) := by
  induction d with
  | zero =>
    intro k i g hd hk
    obtain ⟨k, rfl⟩ : ∃ m, k = m + 1 := ⟨k - 1, by omega⟩
    simp only [gear_Next.l0]
    rw [if_neg (by omega), List.drop_of_length_le (by omega), scan_nil]
    congr 1
    omega
  | succ d ih =>
    intro k i g hd hk
    obtain ⟨k, rfl⟩ : ∃ m, k = m + 1 := ⟨k - 1, by omega⟩
    have hi : i < L.length := by omega
    have e1 : wrap64 ((i : Int) + 1) = (i : Int) + 1 := w64 _ (by omega) (by omega)
    have e2 : wrap64 (64 - bits) = 64 - bits := w64 _ (by omega) (by omega)
    have e3 : ((i + 1 : Nat) : Int) = (i : Int) + 1 := by omega
    simp only [gear_Next.l0]
    rw [if_pos (by omega), if_pos (by omega), if_pos (by omega), table_f (hL _ (rd_mem hi)), rd_drop hi]
    rw [Option.bind_some, e1, e2]
    have hg : IntKind.u64.wrap (IntKind.u64.wrap (g * 2) + tabI (rd L (i : Int))) = gw g (rd L (i : Int)) := rfl
    rw [hg]
    by_cases h1 : (i : Int) + 1 ≥ least
    · rw [if_pos h1, if_pos (by omega)]
      by_cases h2 : shr .u64 (gw g (rd L (i : Int))) (64 - bits) = 0
      · rw [if_pos h2, scan_yes ⟨h1, h2⟩, e3]
      · rw [if_neg h2, scan_no (fun h => h2 h.2), ← e3]
        exact ih k (i + 1) _ (by omega) (by omega)
    · rw [if_neg h1, scan_no (fun h => h1 h.1), ← e3]
      exact ih k (i + 1) _ (by omega) (by omega)
/-- Where the first piece ends. -/
def nx (least most bits : Int) (l : List Int) : Nat := scan least bits 0 0 (l.take most.toNat)
theorem bytes_take {l : List Int} (h : Bytes l) (n : Nat) : Bytes (l.take n) := fun x hx => h x (List.mem_of_mem_take hx)
theorem bytes_drop {l : List Int} (h : Bytes l) (n : Nat) : Bytes (l.drop n) := fun x hx => h x (List.mem_of_mem_drop hx)
theorem next_of {least most bits : Int} (hp : okP least most bits) {l : List Int} (hl : Bytes l) (hn : l.length ≤ 70000) {k : Nat} (hk : l.length < k) : gear_Next.f k l least most bits = some ((nx least most bits l : Nat) : Int) := by
  obtain ⟨h1, h2, h3, h4, h5⟩ := hp
  have em : l.take (mn (l.length : Int) most).toNat = l.take most.toNat := by
    unfold mn
    by_cases h : most < (l.length : Int)
    · rw [if_pos h]
    · rw [if_neg h, Int.toNat_natCast, List.take_length, List.take_of_length_le (by omega)]
  have hm : 0 ≤ mn (l.length : Int) most ∧ mn (l.length : Int) most ≤ (l.length : Int) := by unfold mn; omega
  unfold gear_Next.f
  rw [check_ok ⟨h1, h2, h3, h4, h5⟩]; simp only [Option.bind_some]
  rw [if_pos trivial, if_pos hm.1, if_pos hm.2, em]
  have hlt : (l.take most.toNat).length ≤ l.length := List.length_take_le' ..
  have := next_loop least most bits ⟨h4, h5⟩ (l.take most.toNat) (bytes_take hl _) (by omega) (l.take most.toNat).length k 0 0 (by omega) (by omega)
  rw [List.drop_zero] at this
  exact this
theorem wrapU (n : Int) : IntKind.u64.wrap n = n % 18446744073709551616 := by simp [IntKind.wrap, IntKind.bits, IntKind.signed]
theorem gw_eq (g c : Int) : gw g c = (g * 2 + tabI c) % 18446744073709551616 := by
  unfold gw
  rw [wrapU, wrapU, Int.emod_add_emod]
theorem gw_range (g c : Int) : 0 ≤ gw g c ∧ gw g c < 18446744073709551616 := by rw [gw_eq]; omega
theorem gw_dvd {a b : Int} (c : Int) {m : Nat} (hm : m + 1 ≤ 64) (h : (2 : Int) ^ m ∣ a - b) : (2 : Int) ^ (m + 1) ∣ gw a c - gw b c := by
  obtain ⟨q, hq⟩ := h
  have hM : (2 : Int) ^ (m + 1) ∣ 18446744073709551616 := by
    refine ⟨2 ^ (64 - (m + 1)), ?_⟩
    rw [← Int.pow_add, show m + 1 + (64 - (m + 1)) = 64 by omega]
    rfl
  have e : gw a c - gw b c = 2 * (a - b) - 18446744073709551616 * ((a * 2 + tabI c) / 18446744073709551616 - (b * 2 + tabI c) / 18446744073709551616) := by
    rw [gw_eq, gw_eq, Int.emod_def, Int.emod_def, Int.mul_sub]
    omega
  rw [e]
  refine Int.dvd_sub ⟨q, ?_⟩ (Int.dvd_trans hM ⟨_, rfl⟩)
  rw [hq, Int.pow_succ]
  ac_rfl
theorem eq_of_dvd64 {a b : Int} (ha : 0 ≤ a ∧ a < 18446744073709551616) (hb : 0 ≤ b ∧ b < 18446744073709551616) (h : (2 : Int) ^ 64 ∣ a - b) : a = b := by
  obtain ⟨q, hq⟩ := h
  have e : (2 : Int) ^ 64 = 18446744073709551616 := rfl
  rw [e] at hq
  omega
theorem scan_near (bits : Int) (d : Nat) (rest : List Int) : ∀ (m i : Nat) (a b : Int), m ≤ 63 → i = d + m → (2 : Int) ^ m ∣ a - b → scan ((d : Int) + 64) bits i a rest = scan ((d : Int) + 64) bits i b rest := by
  induction rest with
  | nil => intro m i a b _ _ _; rw [scan_nil, scan_nil]
  | cons c t ih =>
    intro m i a b hm hi h
    have h' := gw_dvd c (by omega) h
    by_cases h64 : m = 63
    · subst h64
      have e := eq_of_dvd64 (gw_range a c) (gw_range b c) h'
      rw [scan, scan, e]
    · rw [scan_no (fun q => by omega), scan_no (fun q => by omega)]
      exact ih (m + 1) (i + 1) _ _ (by omega) (by omega) h'
theorem scan_far (bits : Int) (d : Nat) (n : Nat) : ∀ (i : Nat) (a b : Int) (s t : List Int), i + n = d → s.length = t.length → s.drop n = t.drop n → scan ((d : Int) + 64) bits i a s = scan ((d : Int) + 64) bits i b t := by
  induction n with
  | zero =>
    intro i a b s t hi _ hd
    rw [List.drop_zero, List.drop_zero] at hd
    subst hd
    exact scan_near bits d s 0 i a b (by omega) (by omega) ⟨a - b, by rw [Int.pow_zero, Int.one_mul]⟩
  | succ n ih =>
    intro i a b s t hi hl hd
    cases s with
    | nil =>
      have : t = [] := List.length_eq_zero_iff.1 hl.symm
      subst this
      rw [scan_nil, scan_nil]
    | cons x s =>
      cases t with
      | nil => simp at hl
      | cons y t =>
        rw [scan_no (fun q => by omega), scan_no (fun q => by omega)]
        refine ih (i + 1) _ _ s t (by omega) (by simpa using hl) ?_
        simpa using hd
theorem nx_same {least most bits : Int} (h64 : 64 ≤ least) {s t : List Int} (hl : s.length = t.length) (hd : s.drop (least - 64).toNat = t.drop (least - 64).toNat) : nx least most bits s = nx least most bits t := by
  unfold nx
  have e : least = (((least - 64).toNat : Nat) : Int) + 64 := by omega
  have h := scan_far bits (least - 64).toNat (least - 64).toNat 0 0 0 (s.take most.toNat) (t.take most.toNat) (by omega) (by rw [List.length_take, List.length_take, hl]) (by rw [List.drop_take, List.drop_take, hd])
  rw [← e] at h
  exact h
theorem j2_of {a b c : Int} (hp : okP a b c) (h64 : 64 ≤ a) {x y : List Int} (hx : Bytes x) (hy : Bytes y) (hl : y.length = x.length) (hn : x.length ≤ 1000) (hd : y.drop (a - 64).toNat = x.drop (a - 64).toNat) {k : Nat} (hk : 1002 ≤ k) :
    remoralaw11_GearLast.j2 k x y a b c = some true := by
  obtain ⟨k, rfl⟩ : ∃ m, k = m + 1 := ⟨k - 1, by omega⟩
  rw [remoralaw11_GearLast.j2.eq_2]
  have ho : remoralaw11_Of.f a b c = some (a, b, c) := rfl
  rw [ho, Option.bind_some, next_of hp hx (by omega) (by omega), Option.bind_some, Option.bind_some, next_of hp hy (by omega) (by omega), Option.bind_some, nx_same h64 hl hd, if_pos rfl]
  rfl
theorem last_loop {a b c : Int} (hp : okP a b c) (h64 : 64 ≤ a) {x head : List Int} (hx : Bytes x) (hh : Bytes head) (hn : x.length ≤ 1000) (d : Nat) : ∀ (k i : Nat) (y : List Int), i + d = 1000 → d + 1002 < k → Bytes y → y.length = x.length → y.drop (a - 64).toNat = x.drop (a - 64).toNat →
    remoralaw11_GearLast.l0 k x head y (i : Int) a b c = some true := by
  have ha : a ≤ 65536 := by obtain ⟨h1, h2, h3, h4, h5⟩ := hp; omega
  induction d with
  | zero =>
    intro k i y hi hk hy hl hd
    obtain ⟨k, rfl⟩ : ∃ m, k = m + 1 := ⟨k - 1, by omega⟩
    rw [remoralaw11_GearLast.l0.eq_2]
    by_cases h1 : (i : Int) < (head.length : Int)
    · rw [if_pos h1, if_neg (by omega)]
      exact j2_of hp h64 hx hy hl hn hd (by omega)
    · rw [if_neg h1]
      exact j2_of hp h64 hx hy hl hn hd (by omega)
  | succ d ih =>
    intro k i y hi hk hy hl hd
    obtain ⟨k, rfl⟩ : ∃ m, k = m + 1 := ⟨k - 1, by omega⟩
    rw [remoralaw11_GearLast.l0.eq_2]
    by_cases h1 : (i : Int) < (head.length : Int)
    · rw [if_pos h1]
      by_cases h2 : (i : Int) < (y.length : Int)
      · rw [if_pos h2, w64 (a - 64) (by omega) (by omega)]
        by_cases h3 : (i : Int) < a - 64
        · rw [if_pos h3, if_pos (by omega), w64 ((i : Int) + 1) (by omega) (by omega), show (i : Int) + 1 = ((i + 1 : Nat) : Int) by omega]
          refine ih k (i + 1) _ (by omega) (by omega) ?_ (by rw [List.length_set]; exact hl) ?_
          · intro z hz
            rcases List.mem_or_eq_of_mem_set hz with hz | hz
            · exact hy z hz
            · rw [hz]; exact hh _ (rd_mem (by omega))
          · rw [Int.toNat_natCast, List.drop_set_of_lt (by omega)]
            exact hd
        · rw [if_neg h3]
          exact j2_of hp h64 hx hy hl hn hd (by omega)
      · rw [if_neg h2]
        exact j2_of hp h64 hx hy hl hn hd (by omega)
    · rw [if_neg h1]
      exact j2_of hp h64 hx hy hl hn hd (by omega)
theorem j0_true (k : Nat) (x y : List Int) (a b c : Int) : remoralaw11_GearLast.j0 (k + 1) x y true a b c = some true := by
  rw [remoralaw11_GearLast.j0.eq_2, if_pos rfl]; rfl

theorem GearLast : remoralaw11_GearLast.Pure := by
  intro l0 l1 a b c hl0 _ hl1 _ _ _ _
  refine ⟨3000, ?_⟩
  have hB0 : Bytes l0 := fun x hx => wf8 (hl0.2 x hx)
  have hB1 : Bytes l1 := fun x hx => wf8 (hl1.2 x hx)
  unfold remoralaw11_GearLast.f
  by_cases h : (l0.length : Int) > 1000
  · rw [if_pos h]; exact j0_true 2999 _ _ _ _ _
  rw [if_neg h]
  by_cases hp : okP a b c
  · have hc : remoraref11_Check.f a b c = some 0 := check_ok hp
    rw [hc, Option.bind_some, if_pos rfl]
    by_cases h64 : a < 64
    · rw [decide_eq_true h64]; exact j0_true 2999 _ _ _ _ _
    · rw [decide_eq_false h64, remoralaw11_GearLast.j0.eq_2, if_neg (by decide), Option.bind_some]
      rw [if_pos (by simp; omega), List.nil_append]
      exact last_loop hp (by omega) hB0 hB1 (by omega) 1000 2999 0 l0 (by omega) (by omega) hB0 rfl rfl
  · have hc : remoraref11_Check.f a b c = some 2 := check_no hp
    rw [hc, Option.bind_some, if_neg (by decide)]; exact j0_true 2999 _ _ _ _ _

end Go.Proofs.YtpelnalhdpjabaaDoor.Pure
