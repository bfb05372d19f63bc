/- The program and the reference agree on where the first piece ends, for any text of at most 2,000 bytes and any params. Conditions: none. -/
import Derived.Test.YtpelnalhdpjabaaDoorPGearNextx2
namespace Go.Proofs.YtpelnalhdpjabaaDoor.Pure
open Go.RowKit Go.Proofs.YtpelnalhdpjabaaDoor.PGearNext Go.Proofs.YtpelnalhdpjabaaDoorW.PrintWords Go.Proofs.YtpelnalhdpjabaaDoorW.PrintLast Go.Proofs.YtpelnalhdpjabaaDoorW.PrintMore
set_option maxRecDepth 100000
theorem w64 (n : Int) (h0 : -9223372036854775808 ≤ n) (h1 : n ≤ 9223372036854775807) : wrap64 n = n := by unfold wrap64; omega
theorem wf8 {n : Int} (h : (Lit.int .u8 n).wf = true) : 0 ≤ n ∧ n < 256 := by
  have e0 : IntKind.u8.min = 0 := by decide
  have e1 : IntKind.u8.max = 255 := by decide
  simp [Lit.wf, e0, e1] at h
  omega
def gw (g c : Int) : Int := IntKind.u64.wrap (IntKind.u64.wrap (g * 2) + tabI c)
/-- From place i on, with sum g: where the piece ends. -/
def scan (least bits : Int) : Nat → Int → List Int → Nat
  | i, _, [] => i
  | i, g, c :: t => if least ≤ (i : Int) + 1 ∧ shr .u64 (gw g c) (64 - bits) = 0 then i + 1 else scan least bits (i + 1) (gw g c) t
theorem scan_nil (least bits : Int) (i : Nat) (g : Int) : scan least bits i g [] = i := by unfold scan; rfl
theorem scan_yes {least bits : Int} {i : Nat} {g c : Int} {t : List Int} (h : least ≤ (i : Int) + 1 ∧ shr .u64 (gw g c) (64 - bits) = 0) : scan least bits i g (c :: t) = i + 1 := by rw [scan, if_pos h]
theorem scan_no {least bits : Int} {i : Nat} {g c : Int} {t : List Int} (h : ¬ (least ≤ (i : Int) + 1 ∧ shr .u64 (gw g c) (64 - bits) = 0)) : scan least bits i g (c :: t) = scan least bits (i + 1) (gw g c) t := by rw [scan, if_neg h]
def okP (a b c : Int) : Prop := 1 ≤ a ∧ a ≤ b ∧ b ≤ 65536 ∧ 1 ≤ c ∧ c ≤ 16
def Bytes (l : List Int) : Prop := ∀ x ∈ l, 0 ≤ x ∧ x < 256
theorem check_ok {a b c : Int} (h : okP a b c) : gear_Check.f a b c = some 0 := by
  obtain ⟨h1, h2, h3, h4, h5⟩ := h
  unfold gear_Check.f
  rw [if_neg (by omega), if_neg (by omega), if_neg (by omega), if_neg (by omega), if_neg (by omega)]
theorem check_no {a b c : Int} (h : ¬ okP a b c) : gear_Check.f a b c = some 2 := by
  unfold okP at h
  unfold gear_Check.f
  by_cases h1 : a < 1
  · rw [if_pos h1]
  rw [if_neg h1]
  by_cases h2 : a > b
  · rw [if_pos h2]
  rw [if_neg h2]
  by_cases h3 : b > 65536
  · rw [if_pos h3]
  rw [if_neg h3]
  by_cases h4 : c < 1
  · rw [if_pos h4]
  rw [if_neg h4, if_pos (by omega)]
theorem table_f {c : Int} (h : 0 ≤ c ∧ c < 256) : gear_Table.f c = some (tabI c) := by unfold gear_Table.f; rw [if_pos h.1, if_pos h.2]
theorem rd_drop {L : List Int} {i : Nat} (h : i < L.length) : L.drop i = rd L (i : Int) :: L.drop (i + 1) := by
  rw [List.drop_eq_getElem_cons h]
  unfold rd
  rw [Int.toNat_natCast, List.getD_eq_getElem?_getD, List.getElem?_eq_getElem h, Option.getD_some]
theorem rd_mem {L : List Int} {i : Nat} (h : i < L.length) : rd L (i : Int) ∈ L := by
  unfold rd
  rw [Int.toNat_natCast, List.getD_eq_getElem?_getD, List.getElem?_eq_getElem h, Option.getD_some]
  exact List.getElem_mem h
theorem next_loop (least most bits : Int) (hb : 1 ≤ bits ∧ bits ≤ 16) (L : List Int) (hL : Bytes L) (hn : L.length ≤ 70000) (d : Nat) : ∀ (k i : Nat) (g : Int), i + d = L.length → d < k →
    gear_Next.l0 k L g L (L.length : Int) (i : Int) least most bits = some ((scan least bits i g (L.drop i) : Nat) : Int) := by
  induction d with
  | zero =>
    intro k i g hd hk
    obtain ⟨k, rfl⟩ : ∃ m, k = m + 1 := ⟨k - 1, by omega⟩
    simp only [gear_Next.l0]
    rw [if_neg (by omega), List.drop_of_length_le (by omega), scan_nil]
    congr 1
    omega
  | succ d ih =>
    intro k i g hd hk
    obtain ⟨k, rfl⟩ : ∃ m, k = m + 1 := ⟨k - 1, by omega⟩
    have hi : i < L.length := by omega
    have e1 : wrap64 ((i : Int) + 1) = (i : Int) + 1 := w64 _ (by omega) (by omega)
    have e2 : wrap64 (64 - bits) = 64 - bits := w64 _ (by omega) (by omega)
    have e3 : ((i + 1 : Nat) : Int) = (i : Int) + 1 := by omega
    simp only [gear_Next.l0]
    rw [if_pos (by omega), if_pos (by omega), if_pos (by omega), table_f (hL _ (rd_mem hi)), rd_drop hi]
    rw [Option.bind_some, e1, e2]
    have hg : IntKind.u64.wrap (IntKind.u64.wrap (g * 2) + tabI (rd L (i : Int))) = gw g (rd L (i : Int)) := rfl
    rw [hg]
    by_cases h1 : (i : Int) + 1 ≥ least
    · rw [if_pos h1, if_pos (by omega)]
      by_cases h2 : shr .u64 (gw g (rd L (i : Int))) (64 - bits) = 0
      · rw [if_pos h2, scan_yes ⟨h1, h2⟩, e3]
      · rw [if_neg h2, scan_no (fun h => h2 h.2), ← e3]
        exact ih k (i + 1) _ (by omega) (by omega)
    · rw [if_neg h1, scan_no (fun h => h1 h.1), ← e3]
      exact ih k (i + 1) _ (by omega) (by omega)
/-- Where the first piece ends. -/
def nx (least most bits : Int) (l : List Int) : Nat := scan least bits 0 0 (l.take most.toNat)
theorem bytes_take {l : List Int} (h : Bytes l) (n : Nat) : Bytes (l.take n) := fun x hx => h x (List.mem_of_mem_take hx)
theorem bytes_drop {l : List Int} (h : Bytes l) (n : Nat) : Bytes (l.drop n) := fun x hx => h x (List.mem_of_mem_drop hx)
theorem next_of {least most bits : Int} (hp : okP least most bits) {l : List Int} (hl : Bytes l) (hn : l.length ≤ 70000) {k : Nat} (hk : l.length < k) : gear_Next.f k l least most bits = some ((nx least most bits l : Nat) : Int) := by
  obtain ⟨h1, h2, h3, h4, h5⟩ := hp
  have em : l.take (mn (l.length : Int) most).toNat = l.take most.toNat := by
    unfold mn
    by_cases h : most < (l.length : Int)
    · rw [if_pos h]
    · rw [if_neg h, Int.toNat_natCast, List.take_length, List.take_of_length_le (by omega)]
  have hm : 0 ≤ mn (l.length : Int) most ∧ mn (l.length : Int) most ≤ (l.length : Int) := by unfold mn; omega
  unfold gear_Next.f
  rw [check_ok ⟨h1, h2, h3, h4, h5⟩]; simp only [Option.bind_some]
  rw [if_pos trivial, if_pos hm.1, if_pos hm.2, em]
  have hlt : (l.take most.toNat).length ≤ l.length := List.length_take_le' ..
  have := next_loop least most bits ⟨h4, h5⟩ (l.take most.toNat) (bytes_take hl _) (by omega) (l.take most.toNat).length k 0 0 (by omega) (by omega)
  rw [List.drop_zero] at this
  exact this
theorem tables_same : ∀ i : Fin 256, remoraref11_Table.f (i.val : Int) = gear_Table.f (i.val : Int) := by decide +kernel
theorem reftable_f {c : Int} (h : 0 ≤ c ∧ c < 256) : remoraref11_Table.f c = some (tabI c) := by
  have ht := tables_same ⟨c.toNat, by omega⟩
  simp only [Int.toNat_of_nonneg h.1] at ht
  rw [ht, table_f h]
theorem refnext_loop (least most bits : Int) (hb : 1 ≤ bits ∧ bits ≤ 16) (L : List Int) (hL : Bytes L) (hn : L.length ≤ 70000) (d : Nat) : ∀ (k i : Nat) (g : Int), i + d = L.length → d < k → (i : Int) < most →
    remoraref11_Next.l0 k L g (i : Int) least most bits = some ((scan least bits i g ((L.take most.toNat).drop i) : Nat) : Int) := by
  induction d with
  | zero =>
    intro k i g hd hk hm
    obtain ⟨k, rfl⟩ : ∃ m, k = m + 1 := ⟨k - 1, by omega⟩
    simp only [remoraref11_Next.l0]
    rw [if_neg (by omega), List.drop_of_length_le (by rw [List.length_take]; omega), scan_nil]
    congr 1
    omega
  | succ d ih =>
    intro k i g hd hk hm
    obtain ⟨k, rfl⟩ : ∃ m, k = m + 1 := ⟨k - 1, by omega⟩
    have hi : i < L.length := by omega
    have hit : i < (L.take most.toNat).length := by rw [List.length_take]; omega
    have hrd : rd (L.take most.toNat) (i : Int) = rd L (i : Int) := by
      unfold rd
      rw [Int.toNat_natCast, List.getD_eq_getElem?_getD, List.getD_eq_getElem?_getD, List.getElem?_take_of_lt (by omega)]
    have e1 : wrap64 ((i : Int) + 1) = (i : Int) + 1 := w64 _ (by omega) (by omega)
    have e2 : wrap64 (64 - bits) = 64 - bits := w64 _ (by omega) (by omega)
    have e3 : ((i + 1 : Nat) : Int) = (i : Int) + 1 := by omega
    simp only [remoraref11_Next.l0]
    rw [if_pos (by omega), if_pos (by omega), reftable_f (hL _ (rd_mem hi)), rd_drop hit, hrd]
    rw [Option.bind_some, e1, e2]
    have hg : IntKind.u64.wrap (IntKind.u64.wrap (2 * g) + tabI (rd L (i : Int))) = gw g (rd L (i : Int)) := by rw [Int.mul_comm]; rfl
    rw [hg]
    by_cases h0 : (i : Int) + 1 = most
    · rw [if_pos h0]
      have hd0 : (L.take most.toNat).drop (i + 1) = [] := List.drop_of_length_le (by rw [List.length_take]; omega)
      rw [hd0]
      by_cases h : least ≤ (i : Int) + 1 ∧ shr .u64 (gw g (rd L (i : Int))) (64 - bits) = 0
      · rw [scan_yes h, e3]
      · rw [scan_no h, scan_nil, e3]
    · rw [if_neg h0]
      by_cases h1 : (i : Int) + 1 ≥ least
      · rw [if_pos h1, if_pos (by omega)]
        by_cases h2 : shr .u64 (gw g (rd L (i : Int))) (64 - bits) = 0
        · rw [if_pos h2, scan_yes ⟨h1, h2⟩, e3]
        · rw [if_neg h2, scan_no (fun h => h2 h.2), ← e3]
          exact ih k (i + 1) _ (by omega) (by omega) (by omega)
      · rw [if_neg h1, scan_no (fun h => h1 h.1), ← e3]
        exact ih k (i + 1) _ (by omega) (by omega) (by omega)
theorem refnext_of {least most bits : Int} (hp : okP least most bits) {l : List Int} (hl : Bytes l) (hn : l.length ≤ 70000) {k : Nat} (hk : l.length < k) : remoraref11_Next.f k l least most bits = some ((nx least most bits l : Nat) : Int) := by
  obtain ⟨h1, h2, h3, h4, h5⟩ := hp
  have hc : remoraref11_Check.f least most bits = some 0 := check_ok ⟨h1, h2, h3, h4, h5⟩
  unfold remoraref11_Next.f
  rw [hc]; simp only [Option.bind_some]
  rw [if_pos trivial]
  have := refnext_loop least most bits ⟨h4, h5⟩ l hl hn l.length k 0 0 (by omega) (by omega) (by omega)
  rw [List.drop_zero] at this
  exact this

theorem GearNext : remoralaw11_GearNext.Pure := by
  intro l a b c hl _ _ _ _
  refine ⟨2001, ?_⟩
  unfold remoralaw11_GearNext.f
  by_cases h : (l.length : Int) > 2000
  · rw [if_pos h]; rfl
  · rw [if_neg h]
    have hB : Bytes l := fun x hx => wf8 (hl.2 x hx)
    have ho : remoralaw11_Of.f a b c = some (a, b, c) := rfl
    rw [ho]; simp only [Option.bind_some]
    by_cases hp : okP a b c
    · rw [next_of hp hB (by omega) (by omega), refnext_of hp hB (by omega) (by omega)]
      simp [remoralaw11_awake.f]
    · have h1 : gear_Next.f 2001 l a b c = some 0 := by unfold gear_Next.f; rw [check_no hp]; rfl
      have h2 : remoraref11_Next.f 2001 l a b c = some 0 := by
        have : remoraref11_Check.f a b c = some 2 := check_no hp
        unfold remoraref11_Next.f; rw [this]; rfl
      rw [h1, h2]
      simp [remoralaw11_awake.f]

end Go.Proofs.YtpelnalhdpjabaaDoor.Pure
