/- Of a text that is too long nothing is told but that, and of wrong params ahead of it, for any params. Conditions: none. -/
import Derived.Test.YtpelnalhdpjabaaDoorPGearLongx2
namespace Go.Proofs.YtpelnalhdpjabaaDoor.Pure
open Go.RowKit Go.Proofs.YtpelnalhdpjabaaDoor.PGearLong Go.Proofs.YtpelnalhdpjabaaDoorW.PrintWords Go.Proofs.YtpelnalhdpjabaaDoorW.PrintLast Go.Proofs.YtpelnalhdpjabaaDoorW.PrintMore
set_option maxRecDepth 100000
theorem w64 (n : Int) (h0 : -9223372036854775808 ≤ n) (h1 : n ≤ 9223372036854775807) : wrap64 n = n := by unfold wrap64; omega
theorem wf8 {n : Int} (h : (Lit.int .u8 n).wf = true) : 0 ≤ n ∧ n < 256 := by
  have e0 : IntKind.u8.min = 0 := by decide
  have e1 : IntKind.u8.max = 255 := by decide
  simp [Lit.wf, e0, e1] at h
  omega
def gw (g c : Int) : Int := IntKind.u64.wrap (IntKind.u64.wrap (g * 2) + tabI c)
/-- From place i on, with sum g: where the piece ends. -/
def scan (least bits : Int) : Nat → Int → List Int → Nat
  | i, _, [] => i
  | i, g, c :: t => if least ≤ (i : Int) + 1 ∧ shr .u64 (gw g c) (64 - bits) = 0 then i + 1 else scan least bits (i + 1) (gw g c) t
theorem scan_nil (least bits : Int) (i : Nat) (g : Int) : scan least bits i g [] = i := by unfold scan; rfl
theorem scan_yes {least bits : Int} {i : Nat} {g c : Int} {t : List Int} (h : least ≤ (i : Int) + 1 ∧ shr .u64 (gw g c) (64 - bits) = 0) : scan least bits i g (c :: t) = i + 1 := by rw [scan, if_pos h]
theorem scan_no {least bits : Int} {i : Nat} {g c : Int} {t : List Int} (h : ¬ (least ≤ (i : Int) + 1 ∧ shr .u64 (gw g c) (64 - bits) = 0)) : scan least bits i g (c :: t) = scan least bits (i + 1) (gw g c) t := by rw [scan, if_neg h]
def okP (a b c : Int) : Prop := 1 ≤ a ∧ a ≤ b ∧ b ≤ 65536 ∧ 1 ≤ c ∧ c ≤ 16
def Bytes (l : List Int) : Prop := ∀ x ∈ l, 0 ≤ x ∧ x < 256
theorem check_ok {a b c : Int} (h : okP a b c) : gear_Check.f a b c = some 0 := by
  obtain ⟨h1, h2, h3, h4, h5⟩ := h
  unfold gear_Check.f
  rw [if_neg (by omega), if_neg (by omega), if_neg (by omega), if_neg (by omega), if_neg (by omega)]
theorem check_no {a b c : Int} (h : ¬ okP a b c) : gear_Check.f a b c = some 2 := by
  unfold okP at h
  unfold gear_Check.f
  by_cases h1 : a < 1
  · rw [if_pos h1]
  rw [if_neg h1]
  by_cases h2 : a > b
  · rw [if_pos h2]
  rw [if_neg h2]
  by_cases h3 : b > 65536
  · rw [if_pos h3]
  rw [if_neg h3]
  by_cases h4 : c < 1
  · rw [if_pos h4]
  rw [if_neg h4, if_pos (by omega)]
theorem table_f {c : Int} (h : 0 ≤ c ∧ c < 256) : gear_Table.f c = some (tabI c) := by unfold gear_Table.f; rw [if_pos h.1, if_pos h.2]
theorem rd_drop {L : List Int} {i : Nat} (h : i < L.length) : L.drop i = rd L (i : Int) :: L.drop (i + 1) := by
  rw [List.drop_eq_getElem_cons h]
  unfold rd
  rw [Int.toNat_natCast, List.getD_eq_getElem?_getD, List.getElem?_eq_getElem h, Option.getD_some]
theorem rd_mem {L : List Int} {i : Nat} (h : i < L.length) : rd L (i : Int) ∈ L := by
  unfold rd
  rw [Int.toNat_natCast, List.getD_eq_getElem?_getD, List.getElem?_eq_getElem h, Option.getD_some]
  exact List.getElem_mem h
theorem next_loop (least most bits : Int) (hb : 1 ≤ bits ∧ bits ≤ 16) (L : List Int) (hL : Bytes L) (hn : L.length ≤ 70000) (d : Nat) : ∀ (k i : Nat) (g : Int), i + d = L.length → d < k →
    gear_Next.l0 k L g L (L.length : Int) (i : Int) least most bits = some ((scan least bits i g (L.drop i) : Nat) : Int) := by
  induction d with
  | zero =>
    intro k i g hd hk
    obtain ⟨k, rfl⟩ : ∃ m, k = m + 1 := ⟨k - 1, by omega⟩
    simp only [gear_Next.l0]
    rw [if_neg (by omega), List.drop_of_length_le (by omega), scan_nil]
    congr 1
    omega
  | succ d ih =>
    intro k i g hd hk
    obtain ⟨k, rfl⟩ : ∃ m, k = m + 1 := ⟨k - 1, by omega⟩
    have hi : i < L.length := by omega
    have e1 : wrap64 ((i : Int) + 1) = (i : Int) + 1 := w64 _ (by omega) (by omega)
    have e2 : wrap64 (64 - bits) = 64 - bits := w64 _ (by omega) (by omega)
    have e3 : ((i + 1 : Nat) : Int) = (i : Int) + 1 := by omega
    simp only [gear_Next.l0]
    rw [if_pos (by omega), if_pos (by omega), if_pos (by omega), table_f (hL _ (rd_mem hi)), rd_drop hi]
    rw [Option.bind_some, e1, e2]
    have hg : IntKind.u64.wrap (IntKind.u64.wrap (g * 2) + tabI (rd L (i : Int))) = gw g (rd L (i : Int)) := rfl
    rw [hg]
    by_cases h1 : (i : Int) + 1 ≥ least
    · rw [if_pos h1, if_pos (by omega)]
      by_cases h2 : shr .u64 (gw g (rd L (i : Int))) (64 - bits) = 0
      · rw [if_pos h2, scan_yes ⟨h1, h2⟩, e3]
      · rw [if_neg h2, scan_no (fun h => h2 h.2), ← e3]
        exact ih k (i + 1) _ (by omega) (by omega)
    · rw [if_neg h1, scan_no (fun h => h1 h.1), ← e3]
      exact ih k (i + 1) _ (by omega) (by omega)
/-- Where the first piece ends. -/
def nx (least most bits : Int) (l : List Int) : Nat := scan least bits 0 0 (l.take most.toNat)
theorem bytes_take {l : List Int} (h : Bytes l) (n : Nat) : Bytes (l.take n) := fun x hx => h x (List.mem_of_mem_take hx)
theorem bytes_drop {l : List Int} (h : Bytes l) (n : Nat) : Bytes (l.drop n) := fun x hx => h x (List.mem_of_mem_drop hx)
theorem next_of {least most bits : Int} (hp : okP least most bits) {l : List Int} (hl : Bytes l) (hn : l.length ≤ 70000) {k : Nat} (hk : l.length < k) : gear_Next.f k l least most bits = some ((nx least most bits l : Nat) : Int) := by
  obtain ⟨h1, h2, h3, h4, h5⟩ := hp
  have em : l.take (mn (l.length : Int) most).toNat = l.take most.toNat := by
    unfold mn
    by_cases h : most < (l.length : Int)
    · rw [if_pos h]
    · rw [if_neg h, Int.toNat_natCast, List.take_length, List.take_of_length_le (by omega)]
  have hm : 0 ≤ mn (l.length : Int) most ∧ mn (l.length : Int) most ≤ (l.length : Int) := by unfold mn; omega
  unfold gear_Next.f
  rw [check_ok ⟨h1, h2, h3, h4, h5⟩]; simp only [Option.bind_some]
  rw [if_pos trivial, if_pos hm.1, if_pos hm.2, em]
  have hlt : (l.take most.toNat).length ≤ l.length := List.length_take_le' ..
  have := next_loop least most bits ⟨h4, h5⟩ (l.take most.toNat) (bytes_take hl _) (by omega) (l.take most.toNat).length k 0 0 (by omega) (by omega)
  rw [List.drop_zero] at this
  exact this

theorem GearLong : remoralaw11_GearLong.Pure := by
  intro a0 a b c w0 _ _ _
  refine ⟨1, ?_⟩
  obtain ⟨h0, h1⟩ := wf8 w0
  unfold remoralaw11_GearLong.f
  rw [w64 a0 (by omega) (by omega), w64 (65537 + a0) (by omega) (by omega), if_pos (by omega), if_pos (by omega), Option.bind_some]
  obtain ⟨y, hy⟩ : ∃ y : List Int, y = List.replicate (65537 + a0).toNat 0 := ⟨_, rfl⟩
  have hl : (y.length : Int) = 65537 + a0 := by rw [hy, List.length_replicate]; omega
  rw [← hy]
  clear hy
  have ho : remoralaw11_Of.f a b c = some (a, b, c) := rfl
  by_cases hp : okP a b c
  · have hr : remoraref11_Check.f a b c = some 0 := check_ok hp
    have hC : gear_Cuts.f 1 y a b c = some ([], 7) := by
      unfold gear_Cuts.f
      rw [check_ok hp, Option.bind_some, if_pos rfl, if_pos (by omega)]
    have hP : gear_Pieces.f 1 y a b c = some ([], 7) := by
      unfold gear_Pieces.f
      rw [hC, Option.bind_some, if_neg (by decide)]
    rw [ho, Option.bind_some, hC, Option.bind_some, Option.bind_some, hP, Option.bind_some, hr, Option.bind_some]
    decide +kernel
  · have hr : remoraref11_Check.f a b c = some 2 := check_no hp
    have hC : gear_Cuts.f 1 y a b c = some ([], 2) := by
      unfold gear_Cuts.f
      rw [check_no hp, Option.bind_some, if_neg (by decide)]
    have hP : gear_Pieces.f 1 y a b c = some ([], 2) := by
      unfold gear_Pieces.f
      rw [hC, Option.bind_some, if_neg (by decide)]
    rw [ho, Option.bind_some, hC, Option.bind_some, Option.bind_some, hP, Option.bind_some, hr, Option.bind_some]
    decide +kernel

end Go.Proofs.YtpelnalhdpjabaaDoor.Pure
