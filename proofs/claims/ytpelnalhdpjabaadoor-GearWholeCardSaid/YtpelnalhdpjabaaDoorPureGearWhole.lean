/- The pieces are the text, none is too long, and each ends where the highest bits of its sum are 0 first, for any text of at most 2,000 bytes and any params. Conditions: none. -/
import Derived.Test.YtpelnalhdpjabaaDoorPGearWholex3
namespace Go.Proofs.YtpelnalhdpjabaaDoor.Pure
open Go.RowKit Go.Proofs.YtpelnalhdpjabaaDoor.PGearWhole Go.Proofs.YtpelnalhdpjabaaDoorW.PrintWords Go.Proofs.YtpelnalhdpjabaaDoorW.PrintLast Go.Proofs.YtpelnalhdpjabaaDoorW.PrintMore
set_option maxRecDepth 100000
theorem w64 (n : Int) (h0 : -9223372036854775808 ≤ n) (h1 : n ≤ 9223372036854775807) : wrap64 n = n := by unfold wrap64; omega
theorem wf8 {n : Int} (h : (Lit.int .u8 n).wf = true) : 0 ≤ n ∧ n < 256 := by
  have e0 : IntKind.u8.min = 0 := by decide
  have e1 : IntKind.u8.max = 255 := by decide
  simp [Lit.wf, e0, e1] at h
  omega
def gw (g c : Int) : Int := IntKind.u64.wrap (IntKind.u64.wrap (g * 2) + tabI c)
/-- From place i on, with sum g: where the piece ends. -/
def scan (least bits : Int) : Nat → Int → List Int → Nat
  | i, _, [] => i
  | i, g, c :: t => if least ≤ (i : Int) + 1 ∧ shr .u64 (gw g c) (64 - bits) = 0 then i + 1 else scan least bits (i + 1) (gw g c) t
theorem scan_nil (least bits : Int) (i : Nat) (g : Int) : scan least bits i g [] = i := by unfold scan; rfl
theorem scan_yes {least bits : Int} {i : Nat} {g c : Int} {t : List Int} (h : least ≤ (i : Int) + 1 ∧ shr .u64 (gw g c) (64 - bits) = 0) : scan least bits i g (c :: t) = i + 1 := by rw [scan, if_pos h]
theorem scan_no {least bits : Int} {i : Nat} {g c : Int} {t : List Int} (h : ¬ (least ≤ (i : Int) + 1 ∧ shr .u64 (gw g c) (64 - bits) = 0)) : scan least bits i g (c :: t) = scan least bits (i + 1) (gw g c) t := by rw [scan, if_neg h]
def okP (a b c : Int) : Prop := 1 ≤ a ∧ a ≤ b ∧ b ≤ 65536 ∧ 1 ≤ c ∧ c ≤ 16
def Bytes (l : List Int) : Prop := ∀ x ∈ l, 0 ≤ x ∧ x < 256
theorem check_ok {a b c : Int} (h : okP a b c) : gear_Check.f a b c = some 0 := by
  obtain ⟨h1, h2, h3, h4, h5⟩ := h
  unfold gear_Check.f
  rw [if_neg (by omega), if_neg (by omega), if_neg (by omega), if_neg (by omega), if_neg (by omega)]
theorem check_no {a b c : Int} (h : ¬ okP a b c) : gear_Check.f a b c = some 2 := by
  unfold okP at h
  unfold gear_Check.f
  by_cases h1 : a < 1
  · rw [if_pos h1]
  rw [if_neg h1]
  by_cases h2 : a > b
  · rw [if_pos h2]
  rw [if_neg h2]
  by_cases h3 : b > 65536
  · rw [if_pos h3]
  rw [if_neg h3]
  by_cases h4 : c < 1
  · rw [if_pos h4]
  rw [if_neg h4, if_pos (by omega)]
theorem table_f {c : Int} (h : 0 ≤ c ∧ c < 256) : gear_Table.f c = some (tabI c) := by unfold gear_Table.f; rw [if_pos h.1, if_pos h.2]
theorem rd_drop {L : List Int} {i : Nat} (h : i < L.length) : L.drop i = rd L (i : Int) :: L.drop (i + 1) := by
  rw [List.drop_eq_getElem_cons h]
  unfold rd
  rw [Int.toNat_natCast, List.getD_eq_getElem?_getD, List.getElem?_eq_getElem h, Option.getD_some]
theorem rd_mem {L : List Int} {i : Nat} (h : i < L.length) : rd L (i : Int) ∈ L := by
  unfold rd
  rw [Int.toNat_natCast, List.getD_eq_getElem?_getD, List.getElem?_eq_getElem h, Option.getD_some]
  exact List.getElem_mem h
theorem next_loop (least most bits : Int) (hb : 1 ≤ bits ∧ bits ≤ 16) (L : List Int) (hL : Bytes L) (hn : L.length ≤ 70000) (d : Nat) : ∀ (k i : Nat) (g : Int), i + d = L.length → d < k →
    gear_Next.l0 k L g L (L.length : Int) (i : Int) least most bits = some ((scan least bits i g (L.drop i) : Nat) : Int) := by
  induction d with
  | zero =>
    intro k i g hd hk
    obtain ⟨k, rfl⟩ : ∃ m, k = m + 1 := ⟨k - 1, by omega⟩
    simp only [gear_Next.l0]
    rw [if_neg (by omega), List.drop_of_length_le (by omega), scan_nil]
    congr 1
    omega
  | succ d ih =>
    intro k i g hd hk
    obtain ⟨k, rfl⟩ : ∃ m, k = m + 1 := ⟨k - 1, by omega⟩
    have hi : i < L.length := by omega
    have e1 : wrap64 ((i : Int) + 1) = (i : Int) + 1 := w64 _ (by omega) (by omega)
    have e2 : wrap64 (64 - bits) = 64 - bits := w64 _ (by omega) (by omega)
    have e3 : ((i + 1 : Nat) : Int) = (i : Int) + 1 := by omega
    simp only [gear_Next.l0]
    rw [if_pos (by omega), if_pos (by omega), if_pos (by omega), table_f (hL _ (rd_mem hi)), rd_drop hi]
    rw [Option.bind_some, e1, e2]
    have hg : IntKind.u64.wrap (IntKind.u64.wrap (g * 2) + tabI (rd L (i : Int))) = gw g (rd L (i : Int)) := rfl
    rw [hg]
    by_cases h1 : (i : Int) + 1 ≥ least
    · rw [if_pos h1, if_pos (by omega)]
      by_cases h2 : shr .u64 (gw g (rd L (i : Int))) (64 - bits) = 0
      · rw [if_pos h2, scan_yes ⟨h1, h2⟩, e3]
      · rw [if_neg h2, scan_no (fun h => h2 h.2), ← e3]
        exact ih k (i + 1) _ (by omega) (by omega)
    · rw [if_neg h1, scan_no (fun h => h1 h.1), ← e3]
      exact ih k (i + 1) _ (by omega) (by omega)
/-- Where the first piece ends. -/
def nx (least most bits : Int) (l : List Int) : Nat := scan least bits 0 0 (l.take most.toNat)
theorem bytes_take {l : List Int} (h : Bytes l) (n : Nat) : Bytes (l.take n) := fun x hx => h x (List.mem_of_mem_take hx)
theorem bytes_drop {l : List Int} (h : Bytes l) (n : Nat) : Bytes (l.drop n) := fun x hx => h x (List.mem_of_mem_drop hx)
theorem next_of {least most bits : Int} (hp : okP least most bits) {l : List Int} (hl : Bytes l) (hn : l.length ≤ 70000) {k : Nat} (hk : l.length < k) : gear_Next.f k l least most bits = some ((nx least most bits l : Nat) : Int) := by
  obtain ⟨h1, h2, h3, h4, h5⟩ := hp
  have em : l.take (mn (l.length : Int) most).toNat = l.take most.toNat := by
    unfold mn
    by_cases h : most < (l.length : Int)
    · rw [if_pos h]
    · rw [if_neg h, Int.toNat_natCast, List.take_length, List.take_of_length_le (by omega)]
  have hm : 0 ≤ mn (l.length : Int) most ∧ mn (l.length : Int) most ≤ (l.length : Int) := by unfold mn; omega
  unfold gear_Next.f
  rw [check_ok ⟨h1, h2, h3, h4, h5⟩]; simp only [Option.bind_some]
  rw [if_pos trivial, if_pos hm.1, if_pos hm.2, em]
  have hlt : (l.take most.toNat).length ≤ l.length := List.length_take_le' ..
  have := next_loop least most bits ⟨h4, h5⟩ (l.take most.toNat) (bytes_take hl _) (by omega) (l.take most.toNat).length k 0 0 (by omega) (by omega)
  rw [List.drop_zero] at this
  exact this
theorem scan_bd (least bits : Int) (l : List Int) : ∀ (i : Nat) (g : Int), i ≤ scan least bits i g l ∧ scan least bits i g l ≤ i + l.length := by
  induction l with
  | nil => intro i g; rw [scan_nil]; simp
  | cons c t ih =>
    intro i g
    by_cases h : least ≤ (i : Int) + 1 ∧ shr .u64 (gw g c) (64 - bits) = 0
    · rw [scan_yes h, List.length_cons]; omega
    · rw [scan_no h, List.length_cons]
      have := ih (i + 1) (gw g c)
      omega
theorem nx_bd {a b c : Int} (hp : okP a b c) {l : List Int} (hl : 0 < l.length) : 1 ≤ nx a b c l ∧ nx a b c l ≤ l.length ∧ (nx a b c l : Int) ≤ b := by
  obtain ⟨h1, h2, h3, h4, h5⟩ := hp
  have hb := scan_bd a c (l.take b.toNat) 0 0
  have hlen : (l.take b.toNat).length = min b.toNat l.length := List.length_take
  unfold nx
  refine ⟨?_, by omega, by omega⟩
  obtain ⟨x, t, hx⟩ : ∃ x t, l.take b.toNat = x :: t := by
    cases h : l.take b.toNat with
    | nil => rw [h] at hlen; simp at hlen; omega
    | cons x t => exact ⟨x, t, rfl⟩
  rw [hx]
  by_cases h : a ≤ ((0 : Nat) : Int) + 1 ∧ shr .u64 (gw 0 x) (64 - c) = 0
  · rw [scan_yes h]; omega
  · rw [scan_no h]
    have := scan_bd a c t (0 + 1) (gw 0 x)
    omega
/-- The cuts from place p on. -/
def cutsN (a b c : Int) (L : List Int) : Nat → Nat → List Nat
  | 0, _ => []
  | f + 1, p => if p < L.length then (p + nx a b c (L.drop p)) :: cutsN a b c L f (p + nx a b c (L.drop p)) else []
def ints (l : List Nat) : List Int := l.map fun n : Nat => (n : Int)
theorem ints_len (l : List Nat) : (ints l).length = l.length := by unfold ints; rw [List.length_map]
theorem rd_ints {l : List Nat} {i : Nat} (h : i < l.length) : rd (ints l) (i : Int) = ((l[i] : Nat) : Int) := by
  unfold rd ints
  rw [Int.toNat_natCast, List.getD_eq_getElem?_getD, List.getElem?_map, List.getElem?_eq_getElem h]
  rfl
def Chain : Nat → Nat → List Nat → Prop
  | p, n, [] => p = n
  | p, n, t :: r => p < t ∧ t ≤ n ∧ Chain t n r
theorem chain_len : ∀ (l : List Nat) (p n : Nat), Chain p n l → p + l.length ≤ n
  | [], p, n, h => by have : p = n := h; simp; omega
  | t :: r, p, n, h => by
    obtain ⟨h1, h2, h3⟩ := h
    have := chain_len r t n h3
    rw [List.length_cons]; omega
theorem chain_cuts {a b c : Int} (hp : okP a b c) (L : List Int) : ∀ (f p : Nat), p ≤ L.length → L.length ≤ p + f → Chain p L.length (cutsN a b c L f p)
  | 0, p, h1, h2 => by show p = L.length; omega
  | f + 1, p, h1, h2 => by
    unfold cutsN
    by_cases h : p < L.length
    · rw [if_pos h]
      have hb := nx_bd hp (l := L.drop p) (by rw [List.length_drop]; omega)
      rw [List.length_drop] at hb
      exact ⟨by omega, by omega, chain_cuts hp L f _ (by omega) (by omega)⟩
    · rw [if_neg h]; show p = L.length; omega
theorem cuts_loop {a b c : Int} (hp : okP a b c) (L : List Int) (hB : Bytes L) (hn : L.length ≤ 70000) : ∀ (f k p : Nat) (out : List Int), p ≤ L.length → L.length ≤ p + f → f + L.length + 1 < k → out.length ≤ p →
    gear_Cuts.l0 k L out (p : Int) a b c = some (out ++ ints (cutsN a b c L f p), 0)
  | 0, k, p, out, h1, h2, h3, h4 => by
    obtain ⟨k, rfl⟩ : ∃ m, k = m + 1 := ⟨k - 1, by omega⟩
    rw [gear_Cuts.l0.eq_2, if_neg (by omega)]
    simp [cutsN, ints]
  | f + 1, k, p, out, h1, h2, h3, h4 => by
    obtain ⟨k, rfl⟩ : ∃ m, k = m + 1 := ⟨k - 1, by omega⟩
    by_cases h : p < L.length
    · have hb := nx_bd hp (l := L.drop p) (by rw [List.length_drop]; omega)
      have hd : (L.drop p).length = L.length - p := List.length_drop
      have e : (p : Int) + ((nx a b c (L.drop p) : Nat) : Int) = ((p + nx a b c (L.drop p) : Nat) : Int) := by omega
      rw [gear_Cuts.l0.eq_2, if_pos (by omega), if_pos (by omega), if_pos (by omega), Int.toNat_natCast, next_of hp (bytes_drop hB p) (by omega) (by omega), Option.bind_some, if_pos (by omega), w64 _ (by omega) (by omega), e, cuts_loop hp L hB hn f k _ _ (by omega) (by omega) (by omega) (by rw [List.length_append]; simp; omega)]
      simp [cutsN, ints, h]
    · rw [gear_Cuts.l0.eq_2, if_neg (by omega)]
      simp [cutsN, ints, h]
def cutsOf (a b c : Int) (L : List Int) : List Nat := cutsN a b c L L.length 0
theorem cuts_of {a b c : Int} (hp : okP a b c) {L : List Int} (hB : Bytes L) (hn : L.length ≤ 65536) {k : Nat} (hk : 2 * L.length + 1 < k) : gear_Cuts.f k L a b c = some (ints (cutsOf a b c L), 0) := by
  unfold gear_Cuts.f
  rw [check_ok hp, Option.bind_some, if_pos rfl, if_neg (by omega)]
  exact cuts_loop hp L hB (by omega) L.length k 0 [] (by omega) (by omega) (by omega) (by simp)
theorem cuts_bad {a b c : Int} (hp : ¬ okP a b c) (L : List Int) (k : Nat) : gear_Cuts.f k L a b c = some ([], 2) := by
  unfold gear_Cuts.f
  rw [check_no hp, Option.bind_some, if_neg (by decide)]
theorem chain_of {a b c : Int} (hp : okP a b c) (L : List Int) : Chain 0 L.length (cutsOf a b c L) := chain_cuts hp L L.length 0 (by omega) (by omega)
def piecesL (L : List Int) : Nat → List Nat → List (List Int)
  | _, [] => []
  | p, t :: r => (L.take t).drop p :: piecesL L t r
theorem pieces_len (L : List Int) : ∀ (cs : List Nat) (p : Nat), (piecesL L p cs).length = cs.length
  | [], _ => rfl
  | t :: r, p => by unfold piecesL; rw [List.length_cons, List.length_cons, pieces_len L r t]
theorem pieces_loop (L : List Int) (hn : L.length ≤ 70000) (cs : List Nat) (hc : cs.length ≤ 70000) (d : Nat) : ∀ (k i p : Nat) (out : List (List Int)), Chain p L.length (cs.drop i) → i + d = cs.length → d < k → p ≤ L.length → out.length = i →
    gear_Pieces.l0 k L out (p : Int) (ints cs) ((ints cs).length : Int) (i : Int) = some (out ++ piecesL L p (cs.drop i), 0) := by
  induction d with
  | zero =>
    intro k i p out hch hd hk hp ho
    obtain ⟨k, rfl⟩ : ∃ m, k = m + 1 := ⟨k - 1, by omega⟩
    rw [gear_Pieces.l0.eq_2, ints_len, if_neg (by omega), List.drop_of_length_le (by omega)]
    simp [piecesL]
  | succ d ih =>
    intro k i p out hch hd hk hp ho
    obtain ⟨k, rfl⟩ : ∃ m, k = m + 1 := ⟨k - 1, by omega⟩
    have hi : i < cs.length := by omega
    have hcs := List.drop_eq_getElem_cons hi
    rw [hcs] at hch
    obtain ⟨h1, h2, h3⟩ := hch
    have hl : ((L.take cs[i]).drop p).length ≤ 70000 := by rw [List.length_drop, List.length_take]; omega
    have h0 : ([] : List Int).length = 0 := rfl
    have ihh := ih k (i + 1) cs[i] (out ++ [(L.take cs[i]).drop p]) h3 (by omega) (by omega) h2 (by rw [List.length_append]; simp; omega)
    rw [ints_len] at ihh
    rw [gear_Pieces.l0.eq_2, ints_len, if_pos (by omega), if_pos (by omega), if_pos (by omega), if_pos (by omega), rd_ints hi, if_pos (by omega), if_pos (by omega), Int.toNat_natCast, Int.toNat_natCast, h0, if_pos (by omega), if_pos (by omega), w64 _ (by omega) (by omega), List.nil_append, show (i : Int) + 1 = ((i + 1 : Nat) : Int) by omega, ihh, hcs]
    simp [piecesL]
theorem pieces_of {a b c : Int} (hp : okP a b c) {L : List Int} (hB : Bytes L) (hn : L.length ≤ 65536) {k : Nat} (hk : 2 * L.length + 1 < k) : gear_Pieces.f k L a b c = some (piecesL L 0 (cutsOf a b c L), 0) := by
  have hch := chain_of hp L
  have hl := chain_len _ _ _ hch
  unfold gear_Pieces.f
  rw [cuts_of hp hB hn hk, Option.bind_some, if_pos rfl]
  exact pieces_loop L (by omega) (cutsOf a b c L) (by omega) (cutsOf a b c L).length k 0 0 [] hch (by omega) (by omega) (by omega) rfl
theorem pieces_bad {a b c : Int} (hp : ¬ okP a b c) (L : List Int) (k : Nat) : gear_Pieces.f k L a b c = some ([], 2) := by
  unfold gear_Pieces.f
  rw [cuts_bad hp, Option.bind_some, if_neg (by decide)]
theorem rdL_drop {L : List (List Int)} {i : Nat} (h : i < L.length) : L.drop i = rd_L4 L (i : Int) :: L.drop (i + 1) := by
  rw [List.drop_eq_getElem_cons h]
  unfold rd_L4
  rw [Int.toNat_natCast, List.getD_eq_getElem?_getD, List.getElem?_eq_getElem h, Option.getD_some]
theorem scan_self {a c : Int} {i : Nat} {g : Int} {l : List Int} (h : scan a c i g l = i) : l = [] := by
  cases l with
  | nil => rfl
  | cons x t =>
    exfalso
    by_cases hc : a ≤ (i : Int) + 1 ∧ shr .u64 (gw g x) (64 - c) = 0
    · rw [scan_yes hc] at h; omega
    · rw [scan_no hc] at h
      have := scan_bd a c t (i + 1) (gw g x)
      omega
theorem scan_end (a c : Int) (l : List Int) : ∀ (i : Nat) (g : Int), scan a c i g l = i + l.length ∨ a ≤ ((scan a c i g l : Nat) : Int) := by
  induction l with
  | nil => intro i g; rw [scan_nil]; left; rfl
  | cons x t ih =>
    intro i g
    by_cases hc : a ≤ (i : Int) + 1 ∧ shr .u64 (gw g x) (64 - c) = 0
    · rw [scan_yes hc]; right; omega
    · rw [scan_no hc, List.length_cons]
      rcases ih (i + 1) (gw g x) with h | h
      · left; omega
      · right; exact h

set_option maxHeartbeats 4000000 in
theorem inner {a b c : Int} (hp : okP a b c) (L : List Int) (hn : L.length ≤ 70000) (ps : List (List Int)) (hps : ps.length ≤ 70000) (p i n K : Nat) (hi : i < ps.length) (hpn : p + n ≤ L.length) (M : List Int) (hM : Bytes M)
    (hlen : (rd_L4 ps (i : Int)).length = n) (hq : ∀ j, j < n → rd (rd_L4 ps (i : Int)) (j : Int) = rd M (j : Int)) (hnM : n ≤ M.length) (hlast : (n : Int) < b → M.length ≤ n → i + 1 = ps.length) (d : Nat) :
    ∀ (j : Nat) (g : Int), j + d = n → (j < n → scan a c j g (M.drop j) = n) →
      remoralaw11_GearWhole.l1 (K + d + 1) L ps (p : Int) (i : Int) (n : Int) g (j : Int) a b c = remoralaw11_GearWhole.l0 K L ps ((p + n : Nat) : Int) ((i + 1 : Nat) : Int) a b c := by
  obtain ⟨h1, h2, h3, h4, h5⟩ := hp
  have ei : Aside0 (wrap64 ((i : Int) + 1) = ((i + 1 : Nat) : Int)) := Aside0.mk (by rw [w64 _ (by omega) (by omega)]; omega)
  have ep : Aside0 (wrap64 ((p : Int) + (n : Int)) = ((p + n : Nat) : Int)) := Aside0.mk (by rw [w64 _ (by omega) (by omega)]; omega)
  induction d with
  | zero =>
    intro j g hj _
    rw [remoralaw11_GearWhole.l1.eq_2, if_neg (by omega), ei.out, ep.out]
  | succ d ih =>
    intro j g hj hs
    have hjn : j < n := by omega
    have hjM : j < M.length := by omega
    have HS : Aside0 (scan a c j g (rd M (j : Int) :: M.drop (j + 1)) = n) := Aside0.mk (by rw [← rd_drop hjM]; exact hs hjn)
    clear hs
    have hx := table_f (hM _ (rd_mem hjM))
    have e1 : Aside0 (wrap64 ((j : Int) + 1) = ((j + 1 : Nat) : Int)) := Aside0.mk (by rw [w64 _ (by omega) (by omega)]; omega)
    have e2 : Aside0 (wrap64 (64 - c) = 64 - c) := Aside0.mk (w64 _ (by omega) (by omega))
    have hg : Aside0 (IntKind.u64.wrap (IntKind.u64.wrap (2 * g) + tabI (rd M (j : Int))) = gw g (rd M (j : Int))) := Aside0.mk (by rw [Int.mul_comm]; rfl)
    rw [show K + (d + 1) + 1 = (K + d + 1) + 1 by omega, remoralaw11_GearWhole.l1.eq_2, if_pos (by omega), if_pos (by omega), if_pos (by omega), if_pos (by omega), hlen, if_pos (by omega), hq j hjn, hx, Option.bind_some, e1.out, e2.out, hg.out]
    clear hx hg
    obtain ⟨G, hG0⟩ : ∃ G, G = gw g (rd M (j : Int)) := ⟨_, rfl⟩
    rw [← hG0]
    have hG := Aside0.mk hG0
    clear hG0
    have step : scan a c (j + 1) G (M.drop (j + 1)) = n → remoralaw11_GearWhole.l1 (K + d + 1) L ps (p : Int) (i : Int) (n : Int) G ((j + 1 : Nat) : Int) a b c = remoralaw11_GearWhole.l0 K L ps ((p + n : Nat) : Int) ((i + 1 : Nat) : Int) a b c := fun h => ih (j + 1) G (by omega) (fun _ => h)
    have ns : ¬ (a ≤ (j : Int) + 1 ∧ shr .u64 G (64 - c) = 0) → scan a c (j + 1) G (M.drop (j + 1)) = n := by
      intro hc
      have hs := HS.out
      rw [hG.out] at hc ⊢
      rw [scan_no hc] at hs
      exact hs
    have last : ¬ (a ≤ (j : Int) + 1 ∧ shr .u64 G (64 - c) = 0) → (j + 1 = n → (n : Int) < b → ¬ (((i + 1 : Nat) : Int) < (ps.length : Int))) := by
      intro hc hjn2 hnb
      have h1 := ns hc
      rw [← hjn2] at h1
      have h2 := scan_self h1
      clear h1
      have hl0 : (M.drop (j + 1)).length = 0 := by rw [h2]; rfl
      clear h2
      rw [List.length_drop] at hl0
      have := hlast hnb (by omega)
      omega
    have yes : (a ≤ (j : Int) + 1 ∧ shr .u64 G (64 - c) = 0) → n = j + 1 := by
      intro hc
      have hs := HS.out
      rw [hG.out] at hc
      rw [scan_yes hc] at hs
      exact hs.symm
    clear HS hG
    rw [ei.out]
    by_cases hA : ((j + 1 : Nat) : Int) ≥ a
    · rw [if_pos hA, if_pos (by omega)]
      by_cases hS : shr .u64 G (64 - c) = 0
      · have hy : n = j + 1 := yes ⟨by omega, hS⟩
        rw [if_pos hS, if_neg (by omega), if_pos (by omega), if_pos hS]
        exact ih (j + 1) G (by omega) (fun h => by omega)
      · have hc : ¬ (a ≤ (j : Int) + 1 ∧ shr .u64 G (64 - c) = 0) := fun h => hS h.2
        rw [if_neg hS]
        by_cases hE : ((j + 1 : Nat) : Int) = (n : Int)
        · rw [if_pos hE, if_neg hS]
          by_cases hb : (n : Int) < b
          · rw [if_pos hb, if_neg (last hc (by omega) hb)]; exact step (ns hc)
          · rw [if_neg hb]; exact step (ns hc)
        · rw [if_neg hE]; exact step (ns hc)
    · have hc : ¬ (a ≤ (j : Int) + 1 ∧ shr .u64 G (64 - c) = 0) := fun h => by omega
      rw [if_neg hA]
      by_cases hE : ((j + 1 : Nat) : Int) = (n : Int)
      · rw [if_pos hE]
        by_cases hb : (n : Int) < b
        · rw [if_pos hb, if_neg (last hc (by omega) hb)]; exact step (ns hc)
        · rw [if_neg hb]; exact step (ns hc)
      · rw [if_neg hE]; exact step (ns hc)
set_option maxHeartbeats 4000000 in
theorem whole_loop {a b c : Int} (hp : okP a b c) (L : List Int) (hB : Bytes L) (hn : L.length ≤ 65536) (ps : List (List Int)) (hps : ps.length ≤ 65536) : ∀ (f k p i : Nat), p ≤ L.length → L.length ≤ p + f → ps.drop i = piecesL L p (cutsN a b c L f p) → i + (cutsN a b c L f p).length = ps.length →
    3 * (cutsN a b c L f p).length + (L.length - p) + 1 ≤ k → remoralaw11_GearWhole.l0 k L ps (p : Int) (i : Int) a b c = some true
  | 0, k, p, i, h1, h2, hpi, hl, hk => by
    obtain ⟨k, rfl⟩ : ∃ m, k = m + 1 := ⟨k - 1, by omega⟩
    have h0 : (cutsN a b c L 0 p).length = 0 := rfl
    rw [remoralaw11_GearWhole.l0.eq_2, if_neg (by omega), if_pos (by omega)]
    rfl
  | f + 1, k, p, i, h1, h2, hpi, hl, hk => by
    by_cases h : p < L.length
    · have hd : (L.drop p).length = L.length - p := List.length_drop
      have hb := nx_bd hp (l := L.drop p) (by omega)
      obtain ⟨n, hnn⟩ : ∃ n, n = nx a b c (L.drop p) := ⟨_, rfl⟩
      have hcs : cutsN a b c L (f + 1) p = (p + n) :: cutsN a b c L f (p + n) := by rw [cutsN, if_pos h, hnn]
      rw [hcs, List.length_cons] at hl hk
      rw [hcs] at hpi
      rw [← hnn] at hb
      have hi : i < ps.length := by omega
      rw [rdL_drop hi] at hpi
      unfold piecesL at hpi
      obtain ⟨e1, e2⟩ := List.cons.inj hpi
      have hch := chain_cuts hp L f (p + n) (by omega) (by omega)
      have hlen : (rd_L4 ps (i : Int)).length = n := by rw [e1, List.length_drop, List.length_take]; omega
      have hM : ((L.drop p).take b.toNat).length = min b.toNat (L.length - p) := by rw [List.length_take, hd]
      obtain ⟨h3, h4, h5, h6, h7⟩ := hp
      have hend : n = ((L.drop p).take b.toNat).length ∨ a ≤ (n : Int) := by
        rcases scan_end a c ((L.drop p).take b.toNat) 0 0 with q | q
        · left; rw [hnn]; unfold nx; omega
        · right; rw [hnn]; exact q
      have hlast : (n : Int) < b → ((L.drop p).take b.toNat).length ≤ n → i + 1 = ps.length := by
        intro q1 q2
        have e : p + n = L.length := by omega
        have : (cutsN a b c L f (p + n)).length = 0 := by
          have := chain_len _ _ _ hch
          omega
        omega
      have ep : Aside0 (wrap64 ((p : Int) + (n : Int)) = ((p + n : Nat) : Int)) := Aside0.mk (by rw [w64 _ (by omega) (by omega)]; omega)
      have ei : Aside0 (wrap64 ((i : Int) + 1) = ((i + 1 : Nat) : Int)) := Aside0.mk (by rw [w64 _ (by omega) (by omega)]; omega)
      obtain ⟨K, rfl⟩ : ∃ K, k = (K + n + 1 + 1) + 1 := ⟨k - n - 3, by omega⟩
      have fin : remoralaw11_GearWhole.j1 (K + n + 1 + 1) L ps (p : Int) (i : Int) (n : Int) ((strOfNums ((L.take (((p + n : Nat) : Int)).toNat).drop ((p : Int)).toNat)).toList != (strOfNums (rd_L4 ps (i : Int))).toList) a b c = some true := by
        rw [Int.toNat_natCast, Int.toNat_natCast, e1, bne_self_eq_false, remoralaw11_GearWhole.j1.eq_2, if_neg (by decide)]
        have hin := inner (a := a) (b := b) (c := c) ⟨h3, h4, h5, h6, h7⟩ L (by omega) ps (by omega) p i n K hi (by omega) ((L.drop p).take b.toNat) (bytes_take (bytes_drop hB p) _) hlen (fun j hj => by
          have hj1 : j < ((L.drop p).take b.toNat).length := by omega
          rw [e1]
          unfold rd
          rw [Int.toNat_natCast, List.getD_eq_getElem?_getD, List.getD_eq_getElem?_getD, List.getElem?_drop, List.getElem?_take_of_lt (by omega), List.getElem?_take_of_lt (by omega), List.getElem?_drop]) (by omega) hlast n 0 0 (by omega) (fun _ => by rw [List.drop_zero, hnn]; rfl)
        rw [show ((0 : Nat) : Int) = 0 from rfl] at hin
        rw [hin]
        exact whole_loop ⟨h3, h4, h5, h6, h7⟩ L hB hn ps hps f K (p + n) (i + 1) (by omega) (by omega) e2 (by omega) (by omega)
      rw [remoralaw11_GearWhole.l0.eq_2, if_pos (by omega), if_pos (by omega), hlen, if_neg (by omega), if_neg (by omega), ei.out, ep.out]
      by_cases hI : ((i + 1 : Nat) : Int) < (ps.length : Int)
      · have hna : ¬ ((n : Int) < a) := by
          intro q
          rcases hend with e | e
          · have hnb : (n : Int) < b := by omega
            have := hlast hnb (by omega)
            omega
          · omega
        rw [if_pos hI, if_neg hna, if_neg (by omega), if_pos (by omega), if_pos (by omega), if_pos (by omega)]
        exact fin
      · rw [if_neg hI, if_neg (by omega), if_pos (by omega), if_pos (by omega), if_pos (by omega)]
        exact fin
    · have h0 : cutsN a b c L (f + 1) p = [] := by rw [cutsN, if_neg h]
      rw [h0] at hl hk
      obtain ⟨k, rfl⟩ : ∃ m, k = m + 1 := ⟨k - 1, by omega⟩
      rw [List.length_nil] at hl
      rw [remoralaw11_GearWhole.l0.eq_2, if_neg (by omega), if_pos (by omega)]
      rfl

theorem GearWhole : remoralaw11_GearWhole.Pure := by
  intro l a b c hl _ _ _ _
  refine ⟨10000, ?_⟩
  unfold remoralaw11_GearWhole.f
  by_cases h : (l.length : Int) > 2000
  · rw [if_pos h]; rfl
  rw [if_neg h]
  have hB : Bytes l := fun x hx => wf8 (hl.2 x hx)
  have ho : remoralaw11_Of.f a b c = some (a, b, c) := rfl
  by_cases hp : okP a b c
  · have hr : remoraref11_Check.f a b c = some 0 := check_ok hp
    have hch := chain_of hp l
    have hle := chain_len _ _ _ hch
    rw [ho, Option.bind_some, pieces_of hp hB (by omega) (by omega), Option.bind_some, if_pos rfl, hr, Option.bind_some, if_pos rfl]
    exact whole_loop hp l hB (by omega) _ (by rw [pieces_len]; omega) l.length 10000 0 0 (by omega) (by omega) rfl (by rw [pieces_len]; unfold cutsOf; omega) (by unfold cutsOf at hle; omega)
  · have hr : remoraref11_Check.f a b c = some 2 := check_no hp
    rw [ho, Option.bind_some, pieces_bad hp, Option.bind_some, if_neg (by decide), hr, Option.bind_some, if_neg (by decide), if_pos (by decide)]
    rfl

end Go.Proofs.YtpelnalhdpjabaaDoor.Pure
