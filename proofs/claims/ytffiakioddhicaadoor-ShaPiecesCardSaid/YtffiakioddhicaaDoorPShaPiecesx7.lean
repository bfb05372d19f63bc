-- Written by a program of this session (the kit's printer with hand-written contracts among its functions).
import Derived.Test.YtffiakioddhicaaDoorPShaPiecesx0
import Derived.Test.YtffiakioddhicaaDoorPShaPiecesx2
import Derived.Test.YtffiakioddhicaaDoorPShaPiecesx3
import Derived.Test.YtffiakioddhicaaDoorPShaPiecesx4
import Derived.Test.YtffiakioddhicaaDoorPShaPiecesx5
import Derived.Test.YtffiakioddhicaaDoorPShaPiecesx6
namespace Go.Proofs.YtffiakioddhicaaDoor.PShaPieces
open Go.RowKit Go.Proofs.YtffiakioddhicaaDoorW.PrintWords Go.Proofs.YtffiakioddhicaaDoorW.PrintLast Go.Proofs.YtffiakioddhicaaDoorW.PrintMore
attribute [local go_sem] max2_int min2_int max_two min_two max_three min_three max_four min_four   -- for this text's walks alone
set_option linter.unusedVariables false
set_option linter.unusedSimpArgs false

/-! ### remoralaw03_ShaPieces: function 5 -/
theorem wf8 {n : Int} (h : (Lit.int .u8 n).wf = true) : 0 ≤ n ∧ n < 256 := by
  have e0 : IntKind.u8.min = 0 := by decide
  have e1 : IntKind.u8.max = 255 := by decide
  simp [Lit.wf, e0, e1] at h
  omega
theorem byte_wf {n : Int} (h : (Lit.int .u8 n).wf = true) : 0 ≤ n ∧ n ≤ 255 := by have := wf8 h; omega
theorem f_tail (n i : Nat) (hn : n ≤ 281474976710656) (hi : i < 8) : (shr .u64 (IntKind.u64.wrap (wrap64 (8 * (n : Int)))) (IntKind.u64.wrap (wrap64 (56 - wrap64 (8 * (i : Int)))))) % 256 = (shr .u64 (IntKind.u64.wrap ((IntKind.u64.wrap ((n : Nat) : Int)) * 8)) ((56 - 8 * i : Nat) : Int)) % 256 := by
  have e1 : wrap64 (8 * (i : Int)) = 8 * (i : Int) := by unfold wrap64; omega
  have e2 : wrap64 (56 - 8 * (i : Int)) = ((56 - 8 * i : Nat) : Int) := by unfold wrap64; omega
  have e3 : IntKind.u64.wrap ((56 - 8 * i : Nat) : Int) = ((56 - 8 * i : Nat) : Int) := by rw [IntKind.wrap_u64]; omega
  have e4 : wrap64 (8 * (n : Int)) = 8 * (n : Int) := by unfold wrap64; omega
  have e5 : IntKind.u64.wrap ((IntKind.u64.wrap ((n : Nat) : Int)) * 8) = IntKind.u64.wrap (8 * (n : Int)) := by rw [IntKind.wrap_u64, IntKind.wrap_u64, IntKind.wrap_u64]; omega
  rw [e1, e2, e3, e4, e5]
theorem filled_l1 (n : Nat) (hn : n ≤ 281474976710656) (x : List Int) (hx : x.length < 100000000000) : ∀ (d i : Nat), i + d = 8 → Ev (fun k => remoraref03_filled.l1 k (x ++ shaTail n i) (IntKind.u64.wrap (wrap64 (8 * (n : Int)))) (i : Int)) (x ++ shaTail n 8)
  | 0, i, h => by
    obtain rfl : i = 8 := by omega
    refine Ev.step (f := fun _ => some (x ++ shaTail n 8)) (fun k => ?_) (Ev.now _)
    rw [remoraref03_filled.l1, if_neg (by omega)]
  | d + 1, i, h => by
    have ih := filled_l1 n hn x hx d (i + 1) (by omega)
    refine Ev.step (fun k => ?_) ih
    have e1 : wrap64 (8 * (i : Int)) = 8 * (i : Int) := by unfold wrap64; omega
    have e2 : wrap64 (56 - 8 * (i : Int)) = ((56 - 8 * i : Nat) : Int) := by unfold wrap64; omega
    have e3 : IntKind.u64.wrap ((56 - 8 * i : Nat) : Int) = ((56 - 8 * i : Nat) : Int) := by rw [IntKind.wrap_u64]; omega
    have e6 : wrap64 ((i : Int) + 1) = ((i + 1 : Nat) : Int) := by unfold wrap64; omega
    have hl : (x ++ shaTail n i).length < 140737488355328 := by rw [List.length_append, shaTail, List.length_map, List.length_range]; omega
    rw [remoraref03_filled.l1, if_pos (by omega), if_pos (by rw [e1, e2, e3]; omega), if_pos hl, f_tail n i hn (by omega), e6, List.append_assoc]
    have hs : shaTail n i ++ [(shr .u64 (IntKind.u64.wrap ((IntKind.u64.wrap ((n : Nat) : Int)) * 8)) ((56 - 8 * i : Nat) : Int)) % 256] = shaTail n (i + 1) := by
      rw [shaTail, shaTail, List.range_succ, List.map_append]
      rfl
    rw [hs]
theorem filled_l0 (l0 : List Int) (hn : l0.length ≤ 1000000000) : ∀ (z : Nat) (x : List Int), x.length < l0.length + 200 → (x.length + z) % 64 = 56 → (∀ y, y < z → (x.length + y) % 64 ≠ 56) → x.length + z < l0.length + 200 → Ev (fun k => remoraref03_filled.l0 k l0 x) ((x ++ List.replicate z 0) ++ shaTail l0.length 8)
  | 0, x, hx, hz, _, _ => by
    have h := filled_l1 l0.length (by omega) x (by omega) 8 0 (by omega)
    rw [show shaTail l0.length 0 = [] from rfl, List.append_nil] at h
    refine Ev.step (fun k => ?_) (by rw [List.replicate_zero, List.append_nil]; exact h)
    rw [remoraref03_filled.l0, if_pos (by omega)]
    rfl
  | z + 1, x, hx, hz, hy, hl => by
    have h0 := hy 0 (by omega)
    have h := filled_l0 l0 hn z (x ++ [0]) (by rw [List.length_append, List.length_singleton]; omega) (by rw [List.length_append, List.length_singleton, ← hz]; congr 1; omega)
      (fun y hy1 => by have := hy (y + 1) (by omega); rw [List.length_append, List.length_singleton, show x.length + 1 + y = x.length + (y + 1) by omega]; exact this) (by rw [List.length_append, List.length_singleton]; omega)
    rw [show x ++ [0] ++ List.replicate z 0 = x ++ List.replicate (z + 1) 0 by rw [List.append_assoc, List.replicate_succ]; rfl] at h
    refine Ev.step (fun k => ?_) h
    rw [remoraref03_filled.l0, if_neg (by omega), if_pos (by omega)]
theorem filled_of (l0 : List Int) (hn : l0.length ≤ 1000000000) : Ev (fun k => remoraref03_filled.f k l0) (l0 ++ shaEnd l0.length) := by
  have hq := Nat.mod_lt (119 - l0.length % 64) (show 0 < 64 by decide)
  have h := filled_l0 l0 hn ((119 - l0.length % 64) % 64) (l0 ++ [128]) (by rw [List.length_append, List.length_singleton]; omega) (by rw [List.length_append, List.length_singleton]; omega) (by intro y hy; rw [List.length_append, List.length_singleton]; omega) (by rw [List.length_append, List.length_singleton]; omega)
  have e1 : wrap64 ((l0.length : Int) + 72) = (l0.length : Int) + 72 := by unfold wrap64; omega
  rw [show (l0 ++ [128] ++ List.replicate ((119 - l0.length % 64) % 64) 0) ++ shaTail l0.length 8 = l0 ++ shaEnd l0.length by unfold shaEnd; simp only [List.append_assoc]] at h
  refine Ev.congr (fun k => ?_) h
  unfold remoraref03_filled.f
  rw [if_pos (by rw [e1]; omega), if_pos (by rw [e1]; omega), Option.bind_some, if_pos (by rw [List.length_replicate]; omega), Option.bind_some, List.replicate_zero, List.nil_append, if_pos (by omega)]
set_option maxRecDepth 10000 in
theorem or_add (i : Nat) (x y : Int) (h0 : 0 ≤ x) (h1 : 0 ≤ y) (h2 : y < 2 ^ i) (h3 : x * 2 ^ i + y < 4294967296) : Go.bits .or .u32 (x * 2 ^ i) y = x * 2 ^ i + y := by
  obtain ⟨a, rfl⟩ := Int.eq_ofNat_of_zero_le h0
  obtain ⟨b, rfl⟩ := Int.eq_ofNat_of_zero_le h1
  have e1 : ((a : Int) * 2 ^ i) = ((a * 2 ^ i : Nat) : Int) := by simp
  rw [e1] at h3 ⊢
  have hb : b < 2 ^ i := by exact_mod_cast h2
  obtain ⟨c, hc⟩ : ∃ c, c = a * 2 ^ i := ⟨_, rfl⟩
  have hor : c ||| b = c + b := by
    rw [hc, ← Nat.shiftLeft_eq, Nat.shiftLeft_add_eq_or_of_lt hb]
  rw [← hc] at h3 ⊢
  have hs : c + b < 4294967296 := by omega
  unfold Go.bits
  simp only [IntKind.wrap_u32]
  have e2 : IntKind.u32.bits = 32 := rfl
  have ht : (BitVec.ofInt 32 (c : Int) ||| BitVec.ofInt 32 (b : Int)).toNat = c + b := by
    rw [BitVec.toNat_or, BitVec.ofInt_natCast, BitVec.ofInt_natCast, BitVec.toNat_ofNat, BitVec.toNat_ofNat, Nat.mod_eq_of_lt (by omega), Nat.mod_eq_of_lt (by omega), hor]
  rw [e2, ht]
  omega
theorem word4 {a b c d : Int} (ha : 0 ≤ a ∧ a ≤ 255) (hb : 0 ≤ b ∧ b ≤ 255) (hc : 0 ≤ c ∧ c ≤ 255) (hd : 0 ≤ d ∧ d ≤ 255) :
    Go.bits .or .u32 (IntKind.u32.wrap (Go.bits .or .u32 (IntKind.u32.wrap (Go.bits .or .u32 (IntKind.u32.wrap (Go.bits .or .u32 (IntKind.u32.wrap (0 * 256)) (IntKind.u32.wrap a) * 256)) (IntKind.u32.wrap b) * 256)) (IntKind.u32.wrap c) * 256)) (IntKind.u32.wrap d) =
    Go.bits .or .u32 (Go.bits .or .u32 (Go.bits .or .u32 (((a % 4294967296) * 16777216) % 4294967296) (((b % 4294967296) * 65536) % 4294967296)) (((c % 4294967296) * 256) % 4294967296)) (d % 4294967296) := by
  have w : ∀ x : Int, 0 ≤ x → x < 4294967296 → IntKind.u32.wrap x = x := fun x h0 h1 => by rw [IntKind.wrap_u32]; omega
  have e1 : Go.bits .or .u32 (IntKind.u32.wrap (0 * 256)) (IntKind.u32.wrap a) = a := by
    have h := or_add 8 0 a (by omega) ha.1 (by omega) (by omega)
    rw [w _ (by omega) (by omega), w _ (by omega) (by omega), show (0 : Int) * 256 = 0 * 2 ^ 8 by omega, h]; omega
  have e2 : Go.bits .or .u32 (IntKind.u32.wrap (a * 256)) (IntKind.u32.wrap b) = a * 256 + b := by
    have h := or_add 8 a b (by omega) hb.1 (by omega) (by omega)
    rw [w _ (by omega) (by omega), w _ (by omega) (by omega), show a * 256 = a * 2 ^ 8 by omega, h]
  have e3 : Go.bits .or .u32 (IntKind.u32.wrap ((a * 256 + b) * 256)) (IntKind.u32.wrap c) = (a * 256 + b) * 256 + c := by
    have h := or_add 8 (a * 256 + b) c (by omega) hc.1 (by omega) (by omega)
    rw [w _ (by omega) (by omega), w _ (by omega) (by omega), show (a * 256 + b) * 256 = (a * 256 + b) * 2 ^ 8 by omega, h]
  have e4 : Go.bits .or .u32 (IntKind.u32.wrap (((a * 256 + b) * 256 + c) * 256)) (IntKind.u32.wrap d) = ((a * 256 + b) * 256 + c) * 256 + d := by
    have h := or_add 8 ((a * 256 + b) * 256 + c) d (by omega) hd.1 (by omega) (by omega)
    rw [w _ (by omega) (by omega), w _ (by omega) (by omega), show ((a * 256 + b) * 256 + c) * 256 = ((a * 256 + b) * 256 + c) * 2 ^ 8 by omega, h]
  have m : ∀ x : Int, 0 ≤ x → x < 4294967296 → x % 4294967296 = x := fun x h0 h1 => by omega
  rw [e1, e2, e3, e4, m a (by omega) (by omega), m b (by omega) (by omega), m c (by omega) (by omega), m d (by omega) (by omega), m (a * 16777216) (by omega) (by omega), m (b * 65536) (by omega) (by omega), m (c * 256) (by omega) (by omega)]
  have f1 : Go.bits .or .u32 (a * 16777216) (b * 65536) = (a * 256 + b) * 65536 := by
    have h := or_add 24 a (b * 65536) (by omega) (by omega) (by omega) (by omega)
    rw [show a * 16777216 = a * 2 ^ 24 by omega, h]; omega
  have f2 : Go.bits .or .u32 ((a * 256 + b) * 65536) (c * 256) = ((a * 256 + b) * 256 + c) * 256 := by
    have h := or_add 16 (a * 256 + b) (c * 256) (by omega) (by omega) (by omega) (by omega)
    rw [show (a * 256 + b) * 65536 = (a * 256 + b) * 2 ^ 16 by omega, h]; omega
  have f3 : Go.bits .or .u32 (((a * 256 + b) * 256 + c) * 256) d = ((a * 256 + b) * 256 + c) * 256 + d := by
    have h := or_add 8 ((a * 256 + b) * 256 + c) d (by omega) hd.1 (by omega) (by omega)
    rw [show ((a * 256 + b) * 256 + c) * 256 = ((a * 256 + b) * 256 + c) * 2 ^ 8 by omega, h]
  rw [f1, f2, f3]
theorem wT_zero (b : List Int) : ∀ (t j : Nat), t ≤ j → (wT b t)[j]?.getD 0 = 0
  | 0, j, _ => by
    rw [wT, List.getElem?_replicate]
    split <;> rfl
  | t + 1, j, h => by
    have hk : ∀ k, (wK b (wT b t) t k)[j]?.getD 0 = 0 := fun k => by
      induction k with
      | zero => exact wT_zero b t j (by omega)
      | succ k ih => rw [wK, List.getElem?_set_ne (by omega)]; exact ih
    exact hk 4
theorem wT_next (b : List Int) (hb : ∀ i : Nat, 0 ≤ b[i]?.getD 0 ∧ b[i]?.getD 0 ≤ 255) (t : Nat) (ht : t < 64) : wT b (t + 1) = (wT b t).set t (Go.bits .or .u32 (Go.bits .or .u32 (Go.bits .or .u32 (((b[4 * t + 0]?.getD 0 % 4294967296) * 16777216) % 4294967296) (((b[4 * t + 1]?.getD 0 % 4294967296) * 65536) % 4294967296)) (((b[4 * t + 2]?.getD 0 % 4294967296) * 256) % 4294967296)) (b[4 * t + 3]?.getD 0 % 4294967296)) := by
  have hl := wT_len b t
  obtain ⟨W, hW⟩ : ∃ W, W = wT b t := ⟨_, rfl⟩
  have h0 : W[t]?.getD 0 = 0 := by rw [hW]; exact wT_zero b t t (Nat.le_refl _)
  rw [← hW] at hl ⊢
  have hs : ∀ (V : List Int) (x : Int), V.length = 64 → (V.set t x)[t]?.getD 0 = x := fun V x hv => by
    rw [List.getElem?_set_self (by omega)]
    rfl
  rw [wT, ← hW, wK, wK, wK, wK, wK, h0]
  simp only [List.set_set, hs W _ hl]
  rw [word4 (hb _) (hb _) (hb _) (hb _)]
theorem rd_nat (l : List Int) (i : Nat) : rd l (i : Int) = l[i]?.getD 0 := by
  unfold rd
  rw [Int.toNat_natCast, List.getD_eq_getElem?_getD]
theorem words_l1 (b : List Int) : ∀ (d n : Nat), n + d = 48 → Ev (fun k => remoraref03_words.l1 k (wN b n) ((n + 16 : Nat) : Int)) (shaWords b)
  | 0, n, h => by
    obtain rfl : n = 48 := by omega
    have hs : shaWords b = wN b 48 := rfl
    rw [hs]
    refine Ev.step (f := fun _ => some (wN b 48)) (fun k => ?_) (Ev.now _)
    rw [remoraref03_words.l1, if_neg (by omega)]
  | d + 1, n, h => by
    have ih := words_l1 b d (n + 1) (by omega)
    refine Ev.step (fun k => ?_) ih
    have hl : (wN b n).length = 64 := wN_len b n
    have hN : wN b (n + 1) = (wN b n).set (n + 16) (wNext (wN b n) (n + 16)) := rfl
    rw [hN]
    clear ih hN
    obtain ⟨W, hW⟩ : ∃ W, W = wN b n := ⟨_, rfl⟩
    rw [← hW] at hl ⊢
    clear hW
    have g0 : ((n + 16 : Nat) : Int) < 64 := by omega
    have g2 : (0 : Int) ≤ ((n + 16 - 2 : Nat) : Int) ∧ ((n + 16 - 2 : Nat) : Int) < (W.length : Int) := by omega
    have g7 : (0 : Int) ≤ ((n + 16 - 7 : Nat) : Int) ∧ ((n + 16 - 7 : Nat) : Int) < (W.length : Int) := by omega
    have g15 : (0 : Int) ≤ ((n + 16 - 15 : Nat) : Int) ∧ ((n + 16 - 15 : Nat) : Int) < (W.length : Int) := by omega
    have g16 : (0 : Int) ≤ ((n + 16 - 16 : Nat) : Int) ∧ ((n + 16 - 16 : Nat) : Int) < (W.length : Int) := by omega
    have g1 : (0 : Int) ≤ ((n + 16 : Nat) : Int) ∧ ((n + 16 : Nat) : Int) < (W.length : Int) := by omega
    have e2 : wrap64 (((n + 16 : Nat) : Int) - 2) = ((n + 16 - 2 : Nat) : Int) := by unfold wrap64; omega
    have e7 : wrap64 (((n + 16 : Nat) : Int) - 7) = ((n + 16 - 7 : Nat) : Int) := by unfold wrap64; omega
    have e15 : wrap64 (((n + 16 : Nat) : Int) - 15) = ((n + 16 - 15 : Nat) : Int) := by unfold wrap64; omega
    have e16 : wrap64 (((n + 16 : Nat) : Int) - 16) = ((n + 16 - 16 : Nat) : Int) := by unfold wrap64; omega
    have e1 : wrap64 (((n + 16 : Nat) : Int) + 1) = ((n + 1 + 16 : Nat) : Int) := by unfold wrap64; omega
    rw [remoraref03_words.l1, if_pos g0, e2, e7, e15, e16, e1, if_pos g2.1, if_pos g2.2, if_pos g15.1, if_pos g15.2, rd_nat, rd_nat, rd_nat, rd_nat, rtu_at _ 17 17 rfl (by decide), rtu_at _ 19 19 rfl (by decide), Option.bind_some, Option.bind_some, if_pos g7.1, if_pos g7.2, rtu_at _ 7 7 rfl (by decide), rtu_at _ 18 18 rfl (by decide), Option.bind_some, Option.bind_some, if_pos g16.1, if_pos g16.2, if_pos g1.1, if_pos g1.2, Int.toNat_natCast]
    unfold wNext
    simp only [IntKind.wrap_u32]
theorem words_l0 (b : List Int) (h64 : b.length = 64) (hb : ∀ i : Nat, 0 ≤ b[i]?.getD 0 ∧ b[i]?.getD 0 ≤ 255) : ∀ (d t : Nat), t + d = 16 → Ev (fun k => remoraref03_words.l0 k b (wT b t) (t : Int)) (shaWords b)
  | 0, t, h => by
    obtain rfl : t = 16 := by omega
    refine Ev.step (fun k => ?_) (words_l1 b 48 0 rfl)
    rw [remoraref03_words.l0, if_neg (by omega)]
    rfl
  | d + 1, t, h => by
    have ih := words_l0 b h64 hb d (t + 1) (by omega)
    refine Ev.step (fun k => ?_) ih
    have hl : (wT b t).length = 64 := wT_len b t
    have g : (t : Int) < 16 := by omega
    have g0 : (0 : Int) ≤ ((4 * t + 0 : Nat) : Int) ∧ ((4 * t + 0 : Nat) : Int) < (b.length : Int) := by omega
    have g1 : (0 : Int) ≤ ((4 * t + 1 : Nat) : Int) ∧ ((4 * t + 1 : Nat) : Int) < (b.length : Int) := by omega
    have g2 : (0 : Int) ≤ ((4 * t + 2 : Nat) : Int) ∧ ((4 * t + 2 : Nat) : Int) < (b.length : Int) := by omega
    have g3 : (0 : Int) ≤ ((4 * t + 3 : Nat) : Int) ∧ ((4 * t + 3 : Nat) : Int) < (b.length : Int) := by omega
    have g4 : (0 : Int) ≤ (t : Int) ∧ (t : Int) < ((wT b t).length : Int) := by omega
    have hx := wT_next b hb t (by omega)
    clear ih
    have e0 : wrap64 (4 * (t : Int)) = ((4 * t + 0 : Nat) : Int) := by unfold wrap64; omega
    have e1 : wrap64 (((4 * t + 0 : Nat) : Int) + 1) = ((4 * t + 1 : Nat) : Int) := by unfold wrap64; omega
    have e2 : wrap64 (((4 * t + 0 : Nat) : Int) + 2) = ((4 * t + 2 : Nat) : Int) := by unfold wrap64; omega
    have e3 : wrap64 (((4 * t + 0 : Nat) : Int) + 3) = ((4 * t + 3 : Nat) : Int) := by unfold wrap64; omega
    have e4 : wrap64 ((t : Int) + 1) = ((t + 1 : Nat) : Int) := by unfold wrap64; omega
    rw [remoraref03_words.l0, if_pos g, e0, e1, e2, e3, e4, if_pos g0.1, if_pos g0.2, if_pos g1.1, if_pos g1.2, if_pos g2.1, if_pos g2.2, if_pos g3.1, if_pos g3.2, if_pos g4.1, if_pos g4.2, rd_nat, rd_nat, rd_nat, rd_nat, Int.toNat_natCast, hx]
theorem words_of (b : List Int) (h64 : b.length = 64) (hb : ∀ i : Nat, 0 ≤ b[i]?.getD 0 ∧ b[i]?.getD 0 ≤ 255) : Ev (fun k => remoraref03_words.f k b) (shaWords b) := by
  refine Ev.congr (fun k => ?_) (words_l0 b h64 hb 16 0 rfl)
  unfold remoraref03_words.f
  rw [if_pos (by omega)]
  rfl
theorem shr24 (x : Int) : (shr .u32 x ((24 - 8 * 0 : Nat) : Int)) % 256 = (x / 16777216) % 256 := rfl
theorem shr16 (x : Int) : (shr .u32 x ((24 - 8 * 1 : Nat) : Int)) % 256 = (x / 65536) % 256 := rfl
theorem shr8 (x : Int) : (shr .u32 x ((24 - 8 * 2 : Nat) : Int)) % 256 = (x / 256) % 256 := rfl
theorem shr0 (x : Int) : (shr .u32 x ((24 - 8 * 3 : Nat) : Int)) % 256 = x % 256 := by
  show (x / 2 ^ 0) % 256 = _
  simp
/-- The four bytes of a word. -/
def four (x : Int) : List Int := [(x / 16777216) % 256, (x / 65536) % 256, (x / 256) % 256, x % 256]
def fours (hs : List Int) : Nat → List Int
  | 0 => []
  | i + 1 => fours hs i ++ four (hs[i]?.getD 0)
theorem fours_len (hs : List Int) (i : Nat) : (fours hs i).length = 4 * i := by
  induction i with
  | zero => rfl
  | succ i ih => rw [fours, List.length_append, ih]; rfl
theorem outT_fours (hs : List Int) : ∀ i, i ≤ 8 → outT hs i = fours hs i ++ List.replicate (32 - 4 * i) 0
  | 0, _ => rfl
  | i + 1, h => by
    have ih := outT_fours hs i (by omega)
    rw [outT, ih, fours]
    obtain ⟨x, hx⟩ : ∃ x, x = hs[i]?.getD 0 := ⟨_, rfl⟩
    rw [← hx, outK, outK, outK, outK, outK, shr24, shr16, shr8, shr0]
    have hl := fours_len hs i
    obtain ⟨F, hF⟩ : ∃ F, F = fours hs i := ⟨_, rfl⟩
    rw [← hF] at hl ⊢
    have hr : List.replicate (32 - 4 * i) (0 : Int) = 0 :: 0 :: 0 :: 0 :: List.replicate (32 - 4 * (i + 1)) 0 := by
      rw [show 32 - 4 * i = (32 - 4 * (i + 1)) + 1 + 1 + 1 + 1 by omega, List.replicate_succ, List.replicate_succ, List.replicate_succ, List.replicate_succ]
    rw [hr]
    have hs1 : ∀ (k : Nat) (L : List Int) (y : Int), (F ++ L).set (4 * i + k) y = F ++ L.set k y := fun k L y => by
      rw [List.set_append_right _ _ (by omega), hl, show 4 * i + k - 4 * i = k by omega]
    rw [hs1, hs1, hs1, hs1, List.append_assoc]
    rfl
theorem sum_l1 (hs : List Int) (h8 : hs.length = 8) : ∀ (d i : Nat), i + d = 8 → Ev (fun k => remoraref03_Sum.l1 k hs (fours hs i) (i : Int)) (strOfNums (fours hs 8))
  | 0, i, h => by
    obtain rfl : i = 8 := by omega
    refine Ev.step (f := fun _ => some (strOfNums (fours hs 8))) (fun k => ?_) (Ev.now _)
    rw [remoraref03_Sum.l1, if_neg (by omega)]
  | d + 1, i, h => by
    have ih := sum_l1 hs h8 d (i + 1) (by omega)
    refine Ev.step (fun k => ?_) ih
    have hl := fours_len hs i
    have g0 : (i : Int) < 8 := by omega
    have g1 : (0 : Int) ≤ (i : Int) := by omega
    have g2 : (i : Int) < (hs.length : Int) := by omega
    have e1 : wrap64 ((i : Int) + 1) = ((i + 1 : Nat) : Int) := by unfold wrap64; omega
    rw [remoraref03_Sum.l1, if_pos g0, if_pos g1, if_pos g2, Option.bind_some, rd_nat, if_pos (by rw [hl]; simp only [List.length_cons, List.length_nil]; omega), e1]
    rfl
theorem sum_l0 (all : List Int) (hb : ∀ i : Nat, 0 ≤ all[i]?.getD 0 ∧ all[i]?.getD 0 ≤ 255) (m : Nat) (hm : all.length = 64 * m) (hM : m ≤ 1000000000) : ∀ (d j : Nat), j + d = m → Ev (fun k => remoraref03_Sum.l0 k all (shFull all j) ((64 * j : Nat) : Int)) (strOfNums (fours (shFull all m) 8))
  | 0, j, h => by
    obtain rfl : j = m := by omega
    have h1 := sum_l1 (shFull all j) (shFull_len all j) 8 0 rfl
    refine Ev.step (fun k => ?_) h1
    rw [remoraref03_Sum.l0, if_neg (by omega), if_pos (by omega)]
    rfl
  | d + 1, j, h => by
    have ih := sum_l0 all hb m hm hM d (j + 1) (by omega)
    have hw : Ev (fun k => remoraref03_words.f k ((all.drop (64 * j)).take 64)) (shaWords ((all.drop (64 * j)).take 64)) := by
      refine words_of _ (by rw [List.length_take, List.length_drop]; omega) (fun i => ?_)
      rcases Nat.lt_or_ge i 64 with h64 | h64
      · rw [List.getElem?_take, if_pos h64, List.getElem?_drop]
        exact hb _
      · rw [List.getElem?_take, if_neg (by omega)]
        simp
    have hblk : remoraref03_block.f (shFull all j) (shaWords ((all.drop (64 * j)).take 64)) = some (shFull all (j + 1)) := by
      unfold remoraref03_block.f
      rw [if_pos (shFull_len all j), if_pos (shaWords_len _)]
      rfl
    have g0 : ((64 * j : Nat) : Int) < (all.length : Int) := by omega
    have g1 : (0 : Int) ≤ ((64 * j : Nat) : Int) := by omega
    have g2 : ((64 * j : Nat) : Int) ≤ ((64 * (j + 1) : Nat) : Int) := by omega
    have g3 : ((64 * (j + 1) : Nat) : Int) ≤ (all.length : Int) := by omega
    have e1 : wrap64 (((64 * j : Nat) : Int) + 64) = ((64 * (j + 1) : Nat) : Int) := by unfold wrap64; omega
    have hcut : (all.take (64 * (j + 1))).drop (64 * j) = (all.drop (64 * j)).take 64 := by rw [List.drop_take]; congr 1; omega
    have hfin : Ev (fun k => (remoraref03_words.f k ((all.drop (64 * j)).take 64)).bind fun t153 => (remoraref03_block.f (shFull all j) t153).bind fun t156 => remoraref03_Sum.l0 k all t156 ((64 * (j + 1) : Nat) : Int)) (strOfNums (fours (shFull all m) 8)) := by
      refine Ev.bind hw ?_
      refine Ev.congr (fun k => ?_) ih
      rw [hblk, Option.bind_some]
    refine Ev.step (fun k => ?_) hfin
    rw [remoraref03_Sum.l0, if_pos g0, if_pos g1, e1, if_pos g2, if_pos g3, Int.toNat_natCast, Int.toNat_natCast, hcut]
theorem shaTail_bytes (n : Nat) : ∀ x ∈ shaTail n 8, 0 ≤ x ∧ x ≤ 255 := by
  intro x hx
  unfold shaTail at hx
  obtain ⟨i, _, rfl⟩ := List.mem_map.1 hx
  omega
theorem all_bytes (l0 : List Int) (hb : ∀ x ∈ l0, 0 ≤ x ∧ x ≤ 255) (i : Nat) : 0 ≤ (l0 ++ shaEnd l0.length)[i]?.getD 0 ∧ (l0 ++ shaEnd l0.length)[i]?.getD 0 ≤ 255 := by
  have h : ∀ x ∈ l0 ++ shaEnd l0.length, 0 ≤ x ∧ x ≤ 255 := by
    intro x hx
    rcases List.mem_append.1 hx with h1 | h1
    · exact hb x h1
    · unfold shaEnd at h1
      rcases List.mem_append.1 h1 with h2 | h2
      · rcases List.mem_append.1 h2 with h3 | h3
        · obtain rfl := List.mem_singleton.1 h3; omega
        · obtain rfl := (List.mem_replicate.1 h3).2; omega
      · exact shaTail_bytes _ x h2
  rcases Nat.lt_or_ge i (l0 ++ shaEnd l0.length).length with hi | hi
  · rw [List.getElem?_eq_getElem hi]
    exact h _ (List.getElem_mem hi)
  · rw [List.getElem?_eq_none hi]
    simp
/-- The reference's sum is the program's. -/
theorem rsum_of (l0 : List Int) (hn : l0.length ≤ 1000000000) (hb : ∀ x ∈ l0, 0 ≤ x ∧ x ≤ 255) : Ev (fun k => remoraref03_Sum.f k l0) (strOfNums (shaSum l0)) := by
  have h1 := filled_of l0 hn
  have he := shaEnd_len l0.length
  have hab := all_bytes l0 hb
  have hL : (l0 ++ shaEnd l0.length).length = l0.length + (shaEnd l0.length).length := List.length_append
  obtain ⟨all, hall⟩ : ∃ all, all = l0 ++ shaEnd l0.length := ⟨_, rfl⟩
  rw [← hall] at h1 hab hL
  have h2 := sum_l0 all hab (all.length / 64) (by omega) (by omega) (all.length / 64) 0 (by omega)
  have hs : strOfNums (fours (shFull all (all.length / 64)) 8) = strOfNums (shaSum l0) := by
    rw [shaSum, ← hall, outT_fours _ 8 (by omega)]
    simp
  rw [hs] at h2
  exact Ev.bind h1 h2
theorem sum_f (l0 : List Int) (hn : l0.length ≤ 1000000000) : sha_Sum.f l0 = some (strOfNums (shaSum l0)) := by
  unfold sha_Sum.f
  rw [if_pos (by omega)]
theorem strOfNums_size (l : List Int) : (strOfNums l).size = l.length := by
  unfold strOfNums
  show Array.size _ = _
  simp
theorem rd8_arr {w : World} {g s : Nat} {e : TypeId} {xs : List Int} (h : Arr w g e .u8 xs) (hne : g ≠ s) (o n : Nat) (hn : o + n ≤ xs.length) (A : Option Addr) (hA : 0 < n → A = some ⟨g, o, none⟩) : Rd8 w s A ((xs.drop o).take n) := fun hb => by
  have hp : 0 < n := by
    rcases Nat.eq_zero_or_pos n with h0 | h0
    · subst h0; exact absurd (List.take_zero) hb
    · exact h0
  refine ⟨_, hA hp, hne, fun j hj => ?_⟩
  have hj' : j < n := by rw [List.length_take] at hj; omega
  have ha : (⟨g, o, none⟩ : Addr).add j = ⟨g, o + j, none⟩ := by unfold Addr.add; split <;> simp_all
  rw [ha, h.cell (o + j) (by omega), List.getElem?_take, if_pos hj', List.getElem?_drop, List.getD_eq_getElem?_getD]
section
variable {P : Program} {ops : Array Oper} {rest : List Oper} {o : Oper} {a : Act} {Q : Exit → Act → World → Prop}
/-- 'make([]byte, n)'. -/
theorem make_arr {W : World} (hgd : o.guard = none) {N : Tmp} (hd : o.dst = some N) (t e : TypeId) (x y : Operand) (ho : o.op = .makeSlice t x y) (n : Nat) (hx : a.eval x = .int .i64 (n : Int)) (hy : a.eval y = .int .i64 (n : Int)) (ht : P.underlying t = some (.slice e)) (hinfo : (P.info? e).map (fun i => (i.zero, i.size, i.bytes)) = some (some (.int .u8 0), 1, 1)) (hn : n ≤ 281474976710656)
    (h : ∀ g w1, W.heap.size = g → Arr w1 g e .u8 (List.replicate n 0) → Below W.heap.size W w1 → wpList P ops Q rest (a.put o.dst (.slice (some ⟨g, 0, none⟩) n n)) w1) : wpList P ops Q (o :: rest) a W := by
  obtain ⟨i0, hi, hzz⟩ := Option.map_eq_some_iff.1 hinfo
  simp only [Prod.mk.injEq] at hzz
  obtain ⟨hz0, hz1, hz2⟩ := hzz
  have hr := run_make (P := P) W t e i0 (.int .u8 0) ht hi hz0 .i64 .i64 (n : Int) (n : Int) (by omega) (by omega)
    (by rw [hz2]; omega) (by omega)
  simp only [Int.toNat_natCast] at hr
  rw [hz1] at hr
  have hrun : (execOp a.eval o).run P W = .ok (.value (.slice (some ⟨W.heap.size, 0, none⟩) n n)) (W.alloc (.cells (madeCells (Value.int .u8 0).cells (n * 1)) e)) := by
    simp [execOp, ho, hx, hy, hr]
  refine Kd.event_run hgd hrun (h _ _ rfl ?_ (below_alloc (Below.refl _ _) _))
  have hm : madeCells (Value.int .u8 0).cells (n * 1) = ((List.replicate n (0 : Int)).map (Value.int .u8)).toArray := by
    rw [Nat.mul_one, List.map_replicate]
    refine Array.ext (by simp [madeCells]) (fun i h1 h2 => ?_)
    simp [madeCells, Value.cells, Nat.mod_one]
  rw [hm]
  exact heap_new_ _ _
end
theorem sha_Write.calls_n (g : Nat) (bs : List Int) (A : Option Addr) (c : Nat) (b : List Int) (m : Nat) (hm : b.length = m) (w : World) (hS : StN w g bs (bs.length : Int)) (hA : Rd8 w g A b) (hc : m ≤ c) (hlen : bs.length + m < 9223372036854775808) :
    Calls Tryd.prog 8 #[.pointer (some ⟨g, 0, none⟩), .slice A m c] w fun e w' => e = .returned (.tuple #[]) ∧ StN w' g (bs ++ b) ((bs ++ b).length : Int) ∧ w.grownBy w' (some g) := by
  subst hm
  exact sha_Write.calls g bs A c b w hS hA hc hlen
theorem sha_Sum.calls_n (A0 : Option Addr) (c0 : Nat) (l0 : List Int) (m : Nat) (hm : l0.length = m) (r : ByteArray) (w : World) (hr0 : Kd.C (Kd.int .u8) w A0 m l0) (hc0 : m ≤ c0) (h : sha_Sum.f l0 = some r) :
    Calls Tryd.prog 10 #[.slice A0 m c0] w fun e w' => e = .returned (.string r) ∧ Below w.heap.size w w' := by
  subst hm
  exact sha_Sum.calls A0 c0 l0 r w hr0 hc0 h
theorem arr_C {w : World} {g : Nat} {e : TypeId} {k : IntKind} {xs : List Int} (h : Arr w g e k xs) (hl : xs.length ≤ 9223372036854775807) : Kd.C (Kd.int k) w (some ⟨g, 0, none⟩) xs.length xs := Kd.C_of_reads (d := (0 : Int)) (h1 := fun _ => rfl) (arr_reads h hl)
section
variable {P : Program} {ops : Array Oper} {rest : List Oper} {o : Oper} {a : Act} {Q : Exit → Act → World → Prop}
/-- 'b[q:]' of a row from its head. -/
theorem slice_from {W : World} (hgd : o.guard = none) (t e : TypeId) (x lo : Operand) (ho : o.op = .slice t x (some lo) none none) {g n q : Nat} (hx : a.eval x = .slice (some ⟨g, 0, none⟩) n n) (hl : a.eval lo = .int .i64 (q : Int)) (ht : P.underlying t = some (.slice e)) (hs : (P.info? e).map (·.size) = some 1) (hq : q ≤ n)
    (h : ∀ A : Option Addr, (0 < n - q → A = some ⟨g, q, none⟩) → wpList P ops Q rest (a.put o.dst (.slice A (n - q) (n - q))) W) : wpList P ops Q (o :: rest) a W := by
  have hel : P.elem t = e := by simp [Program.elem, ht]
  have hu : P.underlying t = some (.slice (P.elem t)) := by rw [hel]; exact ht
  obtain ⟨i0, hi, hz⟩ := Option.map_eq_some_iff.1 hs
  have hr : (Instr.slice t (.slice (some ⟨g, 0, none⟩) n n) (some (.int .i64 (q : Int))) none none).run P W = .ok (.slice (if n = q then some ⟨g, 0, none⟩ else some ((⟨g, 0, none⟩ : Addr).add q)) (n - q) (n - q)) W := by
    rw [run_slice_l W t (some ⟨g, 0, none⟩) n n hu .i64 (q : Int) (by omega) (by omega), hel]
    simp [sizeOf, typeInfo, hi, hz, sliced, Result.andThen]
  refine Kd.event_run hgd (v := .slice (if n = q then some ⟨g, 0, none⟩ else some ((⟨g, 0, none⟩ : Addr).add q)) (n - q) (n - q)) (w1 := W) ?_ (h _ (fun hp => ?_))
  · simp [execOp, ho, hx, hl, run_sliceAt_slice W t _ _ _ _ hu, hr]
  · rw [if_neg (by omega), add_plain]
end
theorem remoraref03_Sum.calls_n (k : Nat) (A0 : Option Addr) (c0 : Nat) (l0 : List Int) (m : Nat) (hm : l0.length = m) (r : ByteArray) (w : World) (hr0 : Kd.C (Kd.int .u8) w A0 m l0) (hc0 : m ≤ c0) (h : remoraref03_Sum.f k l0 = some r) (hG : GL w) :
    Calls Tryd.prog 11 #[.slice A0 m c0] w fun e w' => e = .returned (.string r) ∧ Below w.heap.size w w' := by
  subst hm
  exact remoraref03_Sum.calls k A0 c0 l0 r w hr0 hc0 h hG
set_option maxHeartbeats 8000000 in
set_option maxRecDepth 100000 in
theorem sha_Len.calls (g : Nat) (bs : List Int) (w : World) (hS : StN w g bs (bs.length : Int)) : Calls Tryd.prog 15 #[.pointer (some ⟨g, 0, none⟩)] w fun e w' => e = .returned (.int .i64 (bs.length : Int)) ∧ Drawn0 w w' := by
  have hn := hS.n_
  obtain ⟨l, hl⟩ : ∃ l : Nat, l = bs.length := ⟨_, rfl⟩
  rw [← hl] at hn ⊢
  clear hS hl
  go_enter Tryd.func15, Tryd.ntmps15
  go_wp2
  go_ret
  exact ⟨rfl, by repeat (first | exact Drawn0.refl _ | apply Drawn0.step)⟩
set_option maxHeartbeats 8000000 in
set_option maxRecDepth 100000 in
theorem sha_Len.calls_nil (w : World) : Calls Tryd.prog 15 #[.pointer none] w fun e w' => e = .returned (.int .i64 0) ∧ Drawn0 w w' := by
  go_enter Tryd.func15, Tryd.ntmps15
  go_wp2
  go_ret
  exact ⟨rfl, by repeat (first | exact Drawn0.refl _ | apply Drawn0.step)⟩
theorem drawn_below {w w' : World} (h : Drawn0 w w') : Below w.heap.size w w' := by
  obtain ⟨n, rfl⟩ := h
  exact pw_below_drewN (Below.refl _ _) n
theorem C_rd8 {w : World} {s : Nat} {A : Option Addr} {l : List Int} (h : Kd.C (Kd.int .u8) w A l.length l) (W : World) (hb : Below w.heap.size w W) (hs : w.heap.size ≤ s) : Rd8 W s A l :=
  Rd8.of_C (Kd.C_below h hb) (fun hp ad e => by subst e; have h2 := Kd.C_lt h hp (by decide); omega)
theorem C_len {k : IntKind} {w : World} {A : Option Addr} {n m : Nat} {l : List Int} (h : Kd.C (Kd.int k) w A n l) (e : m = n) : Kd.C (Kd.int k) w A m l := by subst e; exact h
theorem row_at {e : Nat} {k : IntKind} {w : World} {A : Option Addr} {n : Nat} {xs : List (List Int)} (h : Kd.C (Kd.slice e (Kd.int k)) w A n xs) (i : Nat) (hi : i < n) :
    ∃ ad A0 c0, A = some ad ∧ w.cell? (ad.add i) = some (.slice A0 (xs.getD i []).length c0) ∧ (xs.getD i []).length ≤ c0 ∧ (Kd.int k).C w A0 (xs.getD i []).length (xs.getD i []) := by
  obtain ⟨ad, c, ea, hs, hK, hc⟩ := Kd.C_get h ([] : List Int) (i : Int) (by omega) (by omega)
  obtain ⟨A0, c0, rfl, hl, hr⟩ := hK
  rw [Int.toNat_natCast] at hl hr hc
  exact ⟨ad, A0, c0, ea, by have hq := hc 0 _ rfl; rwa [show (Kd.slice e (Kd.int k)).sz = 1 from rfl, Nat.mul_one, Nat.add_zero] at hq, hl, hr⟩
def remoralaw03_ShaPieces.f (l0 : List (List Int)) : Option Bool := if l0.all (fun l => decide (l.length ≤ 140737488351232) && l.all (fun x => decide (0 ≤ x ∧ x ≤ 255))) = true then some true else none
set_option maxHeartbeats 8000000 in
set_option maxRecDepth 100000 in
theorem remoralaw03_ShaPieces.calls (A0 : Option Addr) (c0 : Nat) (l0 : List (List Int)) (r : Bool) (w : World) (hr0 : Kd.C (Kd.slice 5 (Kd.int .u8)) w A0 l0.length l0) (hc0 : l0.length ≤ c0) (h : remoralaw03_ShaPieces.f l0 = some r) (hG : GL w) :
    Calls Tryd.prog 5 #[.slice A0 l0.length c0] w fun e w' => e = .returned (.bool r) ∧ Below w.heap.size w w' := by
  unfold remoralaw03_ShaPieces.f at h
  by_cases hby : l0.all (fun l => decide (l.length ≤ 140737488351232) && l.all (fun x => decide (0 ≤ x ∧ x ≤ 255))) = true
  · rw [if_pos hby] at h
    obtain rfl := Option.some.inj h
    have HBY := Aside0.mk (show ∀ l ∈ l0, l.length ≤ 140737488351232 ∧ ∀ x ∈ l, 0 ≤ x ∧ x ≤ 255 from fun l hl => by have h1 := List.all_eq_true.1 hby l hl; rw [Bool.and_eq_true] at h1; exact ⟨of_decide_eq_true h1.1, fun x hx => of_decide_eq_true (List.all_eq_true.1 h1.2 x hx)⟩)
    have HGL := Aside0.mk hG
    have HR0 := Aside0.mk hr0
    obtain ⟨m, hm⟩ : ∃ m : Nat, m = l0.length := ⟨_, rfl⟩
    rw [← hm]
    have HM := Aside0.mk hm
    clear h hby hG hr0 hc0 hm
    go_enter Tryd.func5, Tryd.ntmps5
    go_wp2_with (first
      | ((with_reducible refine gate_dst (N := 6) rfl ?_); refine Kd.R_lit (Kd.int .u8) w.heap.size 5 ?hg (N := 6) ?hd (xs := ([] : List Int)) (inner := []) (ok := fun _ => True) (okp := fun _ => True) ?hr ?hp (fun _ hk => hk) trivial (Below.refl _ _) (Nat.le_refl _) (by simp) ?_; (case hd => rfl); (case hg => rfl); (case hr => first | (go_simp; done) | (go_simp; rfl)); (case hp => exact (Reps.none _ _)); intro v6 w1 ho hb hg_ hnew_; have HO := Aside0.mk ho; have HB := Aside0.mk hb; clear ho hb hg_ hnew_)
      | ((with_reducible refine gate_callee (f := 7) rfl ?_); refine goesL_ (some 7) rfl rfl Tryd.func7 (by kernel_rfl) rfl #[] rfl (by simp) ?_; refine (sha_New.calls _).mono ?_; rintro e w2 ⟨s, rfl, hs, hS1, hb1⟩; refine ⟨_, rfl, ?_⟩; have HS := Aside0.mk (StN.new hS1); have HV := Aside0.mk (Kd.R_mono (Kd.R_below (Kd.R_bound HO.out) hb1) (ok' := fun k => k ≠ s) (fun k hk => by have := hk.2.2.1; omega)); have HGS := Aside0.mk (show w.heap.size ≤ s by have := HB.out.size; omega); have HB2 := Aside0.mk (HB.out.trans (belowTo hb1 HB.out.size)); clear hS1 hb1 hs HO HB))
    go_loopg [3, 5] (m + 1) (fun kq v3 v5 w' => ∃ (i : Nat) (all : List Int), v5 = .int .i64 (i : Int) ∧ Aside0 (i + kq = m + 1 ∧ i ≤ m ∧ i ≤ 40 ∧ all.length ≤ 4000 ∧ ∀ x ∈ all, 0 ≤ x ∧ x ≤ 255) ∧ Aside0 (Kd.R (Kd.int .u8) 5 w' w.heap.size (fun k => k ≠ s) v3 all) ∧ Aside0 (StN w' s all (all.length : Int)) ∧ Aside0 (Below w.heap.size w w'))
    case atStart => exact ⟨0, [], rfl, ⟨by omega, by omega, by omega, by simp, by simp⟩, HV, HS, HB2⟩
    case round =>
      clear HV HS HB2
      obtain ⟨i, all, rfl, hk, HV, HS, HB⟩ := hrel
      obtain ⟨Av, cv, rfl, hlv, hCv⟩ := Kd.R_reads HV.out
      obtain ⟨al, hal⟩ : ∃ al : Nat, al = all.length := ⟨_, rfl⟩
      have HCV := Aside0.mk (And.intro hlv hCv)
      have HAL := Aside0.mk hal
      clear hlv hCv
      rw [← hal]
      clear hal
      obtain ⟨S, hS⟩ : ∃ S, S = strOfNums (shaSum all) := ⟨_, rfl⟩
      have HSS := Aside0.mk hS
      clear hS
      by_cases hlt : i < m ∧ i < 40
      · obtain ⟨k1, rfl⟩ : ∃ k1, gk = k1 + 1 := ⟨gk - 1, by have := hk.out.1; omega⟩
        have HI := Aside0.mk hlt
        obtain ⟨ad, Ap, cp, rfl, hx0, hcp, hCp⟩ := row_at HR0.out i (by rw [← HM.out]; exact hlt.1)
        have hx := pw_cell_below HB.out hx0
        obtain ⟨p, hp⟩ : ∃ p, p = l0.getD i [] := ⟨_, rfl⟩
        rw [← hp] at hx hx0 hcp hCp
        have hmem : p ∈ l0 := by
          have hl : i < l0.length := by rw [← HM.out]; exact hlt.1
          rw [hp, List.getD_eq_getElem?_getD, List.getElem?_eq_getElem hl]
          exact List.getElem_mem hl
        have HPB := Aside0.mk (HBY.out p hmem).2
        have hplen := (HBY.out p hmem).1
        obtain ⟨pl, hpl⟩ : ∃ pl : Nat, pl = p.length := ⟨_, rfl⟩
        rw [← hpl] at hx hx0 hcp
        have HPL := Aside0.mk hpl
        have HX0 := Aside0.mk hx0
        have HCP := Aside0.mk (And.intro hcp hCp)
        have hplm : pl ≤ 140737488351232 := by omega
        have hal4 : al ≤ 4000 := by have h1 := hk.out.2.2.2.1; have h2 := HAL.out; omega
        obtain ⟨tl, htl⟩ : ∃ tl : Nat, tl = al + pl := ⟨_, rfl⟩
        have etl : wrap64 ((al : Int) + (pl : Int)) = (tl : Int) := by unfold wrap64; omega
        have HTL := Aside0.mk htl
        have d1 : decide ((i : Int) < (m : Int)) = true := decide_eq_true (by omega)
        have d2 : decide (i < m) = true := decide_eq_true hlt.1
        have d3 : decide ((i : Int) < 40) = true := decide_eq_true (by omega)
        have d4 : decide (i < 40) = true := decide_eq_true hlt.2
        have hw : wrap64 ((i : Int) + 1) = ((i + 1 : Nat) : Int) := by unfold wrap64; omega
        have HW := Aside0.mk hw
        have p0 := eq_true (show (i : Int) < (m : Int) by omega)
        have o0 := eq_true (show (0 : Int) ≤ (i : Int) by omega)
        clear hlt hp hx0 hcp hCp hmem hpl hw hplm hal4 htl hplen
        by_cases hbig : tl > 4000
        · have d5 : decide ((tl : Int) > 4000) = true := decide_eq_true (by omega)
          have d6 : decide (4000 < tl) = true := decide_eq_true hbig
          clear hbig
          go_wp2_with fail
          refine (remoralaw03_awake.calls true _ rfl).mono ?_
          rintro e w3 ⟨rfl, hb3⟩
          have HB3 := Aside0.mk (HB.out.trans (belowTo hb3 HB.out.size))
          clear hb3
          go_wp2_with fail
          go_ret
          exact ⟨rfl, HB3.out⟩
        · have d5 : decide ((tl : Int) > 4000) = false := decide_eq_false (by omega)
          have d6 : decide (4000 < tl) = false := decide_eq_false hbig
          have HT4 := Aside0.mk (show tl ≤ 4000 by omega)
          clear hbig
          go_wp2_with fail
          have hrd := C_rd8 HCP.out.2 wr HB.out HGS.out
          have HLEN := Aside0.mk (show (all ++ p).length = tl by rw [List.length_append, ← HAL.out, ← HPL.out, HTL.out])
          refine (sha_Write.calls_n s all Ap cp p pl HPL.out.symm _ HS.out hrd HCP.out.1 (by have h1 := HAL.out; have h2 := HTL.out; have h3 := HT4.out; omega)).mono ?_
          rintro e w3 ⟨rfl, hS3, hg3⟩
          have HV3 := Aside0.mk (Kd.R_grown HV.out hg3 (fun k hk he => hk (Option.some.inj he)))
          rw [← HAL.out] at HV3
          have HS3 := Aside0.mk hS3
          have HB3 := Aside0.mk (belowBy HB.out hg3 HB.out.size (fun k hk => by have := HGS.out; have := Option.some.inj hk; omega))
          have hx3 := pw_cell_below HB3.out HX0.out
          clear hS3 hg3 hrd hx HV HS HB HCV
          go_wp2_with (first | ((with_reducible refine gate_dst (N := 39) rfl ?_); refine Kd.R_append_row (Value.int .u8) (0 : Int) (h1 := fun _ => rfl) (w0 := w) w.heap.size rfl (.tmp 34) (.tmp 38) 22 5 (.int .u8 0) 1 rfl Tryd.underlying22 info5 rfl (by omega) (.slice Av al cv) all p Ap pl cp (fun k => k ≠ s) rfl rfl (fun k hk => by have := HS3.out.lt; omega) HV3.out (C_len (Kd.C_below HCP.out.2 HB3.out) HPL.out) HB3.out HB3.out.size (by have h1 := HAL.out; have h2 := HTL.out; have h3 := HT4.out; omega) ?_; intro v39 w4 ho hb hg hat; have HV4 := Aside0.mk ho; have HB4 := Aside0.mk hb; have HS4 := Aside0.mk (HS3.out.grown hg (fun he => (HV3.out.1 s he.symm) rfl)); clear ho hb hg hat hx3 HV3 HB3 HS3))
          obtain ⟨S2, hS2⟩ : ∃ S, S = strOfNums (shaSum (all ++ p)) := ⟨_, rfl⟩
          have hb2 : ∀ x ∈ all ++ p, 0 ≤ x ∧ x ≤ 255 := fun x hx => by
            rcases List.mem_append.1 hx with h1 | h1
            · exact hk.out.2.2.2.2 x h1
            · exact HPB.out x h1
          have HB2 := Aside0.mk hb2
          obtain ⟨kr, hkr⟩ := (rsum_of (all ++ p) (by rw [HLEN.out]; have := HT4.out; omega) hb2).rounds
          rw [← hS2] at hkr
          have HKR := Aside0.mk hkr
          have HS2 := Aside0.mk hS2
          clear hS2 hb2 hkr
          refine (sha_StateSum.calls s (all ++ p) _ HS4.out (by rw [HLEN.out]; have := HT4.out; omega)).mono ?_
          rintro e w5 ⟨rfl, hb5⟩
          rw [← HS2.out]
          have HV5 := Aside0.mk (Kd.R_below HV4.out hb5)
          have HS5 := Aside0.mk (HS4.out.below hb5)
          have HB5 := Aside0.mk (HB4.out.trans (belowTo hb5 HB4.out.size))
          clear hb5 HV4 HS4 HB4
          go_wp2_with fail
          obtain ⟨A39, c39, rfl, hl39, hc39⟩ := Kd.R_reads HV5.out
          rw [HLEN.out] at hl39 hc39 ⊢
          refine (remoraref03_Sum.calls_n kr A39 c39 (all ++ p) tl HLEN.out S2 _ hc39 hl39 HKR.out (HGL.out.below HB5.out)).mono ?_
          rintro e w6 ⟨rfl, hb6⟩
          have HV6 := Aside0.mk (Kd.R_below HV5.out hb6)
          have HS6 := Aside0.mk (HS5.out.below hb6)
          have HB6 := Aside0.mk (HB5.out.trans (belowTo hb6 HB5.out.size))
          clear hb6 HV5 HS5 HB5 hl39 hc39
          go_wp2_with fail
          refine (sha_Len.calls s (all ++ p) _ HS6.out).mono ?_
          rintro e w7 ⟨rfl, hd7⟩
          rw [HLEN.out]
          have HV7 := Aside0.mk (Kd.R_below HV6.out (drawn_below hd7))
          have HS7 := Aside0.mk (HS6.out.below (drawn_below hd7))
          have HB7 := Aside0.mk (HB6.out.trans (belowTo (drawn_below hd7) HB6.out.size))
          clear hd7 HV6 HS6 HB6
          rw [HLEN.out] at HV7
          go_wp2_with fail
          go_roundg k1
          case measure => omega
          case rel => exact ⟨i + 1, all ++ p, by rw [HW.out], ⟨by have := hk.out.1; omega, by have := HI.out; omega, by have := HI.out; omega, by rw [HLEN.out]; exact HT4.out, HB2.out⟩, HV7, HS7, HB7⟩
      · obtain ⟨kr, hkr⟩ : ∃ kr : Nat, kr = kr := ⟨0, rfl⟩
        clear hkr
        have hsz : all.length ≤ 4000 := hk.out.2.2.2.1
        have HSF := Aside0.mk (show sha_Sum.f all = some S by rw [HSS.out]; exact sum_f all (by omega))
        have HSZ := Aside0.mk hsz
        clear hsz
        have hout : (decide ((i : Int) < (m : Int)) = false ∧ decide (i < m) = false) ∨ ((decide ((i : Int) < (m : Int)) = true ∧ decide (i < m) = true) ∧ decide ((i : Int) < 40) = false ∧ decide (i < 40) = false) := by
          by_cases h1 : i < m
          · exact Or.inr ⟨⟨decide_eq_true (by omega), decide_eq_true h1⟩, decide_eq_false (by omega), decide_eq_false (by omega)⟩
          · exact Or.inl ⟨decide_eq_false (by omega), decide_eq_false h1⟩
        clear hlt
        rcases hout with ⟨d1, d2⟩ | ⟨⟨d1, d2⟩, d3, d4⟩
        all_goals
          go_wp2_with fail
          refine (sha_StateSum.calls s all _ HS.out (by have := HSZ.out; omega)).mono ?_
          rintro e w5 ⟨rfl, hb5⟩
          rw [← HSS.out]
          have HC5 := Aside0.mk (C_len (Kd.C_below HCV.out.2 hb5) HAL.out)
          have HB5 := Aside0.mk (HB.out.trans (belowTo hb5 HB.out.size))
          clear hb5
          go_wp2_with fail
          refine (sha_Sum.calls_n Av cv all al HAL.out.symm S _ HC5.out (by rw [HAL.out]; exact HCV.out.1) HSF.out).mono ?_
          rintro e w6 ⟨rfl, hb6⟩
          have HB6 := Aside0.mk (HB5.out.trans (belowTo hb6 HB5.out.size))
          clear hb6
          go_wp2_with fail
          refine (remoralaw03_awake.calls true _ rfl).mono ?_
          rintro e w7 ⟨rfl, hb7⟩
          have HB7 := Aside0.mk (HB6.out.trans (belowTo hb7 HB6.out.size))
          clear hb7
          go_wp2_with fail
          go_ret
          exact ⟨rfl, HB7.out⟩
  · rw [if_neg hby] at h
    cases h



/-- THE ONE PURE STATEMENT of remoralaw03_ShaPieces. -/
def remoralaw03_ShaPieces.Pure : Prop := ∀ (l0 : List (List Int)), ((l0.length ≤ maxLen ∧ ∀ q0_ ∈ l0, ((q0_.length ≤ maxLen ∧ ∀ q1_ ∈ q0_, (Lit.int .u8 q1_).wf = true) ∧ q0_.length * 1 ≤ 140737488351232)) ∧ l0.length * 24 ≤ 140737488351232) → l0.length * 24 ≤ 140737488351232 → remoralaw03_ShaPieces.f l0 = some true

end Go.Proofs.YtffiakioddhicaaDoor.PShaPieces
