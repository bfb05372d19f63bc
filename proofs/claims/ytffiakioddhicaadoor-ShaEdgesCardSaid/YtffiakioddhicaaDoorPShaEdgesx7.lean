-- Written by a program of this session (the kit's printer with hand-written contracts among its functions).
import Derived.Test.YtffiakioddhicaaDoorPShaEdgesx0
import Derived.Test.YtffiakioddhicaaDoorPShaEdgesx2
import Derived.Test.YtffiakioddhicaaDoorPShaEdgesx3
import Derived.Test.YtffiakioddhicaaDoorPShaEdgesx4
import Derived.Test.YtffiakioddhicaaDoorPShaEdgesx5
import Derived.Test.YtffiakioddhicaaDoorPShaEdgesx6
namespace Go.Proofs.YtffiakioddhicaaDoor.PShaEdges
open Go.RowKit Go.Proofs.YtffiakioddhicaaDoorW.PrintWords Go.Proofs.YtffiakioddhicaaDoorW.PrintLast Go.Proofs.YtffiakioddhicaaDoorW.PrintMore
attribute [local go_sem] max2_int min2_int max_two min_two max_three min_three max_four min_four   -- for this text's walks alone
set_option linter.unusedVariables false
set_option linter.unusedSimpArgs false

/-! ### remoralaw03_ShaEdges: function 3 -/
theorem wf8 {n : Int} (h : (Lit.int .u8 n).wf = true) : 0 ≤ n ∧ n < 256 := by
  have e0 : IntKind.u8.min = 0 := by decide
  have e1 : IntKind.u8.max = 255 := by decide
  simp [Lit.wf, e0, e1] at h
  omega
theorem byte_wf {n : Int} (h : (Lit.int .u8 n).wf = true) : 0 ≤ n ∧ n ≤ 255 := by have := wf8 h; omega
theorem f_tail (n i : Nat) (hn : n ≤ 281474976710656) (hi : i < 8) : (shr .u64 (IntKind.u64.wrap (wrap64 (8 * (n : Int)))) (IntKind.u64.wrap (wrap64 (56 - wrap64 (8 * (i : Int)))))) % 256 = (shr .u64 (IntKind.u64.wrap ((IntKind.u64.wrap ((n : Nat) : Int)) * 8)) ((56 - 8 * i : Nat) : Int)) % 256 := by
  have e1 : wrap64 (8 * (i : Int)) = 8 * (i : Int) := by unfold wrap64; omega
  have e2 : wrap64 (56 - 8 * (i : Int)) = ((56 - 8 * i : Nat) : Int) := by unfold wrap64; omega
  have e3 : IntKind.u64.wrap ((56 - 8 * i : Nat) : Int) = ((56 - 8 * i : Nat) : Int) := by rw [IntKind.wrap_u64]; omega
  have e4 : wrap64 (8 * (n : Int)) = 8 * (n : Int) := by unfold wrap64; omega
  have e5 : IntKind.u64.wrap ((IntKind.u64.wrap ((n : Nat) : Int)) * 8) = IntKind.u64.wrap (8 * (n : Int)) := by rw [IntKind.wrap_u64, IntKind.wrap_u64, IntKind.wrap_u64]; omega
  rw [e1, e2, e3, e4, e5]
theorem filled_l1 (n : Nat) (hn : n ≤ 281474976710656) (x : List Int) (hx : x.length < 100000000000) : ∀ (d i : Nat), i + d = 8 → Ev (fun k => remoraref03_filled.l1 k (x ++ shaTail n i) (IntKind.u64.wrap (wrap64 (8 * (n : Int)))) (i : Int)) (x ++ shaTail n 8)
  | 0, i, h => by
    obtain rfl : i = 8 := by omega
    refine Ev.step (f := fun _ => some (x ++ shaTail n 8)) (fun k => ?_) (Ev.now _)
    rw [remoraref03_filled.l1, if_neg (by omega)]
  | d + 1, i, h => by
    have ih := filled_l1 n hn x hx d (i + 1) (by omega)
    refine Ev.step (fun k => ?_) ih
    have e1 : wrap64 (8 * (i : Int)) = 8 * (i : Int) := by unfold wrap64; omega
    have e2 : wrap64 (56 - 8 * (i : Int)) = ((56 - 8 * i : Nat) : Int) := by unfold wrap64; omega
    have e3 : IntKind.u64.wrap ((56 - 8 * i : Nat) : Int) = ((56 - 8 * i : Nat) : Int) := by rw [IntKind.wrap_u64]; omega
    have e6 : wrap64 ((i : Int) + 1) = ((i + 1 : Nat) : Int) := by unfold wrap64; omega
    have hl : (x ++ shaTail n i).length < 140737488355328 := by rw [List.length_append, shaTail, List.length_map, List.length_range]; omega
    rw [remoraref03_filled.l1, if_pos (by omega), if_pos (by rw [e1, e2, e3]; omega), if_pos hl, f_tail n i hn (by omega), e6, List.append_assoc]
    have hs : shaTail n i ++ [(shr .u64 (IntKind.u64.wrap ((IntKind.u64.wrap ((n : Nat) : Int)) * 8)) ((56 - 8 * i : Nat) : Int)) % 256] = shaTail n (i + 1) := by
      rw [shaTail, shaTail, List.range_succ, List.map_append]
      rfl
    rw [hs]
theorem filled_l0 (l0 : List Int) (hn : l0.length ≤ 1000000000) : ∀ (z : Nat) (x : List Int), x.length < l0.length + 200 → (x.length + z) % 64 = 56 → (∀ y, y < z → (x.length + y) % 64 ≠ 56) → x.length + z < l0.length + 200 → Ev (fun k => remoraref03_filled.l0 k l0 x) ((x ++ List.replicate z 0) ++ shaTail l0.length 8)
  | 0, x, hx, hz, _, _ => by
    have h := filled_l1 l0.length (by omega) x (by omega) 8 0 (by omega)
    rw [show shaTail l0.length 0 = [] from rfl, List.append_nil] at h
    refine Ev.step (fun k => ?_) (by rw [List.replicate_zero, List.append_nil]; exact h)
    rw [remoraref03_filled.l0, if_pos (by omega)]
    rfl
  | z + 1, x, hx, hz, hy, hl => by
    have h0 := hy 0 (by omega)
    have h := filled_l0 l0 hn z (x ++ [0]) (by rw [List.length_append, List.length_singleton]; omega) (by rw [List.length_append, List.length_singleton, ← hz]; congr 1; omega)
      (fun y hy1 => by have := hy (y + 1) (by omega); rw [List.length_append, List.length_singleton, show x.length + 1 + y = x.length + (y + 1) by omega]; exact this) (by rw [List.length_append, List.length_singleton]; omega)
    rw [show x ++ [0] ++ List.replicate z 0 = x ++ List.replicate (z + 1) 0 by rw [List.append_assoc, List.replicate_succ]; rfl] at h
    refine Ev.step (fun k => ?_) h
    rw [remoraref03_filled.l0, if_neg (by omega), if_pos (by omega)]
theorem filled_of (l0 : List Int) (hn : l0.length ≤ 1000000000) : Ev (fun k => remoraref03_filled.f k l0) (l0 ++ shaEnd l0.length) := by
  have hq := Nat.mod_lt (119 - l0.length % 64) (show 0 < 64 by decide)
  have h := filled_l0 l0 hn ((119 - l0.length % 64) % 64) (l0 ++ [128]) (by rw [List.length_append, List.length_singleton]; omega) (by rw [List.length_append, List.length_singleton]; omega) (by intro y hy; rw [List.length_append, List.length_singleton]; omega) (by rw [List.length_append, List.length_singleton]; omega)
  have e1 : wrap64 ((l0.length : Int) + 72) = (l0.length : Int) + 72 := by unfold wrap64; omega
  rw [show (l0 ++ [128] ++ List.replicate ((119 - l0.length % 64) % 64) 0) ++ shaTail l0.length 8 = l0 ++ shaEnd l0.length by unfold shaEnd; simp only [List.append_assoc]] at h
  refine Ev.congr (fun k => ?_) h
  unfold remoraref03_filled.f
  rw [if_pos (by rw [e1]; omega), if_pos (by rw [e1]; omega), Option.bind_some, if_pos (by rw [List.length_replicate]; omega), Option.bind_some, List.replicate_zero, List.nil_append, if_pos (by omega)]
set_option maxRecDepth 10000 in
theorem or_add (i : Nat) (x y : Int) (h0 : 0 ≤ x) (h1 : 0 ≤ y) (h2 : y < 2 ^ i) (h3 : x * 2 ^ i + y < 4294967296) : Go.bits .or .u32 (x * 2 ^ i) y = x * 2 ^ i + y := by
  obtain ⟨a, rfl⟩ := Int.eq_ofNat_of_zero_le h0
  obtain ⟨b, rfl⟩ := Int.eq_ofNat_of_zero_le h1
  have e1 : ((a : Int) * 2 ^ i) = ((a * 2 ^ i : Nat) : Int) := by simp
  rw [e1] at h3 ⊢
  have hb : b < 2 ^ i := by exact_mod_cast h2
  obtain ⟨c, hc⟩ : ∃ c, c = a * 2 ^ i := ⟨_, rfl⟩
  have hor : c ||| b = c + b := by
    rw [hc, ← Nat.shiftLeft_eq, Nat.shiftLeft_add_eq_or_of_lt hb]
  rw [← hc] at h3 ⊢
  have hs : c + b < 4294967296 := by omega
  unfold Go.bits
  simp only [IntKind.wrap_u32]
  have e2 : IntKind.u32.bits = 32 := rfl
  have ht : (BitVec.ofInt 32 (c : Int) ||| BitVec.ofInt 32 (b : Int)).toNat = c + b := by
    rw [BitVec.toNat_or, BitVec.ofInt_natCast, BitVec.ofInt_natCast, BitVec.toNat_ofNat, BitVec.toNat_ofNat, Nat.mod_eq_of_lt (by omega), Nat.mod_eq_of_lt (by omega), hor]
  rw [e2, ht]
  omega
theorem word4 {a b c d : Int} (ha : 0 ≤ a ∧ a ≤ 255) (hb : 0 ≤ b ∧ b ≤ 255) (hc : 0 ≤ c ∧ c ≤ 255) (hd : 0 ≤ d ∧ d ≤ 255) :
    Go.bits .or .u32 (IntKind.u32.wrap (Go.bits .or .u32 (IntKind.u32.wrap (Go.bits .or .u32 (IntKind.u32.wrap (Go.bits .or .u32 (IntKind.u32.wrap (0 * 256)) (IntKind.u32.wrap a) * 256)) (IntKind.u32.wrap b) * 256)) (IntKind.u32.wrap c) * 256)) (IntKind.u32.wrap d) =
    Go.bits .or .u32 (Go.bits .or .u32 (Go.bits .or .u32 (((a % 4294967296) * 16777216) % 4294967296) (((b % 4294967296) * 65536) % 4294967296)) (((c % 4294967296) * 256) % 4294967296)) (d % 4294967296) := by
  have w : ∀ x : Int, 0 ≤ x → x < 4294967296 → IntKind.u32.wrap x = x := fun x h0 h1 => by rw [IntKind.wrap_u32]; omega
  have e1 : Go.bits .or .u32 (IntKind.u32.wrap (0 * 256)) (IntKind.u32.wrap a) = a := by
    have h := or_add 8 0 a (by omega) ha.1 (by omega) (by omega)
    rw [w _ (by omega) (by omega), w _ (by omega) (by omega), show (0 : Int) * 256 = 0 * 2 ^ 8 by omega, h]; omega
  have e2 : Go.bits .or .u32 (IntKind.u32.wrap (a * 256)) (IntKind.u32.wrap b) = a * 256 + b := by
    have h := or_add 8 a b (by omega) hb.1 (by omega) (by omega)
    rw [w _ (by omega) (by omega), w _ (by omega) (by omega), show a * 256 = a * 2 ^ 8 by omega, h]
  have e3 : Go.bits .or .u32 (IntKind.u32.wrap ((a * 256 + b) * 256)) (IntKind.u32.wrap c) = (a * 256 + b) * 256 + c := by
    have h := or_add 8 (a * 256 + b) c (by omega) hc.1 (by omega) (by omega)
    rw [w _ (by omega) (by omega), w _ (by omega) (by omega), show (a * 256 + b) * 256 = (a * 256 + b) * 2 ^ 8 by omega, h]
  have e4 : Go.bits .or .u32 (IntKind.u32.wrap (((a * 256 + b) * 256 + c) * 256)) (IntKind.u32.wrap d) = ((a * 256 + b) * 256 + c) * 256 + d := by
    have h := or_add 8 ((a * 256 + b) * 256 + c) d (by omega) hd.1 (by omega) (by omega)
    rw [w _ (by omega) (by omega), w _ (by omega) (by omega), show ((a * 256 + b) * 256 + c) * 256 = ((a * 256 + b) * 256 + c) * 2 ^ 8 by omega, h]
  have m : ∀ x : Int, 0 ≤ x → x < 4294967296 → x % 4294967296 = x := fun x h0 h1 => by omega
  rw [e1, e2, e3, e4, m a (by omega) (by omega), m b (by omega) (by omega), m c (by omega) (by omega), m d (by omega) (by omega), m (a * 16777216) (by omega) (by omega), m (b * 65536) (by omega) (by omega), m (c * 256) (by omega) (by omega)]
  have f1 : Go.bits .or .u32 (a * 16777216) (b * 65536) = (a * 256 + b) * 65536 := by
    have h := or_add 24 a (b * 65536) (by omega) (by omega) (by omega) (by omega)
    rw [show a * 16777216 = a * 2 ^ 24 by omega, h]; omega
  have f2 : Go.bits .or .u32 ((a * 256 + b) * 65536) (c * 256) = ((a * 256 + b) * 256 + c) * 256 := by
    have h := or_add 16 (a * 256 + b) (c * 256) (by omega) (by omega) (by omega) (by omega)
    rw [show (a * 256 + b) * 65536 = (a * 256 + b) * 2 ^ 16 by omega, h]; omega
  have f3 : Go.bits .or .u32 (((a * 256 + b) * 256 + c) * 256) d = ((a * 256 + b) * 256 + c) * 256 + d := by
    have h := or_add 8 ((a * 256 + b) * 256 + c) d (by omega) hd.1 (by omega) (by omega)
    rw [show ((a * 256 + b) * 256 + c) * 256 = ((a * 256 + b) * 256 + c) * 2 ^ 8 by omega, h]
  rw [f1, f2, f3]
theorem wT_zero (b : List Int) : ∀ (t j : Nat), t ≤ j → (wT b t)[j]?.getD 0 = 0
  | 0, j, _ => by
    rw [wT, List.getElem?_replicate]
    split <;> rfl
  | t + 1, j, h => by
    have hk : ∀ k, (wK b (wT b t) t k)[j]?.getD 0 = 0 := fun k => by
      induction k with
      | zero => exact wT_zero b t j (by omega)
      | succ k ih => rw [wK, List.getElem?_set_ne (by omega)]; exact ih
    exact hk 4
theorem wT_next (b : List Int) (hb : ∀ i : Nat, 0 ≤ b[i]?.getD 0 ∧ b[i]?.getD 0 ≤ 255) (t : Nat) (ht : t < 64) : wT b (t + 1) = (wT b t).set t (Go.bits .or .u32 (Go.bits .or .u32 (Go.bits .or .u32 (((b[4 * t + 0]?.getD 0 % 4294967296) * 16777216) % 4294967296) (((b[4 * t + 1]?.getD 0 % 4294967296) * 65536) % 4294967296)) (((b[4 * t + 2]?.getD 0 % 4294967296) * 256) % 4294967296)) (b[4 * t + 3]?.getD 0 % 4294967296)) := by
  have hl := wT_len b t
  obtain ⟨W, hW⟩ : ∃ W, W = wT b t := ⟨_, rfl⟩
  have h0 : W[t]?.getD 0 = 0 := by rw [hW]; exact wT_zero b t t (Nat.le_refl _)
  rw [← hW] at hl ⊢
  have hs : ∀ (V : List Int) (x : Int), V.length = 64 → (V.set t x)[t]?.getD 0 = x := fun V x hv => by
    rw [List.getElem?_set_self (by omega)]
    rfl
  rw [wT, ← hW, wK, wK, wK, wK, wK, h0]
  simp only [List.set_set, hs W _ hl]
  rw [word4 (hb _) (hb _) (hb _) (hb _)]
theorem rd_nat (l : List Int) (i : Nat) : rd l (i : Int) = l[i]?.getD 0 := by
  unfold rd
  rw [Int.toNat_natCast, List.getD_eq_getElem?_getD]
theorem words_l1 (b : List Int) : ∀ (d n : Nat), n + d = 48 → Ev (fun k => remoraref03_words.l1 k (wN b n) ((n + 16 : Nat) : Int)) (shaWords b)
  | 0, n, h => by
    obtain rfl : n = 48 := by omega
    have hs : shaWords b = wN b 48 := rfl
    rw [hs]
    refine Ev.step (f := fun _ => some (wN b 48)) (fun k => ?_) (Ev.now _)
    rw [remoraref03_words.l1, if_neg (by omega)]
  | d + 1, n, h => by
    have ih := words_l1 b d (n + 1) (by omega)
    refine Ev.step (fun k => ?_) ih
    have hl : (wN b n).length = 64 := wN_len b n
    have hN : wN b (n + 1) = (wN b n).set (n + 16) (wNext (wN b n) (n + 16)) := rfl
    rw [hN]
    clear ih hN
    obtain ⟨W, hW⟩ : ∃ W, W = wN b n := ⟨_, rfl⟩
    rw [← hW] at hl ⊢
    clear hW
    have g0 : ((n + 16 : Nat) : Int) < 64 := by omega
    have g2 : (0 : Int) ≤ ((n + 16 - 2 : Nat) : Int) ∧ ((n + 16 - 2 : Nat) : Int) < (W.length : Int) := by omega
    have g7 : (0 : Int) ≤ ((n + 16 - 7 : Nat) : Int) ∧ ((n + 16 - 7 : Nat) : Int) < (W.length : Int) := by omega
    have g15 : (0 : Int) ≤ ((n + 16 - 15 : Nat) : Int) ∧ ((n + 16 - 15 : Nat) : Int) < (W.length : Int) := by omega
    have g16 : (0 : Int) ≤ ((n + 16 - 16 : Nat) : Int) ∧ ((n + 16 - 16 : Nat) : Int) < (W.length : Int) := by omega
    have g1 : (0 : Int) ≤ ((n + 16 : Nat) : Int) ∧ ((n + 16 : Nat) : Int) < (W.length : Int) := by omega
    have e2 : wrap64 (((n + 16 : Nat) : Int) - 2) = ((n + 16 - 2 : Nat) : Int) := by unfold wrap64; omega
    have e7 : wrap64 (((n + 16 : Nat) : Int) - 7) = ((n + 16 - 7 : Nat) : Int) := by unfold wrap64; omega
    have e15 : wrap64 (((n + 16 : Nat) : Int) - 15) = ((n + 16 - 15 : Nat) : Int) := by unfold wrap64; omega
    have e16 : wrap64 (((n + 16 : Nat) : Int) - 16) = ((n + 16 - 16 : Nat) : Int) := by unfold wrap64; omega
    have e1 : wrap64 (((n + 16 : Nat) : Int) + 1) = ((n + 1 + 16 : Nat) : Int) := by unfold wrap64; omega
    rw [remoraref03_words.l1, if_pos g0, e2, e7, e15, e16, e1, if_pos g2.1, if_pos g2.2, if_pos g15.1, if_pos g15.2, rd_nat, rd_nat, rd_nat, rd_nat, rtu_at _ 17 17 rfl (by decide), rtu_at _ 19 19 rfl (by decide), Option.bind_some, Option.bind_some, if_pos g7.1, if_pos g7.2, rtu_at _ 7 7 rfl (by decide), rtu_at _ 18 18 rfl (by decide), Option.bind_some, Option.bind_some, if_pos g16.1, if_pos g16.2, if_pos g1.1, if_pos g1.2, Int.toNat_natCast]
    unfold wNext
    simp only [IntKind.wrap_u32]
theorem words_l0 (b : List Int) (h64 : b.length = 64) (hb : ∀ i : Nat, 0 ≤ b[i]?.getD 0 ∧ b[i]?.getD 0 ≤ 255) : ∀ (d t : Nat), t + d = 16 → Ev (fun k => remoraref03_words.l0 k b (wT b t) (t : Int)) (shaWords b)
  | 0, t, h => by
    obtain rfl : t = 16 := by omega
    refine Ev.step (fun k => ?_) (words_l1 b 48 0 rfl)
    rw [remoraref03_words.l0, if_neg (by omega)]
    rfl
  | d + 1, t, h => by
    have ih := words_l0 b h64 hb d (t + 1) (by omega)
    refine Ev.step (fun k => ?_) ih
    have hl : (wT b t).length = 64 := wT_len b t
    have g : (t : Int) < 16 := by omega
    have g0 : (0 : Int) ≤ ((4 * t + 0 : Nat) : Int) ∧ ((4 * t + 0 : Nat) : Int) < (b.length : Int) := by omega
    have g1 : (0 : Int) ≤ ((4 * t + 1 : Nat) : Int) ∧ ((4 * t + 1 : Nat) : Int) < (b.length : Int) := by omega
    have g2 : (0 : Int) ≤ ((4 * t + 2 : Nat) : Int) ∧ ((4 * t + 2 : Nat) : Int) < (b.length : Int) := by omega
    have g3 : (0 : Int) ≤ ((4 * t + 3 : Nat) : Int) ∧ ((4 * t + 3 : Nat) : Int) < (b.length : Int) := by omega
    have g4 : (0 : Int) ≤ (t : Int) ∧ (t : Int) < ((wT b t).length : Int) := by omega
    have hx := wT_next b hb t (by omega)
    clear ih
    have e0 : wrap64 (4 * (t : Int)) = ((4 * t + 0 : Nat) : Int) := by unfold wrap64; omega
    have e1 : wrap64 (((4 * t + 0 : Nat) : Int) + 1) = ((4 * t + 1 : Nat) : Int) := by unfold wrap64; omega
    have e2 : wrap64 (((4 * t + 0 : Nat) : Int) + 2) = ((4 * t + 2 : Nat) : Int) := by unfold wrap64; omega
    have e3 : wrap64 (((4 * t + 0 : Nat) : Int) + 3) = ((4 * t + 3 : Nat) : Int) := by unfold wrap64; omega
    have e4 : wrap64 ((t : Int) + 1) = ((t + 1 : Nat) : Int) := by unfold wrap64; omega
    rw [remoraref03_words.l0, if_pos g, e0, e1, e2, e3, e4, if_pos g0.1, if_pos g0.2, if_pos g1.1, if_pos g1.2, if_pos g2.1, if_pos g2.2, if_pos g3.1, if_pos g3.2, if_pos g4.1, if_pos g4.2, rd_nat, rd_nat, rd_nat, rd_nat, Int.toNat_natCast, hx]
theorem words_of (b : List Int) (h64 : b.length = 64) (hb : ∀ i : Nat, 0 ≤ b[i]?.getD 0 ∧ b[i]?.getD 0 ≤ 255) : Ev (fun k => remoraref03_words.f k b) (shaWords b) := by
  refine Ev.congr (fun k => ?_) (words_l0 b h64 hb 16 0 rfl)
  unfold remoraref03_words.f
  rw [if_pos (by omega)]
  rfl
theorem shr24 (x : Int) : (shr .u32 x ((24 - 8 * 0 : Nat) : Int)) % 256 = (x / 16777216) % 256 := rfl
theorem shr16 (x : Int) : (shr .u32 x ((24 - 8 * 1 : Nat) : Int)) % 256 = (x / 65536) % 256 := rfl
theorem shr8 (x : Int) : (shr .u32 x ((24 - 8 * 2 : Nat) : Int)) % 256 = (x / 256) % 256 := rfl
theorem shr0 (x : Int) : (shr .u32 x ((24 - 8 * 3 : Nat) : Int)) % 256 = x % 256 := by
  show (x / 2 ^ 0) % 256 = _
  simp
/-- The four bytes of a word. -/
def four (x : Int) : List Int := [(x / 16777216) % 256, (x / 65536) % 256, (x / 256) % 256, x % 256]
def fours (hs : List Int) : Nat → List Int
  | 0 => []
  | i + 1 => fours hs i ++ four (hs[i]?.getD 0)
theorem fours_len (hs : List Int) (i : Nat) : (fours hs i).length = 4 * i := by
  induction i with
  | zero => rfl
  | succ i ih => rw [fours, List.length_append, ih]; rfl
theorem outT_fours (hs : List Int) : ∀ i, i ≤ 8 → outT hs i = fours hs i ++ List.replicate (32 - 4 * i) 0
  | 0, _ => rfl
  | i + 1, h => by
    have ih := outT_fours hs i (by omega)
    rw [outT, ih, fours]
    obtain ⟨x, hx⟩ : ∃ x, x = hs[i]?.getD 0 := ⟨_, rfl⟩
    rw [← hx, outK, outK, outK, outK, outK, shr24, shr16, shr8, shr0]
    have hl := fours_len hs i
    obtain ⟨F, hF⟩ : ∃ F, F = fours hs i := ⟨_, rfl⟩
    rw [← hF] at hl ⊢
    have hr : List.replicate (32 - 4 * i) (0 : Int) = 0 :: 0 :: 0 :: 0 :: List.replicate (32 - 4 * (i + 1)) 0 := by
      rw [show 32 - 4 * i = (32 - 4 * (i + 1)) + 1 + 1 + 1 + 1 by omega, List.replicate_succ, List.replicate_succ, List.replicate_succ, List.replicate_succ]
    rw [hr]
    have hs1 : ∀ (k : Nat) (L : List Int) (y : Int), (F ++ L).set (4 * i + k) y = F ++ L.set k y := fun k L y => by
      rw [List.set_append_right _ _ (by omega), hl, show 4 * i + k - 4 * i = k by omega]
    rw [hs1, hs1, hs1, hs1, List.append_assoc]
    rfl
theorem sum_l1 (hs : List Int) (h8 : hs.length = 8) : ∀ (d i : Nat), i + d = 8 → Ev (fun k => remoraref03_Sum.l1 k hs (fours hs i) (i : Int)) (strOfNums (fours hs 8))
  | 0, i, h => by
    obtain rfl : i = 8 := by omega
    refine Ev.step (f := fun _ => some (strOfNums (fours hs 8))) (fun k => ?_) (Ev.now _)
    rw [remoraref03_Sum.l1, if_neg (by omega)]
  | d + 1, i, h => by
    have ih := sum_l1 hs h8 d (i + 1) (by omega)
    refine Ev.step (fun k => ?_) ih
    have hl := fours_len hs i
    have g0 : (i : Int) < 8 := by omega
    have g1 : (0 : Int) ≤ (i : Int) := by omega
    have g2 : (i : Int) < (hs.length : Int) := by omega
    have e1 : wrap64 ((i : Int) + 1) = ((i + 1 : Nat) : Int) := by unfold wrap64; omega
    rw [remoraref03_Sum.l1, if_pos g0, if_pos g1, if_pos g2, Option.bind_some, rd_nat, if_pos (by rw [hl]; simp only [List.length_cons, List.length_nil]; omega), e1]
    rfl
theorem sum_l0 (all : List Int) (hb : ∀ i : Nat, 0 ≤ all[i]?.getD 0 ∧ all[i]?.getD 0 ≤ 255) (m : Nat) (hm : all.length = 64 * m) (hM : m ≤ 1000000000) : ∀ (d j : Nat), j + d = m → Ev (fun k => remoraref03_Sum.l0 k all (shFull all j) ((64 * j : Nat) : Int)) (strOfNums (fours (shFull all m) 8))
  | 0, j, h => by
    obtain rfl : j = m := by omega
    have h1 := sum_l1 (shFull all j) (shFull_len all j) 8 0 rfl
    refine Ev.step (fun k => ?_) h1
    rw [remoraref03_Sum.l0, if_neg (by omega), if_pos (by omega)]
    rfl
  | d + 1, j, h => by
    have ih := sum_l0 all hb m hm hM d (j + 1) (by omega)
    have hw : Ev (fun k => remoraref03_words.f k ((all.drop (64 * j)).take 64)) (shaWords ((all.drop (64 * j)).take 64)) := by
      refine words_of _ (by rw [List.length_take, List.length_drop]; omega) (fun i => ?_)
      rcases Nat.lt_or_ge i 64 with h64 | h64
      · rw [List.getElem?_take, if_pos h64, List.getElem?_drop]
        exact hb _
      · rw [List.getElem?_take, if_neg (by omega)]
        simp
    have hblk : remoraref03_block.f (shFull all j) (shaWords ((all.drop (64 * j)).take 64)) = some (shFull all (j + 1)) := by
      unfold remoraref03_block.f
      rw [if_pos (shFull_len all j), if_pos (shaWords_len _)]
      rfl
    have g0 : ((64 * j : Nat) : Int) < (all.length : Int) := by omega
    have g1 : (0 : Int) ≤ ((64 * j : Nat) : Int) := by omega
    have g2 : ((64 * j : Nat) : Int) ≤ ((64 * (j + 1) : Nat) : Int) := by omega
    have g3 : ((64 * (j + 1) : Nat) : Int) ≤ (all.length : Int) := by omega
    have e1 : wrap64 (((64 * j : Nat) : Int) + 64) = ((64 * (j + 1) : Nat) : Int) := by unfold wrap64; omega
    have hcut : (all.take (64 * (j + 1))).drop (64 * j) = (all.drop (64 * j)).take 64 := by rw [List.drop_take]; congr 1; omega
    have hfin : Ev (fun k => (remoraref03_words.f k ((all.drop (64 * j)).take 64)).bind fun t153 => (remoraref03_block.f (shFull all j) t153).bind fun t156 => remoraref03_Sum.l0 k all t156 ((64 * (j + 1) : Nat) : Int)) (strOfNums (fours (shFull all m) 8)) := by
      refine Ev.bind hw ?_
      refine Ev.congr (fun k => ?_) ih
      rw [hblk, Option.bind_some]
    refine Ev.step (fun k => ?_) hfin
    rw [remoraref03_Sum.l0, if_pos g0, if_pos g1, e1, if_pos g2, if_pos g3, Int.toNat_natCast, Int.toNat_natCast, hcut]
theorem shaTail_bytes (n : Nat) : ∀ x ∈ shaTail n 8, 0 ≤ x ∧ x ≤ 255 := by
  intro x hx
  unfold shaTail at hx
  obtain ⟨i, _, rfl⟩ := List.mem_map.1 hx
  omega
theorem all_bytes (l0 : List Int) (hb : ∀ x ∈ l0, 0 ≤ x ∧ x ≤ 255) (i : Nat) : 0 ≤ (l0 ++ shaEnd l0.length)[i]?.getD 0 ∧ (l0 ++ shaEnd l0.length)[i]?.getD 0 ≤ 255 := by
  have h : ∀ x ∈ l0 ++ shaEnd l0.length, 0 ≤ x ∧ x ≤ 255 := by
    intro x hx
    rcases List.mem_append.1 hx with h1 | h1
    · exact hb x h1
    · unfold shaEnd at h1
      rcases List.mem_append.1 h1 with h2 | h2
      · rcases List.mem_append.1 h2 with h3 | h3
        · obtain rfl := List.mem_singleton.1 h3; omega
        · obtain rfl := (List.mem_replicate.1 h3).2; omega
      · exact shaTail_bytes _ x h2
  rcases Nat.lt_or_ge i (l0 ++ shaEnd l0.length).length with hi | hi
  · rw [List.getElem?_eq_getElem hi]
    exact h _ (List.getElem_mem hi)
  · rw [List.getElem?_eq_none hi]
    simp
/-- The reference's sum is the program's. -/
theorem rsum_of (l0 : List Int) (hn : l0.length ≤ 1000000000) (hb : ∀ x ∈ l0, 0 ≤ x ∧ x ≤ 255) : Ev (fun k => remoraref03_Sum.f k l0) (strOfNums (shaSum l0)) := by
  have h1 := filled_of l0 hn
  have he := shaEnd_len l0.length
  have hab := all_bytes l0 hb
  have hL : (l0 ++ shaEnd l0.length).length = l0.length + (shaEnd l0.length).length := List.length_append
  obtain ⟨all, hall⟩ : ∃ all, all = l0 ++ shaEnd l0.length := ⟨_, rfl⟩
  rw [← hall] at h1 hab hL
  have h2 := sum_l0 all hab (all.length / 64) (by omega) (by omega) (all.length / 64) 0 (by omega)
  have hs : strOfNums (fours (shFull all (all.length / 64)) 8) = strOfNums (shaSum l0) := by
    rw [shaSum, ← hall, outT_fours _ 8 (by omega)]
    simp
  rw [hs] at h2
  exact Ev.bind h1 h2
theorem sum_f (l0 : List Int) (hn : l0.length ≤ 1000000000) : sha_Sum.f l0 = some (strOfNums (shaSum l0)) := by
  unfold sha_Sum.f
  rw [if_pos (by omega)]
theorem strOfNums_size (l : List Int) : (strOfNums l).size = l.length := by
  unfold strOfNums
  show Array.size _ = _
  simp
theorem rd8_arr {w : World} {g s : Nat} {e : TypeId} {xs : List Int} (h : Arr w g e .u8 xs) (hne : g ≠ s) (o n : Nat) (hn : o + n ≤ xs.length) (A : Option Addr) (hA : 0 < n → A = some ⟨g, o, none⟩) : Rd8 w s A ((xs.drop o).take n) := fun hb => by
  have hp : 0 < n := by
    rcases Nat.eq_zero_or_pos n with h0 | h0
    · subst h0; exact absurd (List.take_zero) hb
    · exact h0
  refine ⟨_, hA hp, hne, fun j hj => ?_⟩
  have hj' : j < n := by rw [List.length_take] at hj; omega
  have ha : (⟨g, o, none⟩ : Addr).add j = ⟨g, o + j, none⟩ := by unfold Addr.add; split <;> simp_all
  rw [ha, h.cell (o + j) (by omega), List.getElem?_take, if_pos hj', List.getElem?_drop, List.getD_eq_getElem?_getD]
section
variable {P : Program} {ops : Array Oper} {rest : List Oper} {o : Oper} {a : Act} {Q : Exit → Act → World → Prop}
/-- 'make([]byte, n)'. -/
theorem make_arr {W : World} (hgd : o.guard = none) {N : Tmp} (hd : o.dst = some N) (t e : TypeId) (x y : Operand) (ho : o.op = .makeSlice t x y) (n : Nat) (hx : a.eval x = .int .i64 (n : Int)) (hy : a.eval y = .int .i64 (n : Int)) (ht : P.underlying t = some (.slice e)) (hinfo : (P.info? e).map (fun i => (i.zero, i.size, i.bytes)) = some (some (.int .u8 0), 1, 1)) (hn : n ≤ 281474976710656)
    (h : ∀ g w1, W.heap.size = g → Arr w1 g e .u8 (List.replicate n 0) → Below W.heap.size W w1 → wpList P ops Q rest (a.put o.dst (.slice (some ⟨g, 0, none⟩) n n)) w1) : wpList P ops Q (o :: rest) a W := by
  obtain ⟨i0, hi, hzz⟩ := Option.map_eq_some_iff.1 hinfo
  simp only [Prod.mk.injEq] at hzz
  obtain ⟨hz0, hz1, hz2⟩ := hzz
  have hr := run_make (P := P) W t e i0 (.int .u8 0) ht hi hz0 .i64 .i64 (n : Int) (n : Int) (by omega) (by omega)
    (by rw [hz2]; omega) (by omega)
  simp only [Int.toNat_natCast] at hr
  rw [hz1] at hr
  have hrun : (execOp a.eval o).run P W = .ok (.value (.slice (some ⟨W.heap.size, 0, none⟩) n n)) (W.alloc (.cells (madeCells (Value.int .u8 0).cells (n * 1)) e)) := by
    simp [execOp, ho, hx, hy, hr]
  refine Kd.event_run hgd hrun (h _ _ rfl ?_ (below_alloc (Below.refl _ _) _))
  have hm : madeCells (Value.int .u8 0).cells (n * 1) = ((List.replicate n (0 : Int)).map (Value.int .u8)).toArray := by
    rw [Nat.mul_one, List.map_replicate]
    refine Array.ext (by simp [madeCells]) (fun i h1 h2 => ?_)
    simp [madeCells, Value.cells, Nat.mod_one]
  rw [hm]
  exact heap_new_ _ _
end
theorem sha_Write.calls_n (g : Nat) (bs : List Int) (A : Option Addr) (c : Nat) (b : List Int) (m : Nat) (hm : b.length = m) (w : World) (hS : StN w g bs (bs.length : Int)) (hA : Rd8 w g A b) (hc : m ≤ c) (hlen : bs.length + m < 9223372036854775808) :
    Calls Tryd.prog 8 #[.pointer (some ⟨g, 0, none⟩), .slice A m c] w fun e w' => e = .returned (.tuple #[]) ∧ StN w' g (bs ++ b) ((bs ++ b).length : Int) ∧ w.grownBy w' (some g) := by
  subst hm
  exact sha_Write.calls g bs A c b w hS hA hc hlen
theorem sha_Sum.calls_n (A0 : Option Addr) (c0 : Nat) (l0 : List Int) (m : Nat) (hm : l0.length = m) (r : ByteArray) (w : World) (hr0 : Kd.C (Kd.int .u8) w A0 m l0) (hc0 : m ≤ c0) (h : sha_Sum.f l0 = some r) :
    Calls Tryd.prog 10 #[.slice A0 m c0] w fun e w' => e = .returned (.string r) ∧ Below w.heap.size w w' := by
  subst hm
  exact sha_Sum.calls A0 c0 l0 r w hr0 hc0 h
theorem arr_C {w : World} {g : Nat} {e : TypeId} {k : IntKind} {xs : List Int} (h : Arr w g e k xs) (hl : xs.length ≤ 9223372036854775807) : Kd.C (Kd.int k) w (some ⟨g, 0, none⟩) xs.length xs := Kd.C_of_reads (d := (0 : Int)) (h1 := fun _ => rfl) (arr_reads h hl)
section
variable {P : Program} {ops : Array Oper} {rest : List Oper} {o : Oper} {a : Act} {Q : Exit → Act → World → Prop}
/-- 'b[q:]' of a row from its head. -/
theorem slice_from {W : World} (hgd : o.guard = none) (t e : TypeId) (x lo : Operand) (ho : o.op = .slice t x (some lo) none none) {g n q : Nat} (hx : a.eval x = .slice (some ⟨g, 0, none⟩) n n) (hl : a.eval lo = .int .i64 (q : Int)) (ht : P.underlying t = some (.slice e)) (hs : (P.info? e).map (·.size) = some 1) (hq : q ≤ n)
    (h : ∀ A : Option Addr, (0 < n - q → A = some ⟨g, q, none⟩) → wpList P ops Q rest (a.put o.dst (.slice A (n - q) (n - q))) W) : wpList P ops Q (o :: rest) a W := by
  have hel : P.elem t = e := by simp [Program.elem, ht]
  have hu : P.underlying t = some (.slice (P.elem t)) := by rw [hel]; exact ht
  obtain ⟨i0, hi, hz⟩ := Option.map_eq_some_iff.1 hs
  have hr : (Instr.slice t (.slice (some ⟨g, 0, none⟩) n n) (some (.int .i64 (q : Int))) none none).run P W = .ok (.slice (if n = q then some ⟨g, 0, none⟩ else some ((⟨g, 0, none⟩ : Addr).add q)) (n - q) (n - q)) W := by
    rw [run_slice_l W t (some ⟨g, 0, none⟩) n n hu .i64 (q : Int) (by omega) (by omega), hel]
    simp [sizeOf, typeInfo, hi, hz, sliced, Result.andThen]
  refine Kd.event_run hgd (v := .slice (if n = q then some ⟨g, 0, none⟩ else some ((⟨g, 0, none⟩ : Addr).add q)) (n - q) (n - q)) (w1 := W) ?_ (h _ (fun hp => ?_))
  · simp [execOp, ho, hx, hl, run_sliceAt_slice W t _ _ _ _ hu, hr]
  · rw [if_neg (by omega), add_plain]
end
theorem remoraref03_Sum.calls_n (k : Nat) (A0 : Option Addr) (c0 : Nat) (l0 : List Int) (m : Nat) (hm : l0.length = m) (r : ByteArray) (w : World) (hr0 : Kd.C (Kd.int .u8) w A0 m l0) (hc0 : m ≤ c0) (h : remoraref03_Sum.f k l0 = some r) (hG : GL w) :
    Calls Tryd.prog 11 #[.slice A0 m c0] w fun e w' => e = .returned (.string r) ∧ Below w.heap.size w w' := by
  subst hm
  exact remoraref03_Sum.calls k A0 c0 l0 r w hr0 hc0 h hG
theorem fill_step (n i : Nat) (x : Int) (h : i < n) : (List.replicate i x ++ List.replicate (n - i) 0).set i x = List.replicate (i + 1) x ++ List.replicate (n - (i + 1)) 0 := by
  rw [List.set_append_right _ _ (by simp), List.length_replicate, Nat.sub_self, show n - i = (n - (i + 1)) + 1 by omega, List.replicate_succ, List.set_cons_zero, List.replicate_succ' (n := i)]
  simp
def remoralaw03_ShaEdges.f (a0 a1 a2 : Int) : Option Bool := if 0 ≤ a0 ∧ a0 ≤ 255 then some true else none
set_option maxHeartbeats 8000000 in
set_option maxRecDepth 100000 in
theorem remoralaw03_ShaEdges.calls (a0 a1 a2 : Int) (r : Bool) (w : World) (h : remoralaw03_ShaEdges.f a0 a1 a2 = some r) (hG : GL w) :
    Calls Tryd.prog 3 #[.int .u8 a0, .int .i64 a1, .int .i64 a2] w fun e w' => e = .returned (.bool r) ∧ Below w.heap.size w w' := by
  unfold remoralaw03_ShaEdges.f at h
  by_cases h0 : 0 ≤ a0 ∧ a0 ≤ 255
  · rw [if_pos h0] at h
    obtain rfl := Option.some.inj h
    have H0 := Aside0.mk h0
    have HGL := Aside0.mk hG
    clear h h0 hG
    obtain ⟨m1, hm1⟩ : ∃ m1 : Int, (if 700 < a1 then 700 else a1) = m1 := ⟨_, rfl⟩
    obtain ⟨n, hn⟩ : ∃ n : Nat, (if 0 < m1 then m1 else 0) = (n : Int) := ⟨(if 0 < m1 then m1 else 0).toNat, by split <;> omega⟩
    have hn7 : n ≤ 700 := by split at hn <;> split at hm1 <;> omega
    obtain ⟨m3, hm3⟩ : ∃ m3 : Int, (if (n : Int) < a2 then (n : Int) else a2) = m3 := ⟨_, rfl⟩
    obtain ⟨q, hq⟩ : ∃ q : Nat, (if 0 < m3 then m3 else 0) = (q : Int) := ⟨(if 0 < m3 then m3 else 0).toNat, by split <;> omega⟩
    have hqn : q ≤ n := by split at hq <;> split at hm3 <;> omega
    have HN := Aside0.mk (And.intro hn7 hqn)
    clear hn7 hqn
    go_enter Tryd.func3, Tryd.ntmps3
    go_wp2_with (first | ((with_reducible refine gate_dst (N := 18) rfl ?_); refine make_arr rfl rfl 22 5 (.tmp 17) (.tmp 17) rfl n rfl rfl Tryd.underlying22 info5 (by have := HN.out.1; omega) ?_; intro g w1 hg hA hb; have HG0 := Aside0.mk (show w.heap.size ≤ g by omega); have HA := Aside0.mk hA; have HB := Aside0.mk hb; clear hg hA hb))
    clear hm1 hn hm3 hq
    go_loopg [21] (n + 1) (fun kq v21 w' => ∃ i : Nat, v21 = .int .i64 (i : Int) ∧ Aside0 (i + kq = n + 1 ∧ i ≤ n) ∧ Aside0 (Arr w' g 5 .u8 (List.replicate i a0 ++ List.replicate (n - i) 0)) ∧ Aside0 (Below w.heap.size w w'))
    case atStart => exact ⟨0, rfl, ⟨by omega, by omega⟩, HA, HB⟩
    case round =>
      clear HA HB
      obtain ⟨i, rfl, hk, HA, HB⟩ := hrel
      by_cases hlt : i < n
      · obtain ⟨k1, rfl⟩ : ∃ k1, gk = k1 + 1 := ⟨gk - 1, by have := hk.out; omega⟩
        have HI := Aside0.mk hlt
        have d1 : decide ((i : Int) < (n : Int)) = true := decide_eq_true (by omega)
        have d2 : decide (i < n) = true := decide_eq_true hlt
        have hw : wrap64 ((i : Int) + 1) = ((i + 1 : Nat) : Int) := by have := HN.out; unfold wrap64; omega
        have HW := Aside0.mk hw
        have p0 := eq_true (show (i : Int) < (n : Int) by omega)
        have o0 := eq_true (show (0 : Int) ≤ (i : Int) by omega)
        clear hlt hw
        go_wp2_with (first | ((with_reducible refine gate_store (t := 5) (p := 27) (v := .tmp 26) rfl ?_); refine store_arr rfl rfl 5 (.tmp 27) (.tmp 26) rfl (g := g) (j := i) (k := .u8) rfl rfl (by kernel_rfl) HA.out (by rw [List.length_append, List.length_replicate, List.length_replicate]; have := HI.out; omega) ?_; intro w9 hA hg; replace HA := Aside0.mk hA; replace HB := Aside0.mk (belowBy HB.out hg HB.out.size (fun k hk => by have := HG0.out; have := Option.some.inj hk; omega)); clear hA hg))
        go_roundg k1
        case measure => omega
        case rel => exact ⟨i + 1, by rw [HW.out], ⟨by have := hk.out; omega, by have := HI.out; omega⟩, ⟨by have h1 := HA.out; rw [fill_step _ _ _ HI.out] at h1; exact h1⟩, HB⟩
      · have hie : i = n := by have := hk.out; omega
        have d1 : decide ((i : Int) < (n : Int)) = false := decide_eq_false (by omega)
        have d2 : decide (i < n) = false := decide_eq_false hlt
        rw [hie, Nat.sub_self, List.replicate_zero, List.append_nil] at HA
        clear hlt hie
        obtain ⟨b, hb⟩ : ∃ b, b = List.replicate n a0 := ⟨_, rfl⟩
        have HBL := Aside0.mk (show b.length = n by rw [hb, List.length_replicate])
        have HBB := Aside0.mk (show ∀ x ∈ b, 0 ≤ x ∧ x ≤ 255 from fun x hx => by rw [hb] at hx; obtain rfl := (List.mem_replicate.1 hx).2; exact H0.out)
        rw [← hb] at HA
        clear hb
        have p1 := eq_true (show (0 : Int) ≤ (q : Int) by omega)
        have p2 := eq_true (show (q : Int) ≤ (n : Int) by have := HN.out; omega)
        obtain ⟨S, hS⟩ : ∃ S, S = strOfNums (shaSum b) := ⟨_, rfl⟩
        have HSS := Aside0.mk hS
        have hsz : S.size = 32 := by rw [hS, strOfNums_size, shaSum_len]
        obtain ⟨kr, hkr⟩ := (rsum_of b (by have h1 := HBL.out; have h2 := HN.out; omega) HBB.out).rounds
        rw [← hS] at hkr
        have HKR := Aside0.mk hkr
        have HSF := Aside0.mk (show sha_Sum.f b = some S by rw [hS]; exact sum_f b (by have h1 := HBL.out; have h2 := HN.out; omega))
        clear hS hkr
        go_wp2_with (first
          | ((with_reducible refine gate_callee (f := 7) rfl ?_); refine goesL_ (some 29) rfl rfl Tryd.func7 (by kernel_rfl) rfl #[] rfl (by simp) ?_; refine (sha_New.calls _).mono ?_; rintro e w1 ⟨s, rfl, hg, hS1, hb1⟩; refine ⟨_, rfl, ?_⟩; have HS1 := Aside0.mk (StN.new hS1); have HA1 := Aside0.mk (HA.out.below hb1); have HNE := Aside0.mk (show g ≠ s ∧ w.heap.size ≤ s from ⟨by have := HA.out.lt; omega, by have := HB.out.size; omega⟩); have HB1 := Aside0.mk (HB.out.trans (belowTo hb1 HB.out.size)); clear hS1 hb1 hg))
        have hl1 : (b.take q).length = q := by rw [List.length_take, HBL.out]; have := HN.out; omega
        have hl2 : (b.drop q).length = n - q := by rw [List.length_drop, HBL.out]
        have hrd1 : Rd8 w1 s (some ⟨g, 0, none⟩) (b.take q) := rd8_arr HA1.out HNE.out.1 0 q (by have h1 := HBL.out; have h2 := HN.out; omega) _ (fun _ => rfl)
        refine (sha_Write.calls_n s [] (some ⟨g, 0, none⟩) n (b.take q) q hl1 _ HS1.out hrd1 HN.out.2 (by have := HN.out; show 0 + q < _; omega)).mono ?_
        rintro e w2 ⟨rfl, hS2, hg2⟩
        rw [List.nil_append] at hS2
        have HS2 := Aside0.mk hS2
        have HA2 := Aside0.mk (HA1.out.grown hg2 (fun h => HNE.out.1 (Option.some.inj h)))
        have HB2 := Aside0.mk (belowBy HB1.out hg2 HB1.out.size (fun k hk => by have := HNE.out.2; have := Option.some.inj hk; omega))
        have HL1 := Aside0.mk hl1
        have HL2 := Aside0.mk hl2
        clear hS2 hg2 HA1 HB1 HS1 hrd1 hl1 hl2
        go_wp2_with (first | ((with_reducible refine gate_dst (N := 38) rfl ?_); refine slice_from rfl 22 5 (.tmp 36) (.tmp 37) rfl rfl rfl Tryd.underlying22 (by kernel_rfl) HN.out.2 ?_; intro A2 hA2; have HAA := Aside0.mk hA2; clear hA2))
        have hrd2 : Rd8 w2 s A2 (b.drop q) := by
          have h1 := rd8_arr HA2.out HNE.out.1 q (n - q) (by have h1 := HBL.out; have h2 := HN.out; omega) A2 HAA.out
          rwa [List.take_of_length_le (by rw [HL2.out]; omega)] at h1
        have HS2' : Aside0 (StN w2 s (b.take q) ((b.take q).length : Int)) := HS2
        refine (sha_Write.calls_n s (b.take q) A2 (n - q) (b.drop q) (n - q) HL2.out _ HS2.out hrd2 (Nat.le_refl _) (by have := HN.out; rw [HL1.out]; omega)).mono ?_
        rintro e w3 ⟨rfl, hS3, hg3⟩
        rw [List.take_append_drop] at hS3
        have HS3 := Aside0.mk hS3
        have HA3 := Aside0.mk (HA2.out.grown hg3 (fun h => HNE.out.1 (Option.some.inj h)))
        have HB3 := Aside0.mk (belowBy HB2.out hg3 HB2.out.size (fun k hk => by have := HNE.out.2; have := Option.some.inj hk; omega))
        clear hS3 hg3 HA2 HB2 HS2 HS2' hrd2
        go_wp2_with fail
        refine (sha_StateSum.calls s b _ HS3.out (by have h1 := HBL.out; have h2 := HN.out; omega)).mono ?_
        rintro e w4 ⟨rfl, hb4⟩
        rw [← HSS.out]
        have HA4 := Aside0.mk (HA3.out.below hb4)
        have HB4 := Aside0.mk (HB3.out.trans (belowTo hb4 HB3.out.size))
        clear hb4 HA3 HB3 HS3
        go_wp2_with fail
        have hC := arr_C HA4.out (by have h1 := HBL.out; have h2 := HN.out; omega)
        rw [HBL.out] at hC
        refine (sha_Sum.calls_n (some ⟨g, 0, none⟩) n b n HBL.out S _ hC (Nat.le_refl _) HSF.out).mono ?_
        rintro e w5 ⟨rfl, hb5⟩
        have HA5 := Aside0.mk (HA4.out.below hb5)
        have HB5 := Aside0.mk (HB4.out.trans (belowTo hb5 HB4.out.size))
        clear hb5 HA4 HB4 hC
        go_wp2_with fail
        have hC5 := arr_C HA5.out (by have h1 := HBL.out; have h2 := HN.out; omega)
        rw [HBL.out] at hC5
        refine (sha_Sum.calls_n (some ⟨g, 0, none⟩) n b n HBL.out S _ hC5 (Nat.le_refl _) HSF.out).mono ?_
        rintro e w6 ⟨rfl, hb6⟩
        have HA6 := Aside0.mk (HA5.out.below hb6)
        have HB6 := Aside0.mk (HB5.out.trans (belowTo hb6 HB5.out.size))
        clear hb6 HA5 HB5 hC5
        go_wp2_with fail
        have hC6 := arr_C HA6.out (by have h1 := HBL.out; have h2 := HN.out; omega)
        rw [HBL.out] at hC6
        refine (remoraref03_Sum.calls_n kr (some ⟨g, 0, none⟩) n b n HBL.out S _ hC6 (Nat.le_refl _) HKR.out (HGL.out.below HB6.out)).mono ?_
        rintro e w7 ⟨rfl, hb7⟩
        have HA7 := Aside0.mk (HA6.out.below hb7)
        have HB7 := Aside0.mk (HB6.out.trans (belowTo hb7 HB6.out.size))
        clear hb7 HA6 HB6 hC6
        go_wp2_with fail
        have hC7 := arr_C HA7.out (by have h1 := HBL.out; have h2 := HN.out; omega)
        rw [HBL.out] at hC7
        refine (sha_Sum.calls_n (some ⟨g, 0, none⟩) n b n HBL.out S _ hC7 (Nat.le_refl _) HSF.out).mono ?_
        rintro e w8 ⟨rfl, hb8⟩
        have HA8 := Aside0.mk (HA7.out.below hb8)
        have HB8 := Aside0.mk (HB7.out.trans (belowTo hb8 HB7.out.size))
        clear hb8 HA7 HB7 hC7
        go_wp2_with fail
        refine (remoralaw03_awake.calls true _ rfl).mono ?_
        rintro e w9 ⟨rfl, hb9⟩
        have HB9 := Aside0.mk (HB8.out.trans (belowTo hb9 HB8.out.size))
        clear hb9 HA8 HB8
        go_wp2_with fail
        go_ret
        exact ⟨rfl, HB9.out⟩
  · rw [if_neg h0] at h
    cases h



/-- THE ONE PURE STATEMENT of remoralaw03_ShaEdges. -/
def remoralaw03_ShaEdges.Pure : Prop := ∀ (a0 : Int) (a1 : Int) (a2 : Int), (Lit.int .u8 a0).wf = true → (Lit.int .i64 a1).wf = true → (Lit.int .i64 a2).wf = true → remoralaw03_ShaEdges.f a0 a1 a2 = some true

end Go.Proofs.YtffiakioddhicaaDoor.PShaEdges
