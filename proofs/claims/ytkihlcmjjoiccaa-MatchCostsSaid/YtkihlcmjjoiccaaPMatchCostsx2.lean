-- Written by a program of this session (the kit's printer with hand-written contracts among its functions).
-- squeezed
import Derived.Test.YtkihlcmjjoiccaaPMatchCostsx0
import Derived.Test.YtkihlcmjjoiccaaPMatchCostsx1
import Derived.Test.YtkihlcmjjoiccaaPMatchCostsx4
import Derived.Test.YtkihlcmjjoiccaaRq
namespace Go.Proofs.Ytkihlcmjjoiccaa.PMatchCosts
open Go.RowKit Go.Proofs.YtkihlcmjjoiccaaW.PrintWords Go.Proofs.YtkihlcmjjoiccaaW.PrintLast Go.Proofs.YtkihlcmjjoiccaaW.PrintMore
attribute [local go_sem] max2_int min2_int max_two min_two max_three min_three max_four min_four   -- for this text's walks alone
set_option linter.unusedVariables false
set_option linter.unusedSimpArgs false

def ixHeadI (n a1 : Int) : Int := wrap64 (Go.bits .and .u32 (Go.bits .xor .u32 a1 (a1 / 65536)) ((wrap64 (n - 1)) % 4294967296))
def ixGrow : Nat → Nat → Nat → Nat
 | 0, h, _ => h
 | k + 1, h, m => if h < m then ixGrow k (h * 2) m else h
def ixHeads (m : Nat) : Nat := ixGrow m 1 m
theorem ixGrow_step {k h m : Nat} (hlt : h < m) : ixGrow (k + 1) h m = ixGrow k (h * 2) m := by
 show (if h < m then _ else _) = _
 rw [if_pos hlt]
theorem ixGrow_end {k h m : Nat} (hge : ¬ h < m) : ixGrow k h m = h := by
 cases k with
 | zero => rfl
 | succ k =>
  show (if h < m then _ else _) = _
  rw [if_neg hge]
theorem ixGrow_pow : ∀ (k h m e : Nat), h = 2 ^ e → m ≤ h + k → (h = 1 ∨ h < 2 * m) → ∃ e', ixGrow k h m = 2 ^ e' ∧ m ≤ ixGrow k h m ∧ (ixGrow k h m = 1 ∨ ixGrow k h m < 2 * m) := by
 intro k
 induction k with
 | zero =>
  intro h m e he hm hb
  exact ⟨e, he, by show m ≤ h; omega, hb⟩
 | succ k ih =>
  intro h m e he hm hb
  by_cases hlt : h < m
  ·rw [ixGrow_step hlt]
   have h1 : 0 < h := by rw [he]; exact Nat.two_pow_pos e
   exact ih (h * 2) m (e + 1) (by rw [he, Nat.pow_succ]) (by omega) (Or.inr (by omega))
  ·rw [ixGrow_end hlt]
   exact ⟨e, he, by omega, hb⟩
theorem ixHeads_pow (m : Nat) : ∃ e, ixHeads m = 2 ^ e ∧ m ≤ ixHeads m ∧ (ixHeads m = 1 ∨ ixHeads m < 2 * m) := ixGrow_pow m 1 m 0 rfl (by omega) (Or.inl rfl)
theorem ixHeads_pos (m : Nat) : 0 < ixHeads m := by
 obtain ⟨e, he, _⟩ := ixHeads_pow m
 rw [he]
 exact Nat.two_pow_pos e
theorem ixHeads_le {m : Nat} (hm : m ≤ 1000000) : ixHeads m ≤ 2000000 := by
 obtain ⟨e, he, _, h⟩ := ixHeads_pow m
 omega
theorem ixBits_and_le (x : Int) (n : Nat) (hn : n < 4294967296) : ∃ q : Nat, Go.bits .and .u32 x (n : Int) = (q : Int) ∧ q ≤ n := by
 refine ⟨(BitVec.ofInt 32 x &&& BitVec.ofInt 32 (n : Int)).toNat, ?_, ?_⟩
 ·show IntKind.u32.wrap ((BitVec.ofInt 32 x &&& BitVec.ofInt 32 (n : Int)).toNat : Int) = _
  have h1 : (BitVec.ofInt 32 x &&& BitVec.ofInt 32 (n : Int)).toNat < 4294967296 := BitVec.isLt _
  rw [IntKind.wrap_u32]
  omega
 ·rw [BitVec.toNat_and]
  refine Nat.le_trans Nat.and_le_right ?_
  rw [BitVec.ofInt_natCast, BitVec.toNat_ofNat]
  exact Nat.mod_le _ _
theorem ixHeadI_range {n : Nat} (a1 : Int) (h0 : 0 < n) (hn : n ≤ 2000000) : ∃ q : Nat, ixHeadI n a1 = (q : Int) ∧ q < n := by
 have e1 : wrap64 ((n : Int) - 1) % 4294967296 = ((n - 1 : Nat) : Int) := by unfold wrap64; omega
 obtain ⟨q, hq, hle⟩ := ixBits_and_le (Go.bits .xor .u32 a1 (a1 / 65536)) (n - 1) (by omega)
 refine ⟨q, ?_, by omega⟩
 unfold ixHeadI
 rw [e1, hq]
 unfold wrap64
 omega
def ixHead (n : Nat) (a1 : Int) : Nat := (ixHeadI n a1).toNat
theorem ixHead_eq {n : Nat} (a1 : Int) (h0 : 0 < n) (hn : n ≤ 2000000) : ixHeadI n a1 = (ixHead n a1 : Int) ∧ ixHead n a1 < n := by
 obtain ⟨q, hq, hl⟩ := ixHeadI_range a1 h0 hn
 unfold ixHead
 rw [hq]
 exact ⟨rfl, hl⟩
def ixHs (l : List S55) : List Nat := l.map fun s => ixHead (ixHeads l.length) s.f0
def ixChain (hs : List Nat) (i j : Nat) : List Int := ((List.range i).filter (fun p : Nat => hs.getD p 0 == j)).map (fun p : Nat => (p : Int))
def ixChains (l : List S55) : List (List Int) := (List.range (ixHeads l.length)).map fun j => ixChain (ixHs l) l.length j
theorem ixChain_zero (hs : List Nat) (j : Nat) : ixChain hs 0 j = [] := rfl
theorem ixChain_hit (hs : List Nat) (i : Nat) : ixChain hs (i + 1) (hs.getD i 0) = ixChain hs i (hs.getD i 0) ++ [(i : Int)] := by
 unfold ixChain
 rw [List.range_succ, List.filter_append, List.map_append]
 congr 1
 simp
theorem ixChain_miss (hs : List Nat) (i j : Nat) (hne : j ≠ hs.getD i 0) : ixChain hs (i + 1) j = ixChain hs i j := by
 unfold ixChain
 rw [List.range_succ, List.filter_append, List.map_append]
 have : (hs.getD i 0 == j) = false := by rw [beq_eq_false_iff_ne]; exact fun h => hne h.symm
 rw [show List.filter (fun p : Nat => hs.getD p 0 == j) [i] = [] from by rw [List.filter_cons_of_neg (by rw [this]; decide)]; rfl, zm3, List.append_nil]
def ixCnt (hs : List Nat) (i j : Nat) : Nat := (ixChain hs i j).length
theorem ixCnt_zero (hs : List Nat) (j : Nat) : ixCnt hs 0 j = 0 := rfl
theorem ixCnt_hit (hs : List Nat) (i : Nat) : ixCnt hs (i + 1) (hs.getD i 0) = ixCnt hs i (hs.getD i 0) + 1 := by
 unfold ixCnt
 rw [ixChain_hit, List.length_append]
 rfl
theorem ixCnt_miss (hs : List Nat) (i j : Nat) (hne : j ≠ hs.getD i 0) : ixCnt hs (i + 1) j = ixCnt hs i j := by
 unfold ixCnt
 rw [ixChain_miss hs i j hne]
theorem ixCnt_mono (hs : List Nat) (i d j : Nat) : ixCnt hs i j ≤ ixCnt hs (i + d) j := by
 induction d with
 | zero => exact Nat.le_refl _
 | succ d ih =>
  refine Nat.le_trans ih ?_
  by_cases hj : j = hs.getD (i + d) 0
  ·subst hj
   rw [show i + (d + 1) = (i + d) + 1 from rfl, ixCnt_hit]
   omega
  ·rw [show i + (d + 1) = (i + d) + 1 from rfl, ixCnt_miss _ _ _ hj]
   omega
theorem ixCnt_le (hs : List Nat) (i j : Nat) : ixCnt hs i j ≤ i := by
 induction i with
 | zero => exact Nat.le_refl _
 | succ i ih =>
  by_cases hj : j = hs.getD i 0
  ·subst hj
   rw [ixCnt_hit]
   omega
  ·rw [ixCnt_miss _ _ _ hj]
   omega
def ixSum (hs : List Nat) (i : Nat) : Nat → Nat
 | 0 => 0
 | j + 1 => ixSum hs i j + ixCnt hs i j
theorem ixSum_succ (hs : List Nat) (i j : Nat) : ixSum hs i (j + 1) = ixSum hs i j + ixCnt hs i j := rfl
theorem ixSum_zero (hs : List Nat) (j : Nat) : ixSum hs 0 j = 0 := by
 induction j with
 | zero => rfl
 | succ j ih => rw [ixSum_succ, ih, ixCnt_zero]
theorem ixSum_step (hs : List Nat) (i j : Nat) : ixSum hs (i + 1) j = ixSum hs i j + (if hs.getD i 0 < j then 1 else 0) := by
 induction j with
 | zero => simp [ixSum]
 | succ j ih =>
  rw [ixSum_succ, ixSum_succ, ih]
  by_cases hj : j = hs.getD i 0
  ·subst hj
   rw [ixCnt_hit, if_neg (by omega), if_pos (by omega)]
   omega
  ·rw [ixCnt_miss _ _ _ hj]
   by_cases h2 : hs.getD i 0 < j
   ·rw [if_pos h2, if_pos (by omega)]; omega
   ·rw [if_neg h2, if_neg (by omega)]; omega
theorem ixSum_mono (hs : List Nat) (i j d : Nat) : ixSum hs i j ≤ ixSum hs i (j + d) := by
 induction d with
 | zero => exact Nat.le_refl _
 | succ d ih => rw [show j + (d + 1) = (j + d) + 1 from rfl, ixSum_succ]; omega
theorem ixSum_lt {hs : List Nat} {i j j' : Nat} (h : j < j') : ixSum hs i j + ixCnt hs i j ≤ ixSum hs i j' := by
 have h1 := ixSum_mono hs i (j + 1) (j' - (j + 1))
 rw [show j + 1 + (j' - (j + 1)) = j' by omega, ixSum_succ] at h1
 exact h1
def ixRow (f : Nat → Value) (n : Nat) : Array Value := ((List.range n).map f).toArray
theorem ixRow_size (f : Nat → Value) (n : Nat) : (ixRow f n).size = n := by simp [ixRow]
theorem ixRow_get (f : Nat → Value) {n i : Nat} (h : i < n) : (ixRow f n)[i]? = some (f i) := by simp [ixRow, h]
def ixUpd {α : Type} (f : Nat → α) (i : Nat) (x : α) : Nat → α := fun j => if j = i then x else f j
theorem ixRow_set (f : Nat → Value) (n i : Nat) (v : Value) : (ixRow f n).setIfInBounds i v = ixRow (ixUpd f i v) n := by
 apply Array.ext_getElem?
 intro j
 rw [Array.getElem?_setIfInBounds, ixRow_size]
 by_cases hj : j < n
 ·rw [ixRow_get _ hj, ixRow_get _ hj]
  unfold ixUpd
  by_cases e : i = j
  ·subst e
   rw [if_pos rfl, if_pos hj, if_pos rfl]
  ·rw [if_neg e, if_neg (fun h => e h.symm)]
 ·have h1 : (ixRow f n)[j]? = none := by rw [Array.getElem?_eq_none_iff, ixRow_size]; omega
  have h2 : (ixRow (ixUpd f i v) n)[j]? = none := by rw [Array.getElem?_eq_none_iff, ixRow_size]; omega
  rw [h1, h2]
  by_cases e : i = j
  ·rw [if_pos e, if_neg (by omega)]
  ·rw [if_neg e]
theorem ixRow_congr {f g : Nat → Value} {n : Nat} (h : ∀ j, j < n → f j = g j) : ixRow f n = ixRow g n := by
 unfold ixRow
 congr 1
 exact List.map_congr_left fun j hj => h j (List.mem_range.1 hj)
theorem ixRow_made (z : Value) (n : Nat) : madeCells #[z] n = ixRow (fun _ => z) n := by
 apply Array.ext_getElem?
 intro j
 by_cases hj : j < n
 ·rw [ixRow_get _ hj]
  simp [madeCells, hj, Nat.mod_one]
 ·rw [Array.getElem?_eq_none_iff.2 (show (madeCells #[z] n).size ≤ j by simp [madeCells]; omega), Array.getElem?_eq_none_iff.2 (show (ixRow (fun _ => z) n).size ≤ j by rw [ixRow_size]; omega)]
theorem ixHs_get (l : List S55) (i : Nat) (hi : i < l.length) : (ixHs l).getD i 0 = ixHead (ixHeads l.length) (rd_T55 l (i : Int)).f0 := by
 unfold ixHs rd_T55
 rw [List.getD_eq_getElem?_getD, List.getElem?_map, Int.toNat_natCast, List.getD_eq_getElem?_getD, List.getElem?_eq_getElem hi, Option.map_some, Option.getD_some, Option.getD_some]
def ixFe (hs : List Nat) (i : Nat) : Nat → Int := fun j => if j = 0 then 0 else (ixCnt hs i (j - 1) : Int)
theorem ixFe_step (hs : List Nat) (i : Nat) (j : Nat) : ixUpd (ixFe hs i) (hs.getD i 0 + 1) ((ixCnt hs i (hs.getD i 0) : Int) + 1) j = ixFe hs (i + 1) j := by
 unfold ixUpd ixFe
 by_cases e : j = hs.getD i 0 + 1
 ·subst e
  rw [if_pos rfl, if_neg (by omega), Nat.add_sub_cancel, ixCnt_hit]
  rfl
 ·rw [if_neg e]
  by_cases e0 : j = 0
  ·rw [if_pos e0, if_pos e0]
  ·rw [if_neg e0, if_neg e0, ixCnt_miss _ _ _ (by omega)]
def ixFs (hs : List Nat) (m j : Nat) : Nat → Int := fun p => if p ≤ j then (ixSum hs m p : Int) else (ixCnt hs m (p - 1) : Int)
theorem ixFs_zero (hs : List Nat) (m : Nat) (p : Nat) : ixFe hs m p = ixFs hs m 0 p := by
 unfold ixFe ixFs
 by_cases e : p = 0
 ·subst e
  rfl
 ·rw [if_neg e, if_neg (by omega)]
theorem ixFs_step (hs : List Nat) (m j p : Nat) : ixUpd (ixFs hs m j) (j + 1) ((ixCnt hs m j : Int) + (ixSum hs m j : Int)) p = ixFs hs m (j + 1) p := by
 unfold ixUpd ixFs
 by_cases e : p = j + 1
 ·subst e
  rw [if_pos rfl, if_pos (Nat.le_refl _), ixSum_succ]
  omega
 ·rw [if_neg e]
  by_cases e1 : p ≤ j
  ·rw [if_pos e1, if_pos (by omega)]
  ·rw [if_neg e1, if_neg (by omega)]
theorem ixSum_le (hs : List Nat) (i j : Nat) : ixSum hs i j ≤ i := by
 induction i with
 | zero => rw [ixSum_zero]; exact Nat.le_refl _
 | succ i ih =>
  rw [ixSum_step]
  by_cases e : hs.getD i 0 < j
  ·rw [if_pos e]; omega
  ·rw [if_neg e]; omega
theorem ixCnt_lt (hs : List Nat) {i m : Nat} (hi : i < m) : ixCnt hs i (hs.getD i 0) + 1 ≤ ixCnt hs m (hs.getD i 0) := by
 have h := ixCnt_mono hs (i + 1) (m - (i + 1)) (hs.getD i 0)
 rw [show i + 1 + (m - (i + 1)) = m by omega, ixCnt_hit] at h
 exact h
def ixAt (hs : List Nat) (m j : Nat) : Nat := if ixCnt hs m j = 0 then 0 else ixSum hs m j
theorem ixAt_pos {hs : List Nat} {m j : Nat} (h : 0 < ixCnt hs m j) : ixAt hs m j = ixSum hs m j := by
 unfold ixAt
 rw [if_neg (by omega)]
def ixFc (hs : List Nat) (m ga j0 : Nat) : Nat → Value := fun p => if p < j0 then .slice (some ⟨ga, ixAt hs m p, none⟩) 0 (ixCnt hs m p) else .slice none 0 0
def ixFd (hs : List Nat) (m ga i : Nat) : Nat → Value := fun p => .slice (some ⟨ga, ixAt hs m p, none⟩) (ixCnt hs i p) (ixCnt hs m p)
theorem ixFc_step (hs : List Nat) (m ga j p : Nat) : ixUpd (ixFc hs m ga j) j (.slice (some ⟨ga, ixAt hs m j, none⟩) 0 (ixCnt hs m j)) p = ixFc hs m ga (j + 1) p := by
 unfold ixUpd ixFc
 by_cases e : p = j
 ·subst e
  rw [if_pos rfl, if_pos (by omega)]
 ·rw [if_neg e]
  by_cases e1 : p < j
  ·rw [if_pos e1, if_pos (by omega)]
  ·rw [if_neg e1, if_neg (by omega)]
theorem ixFc_end (hs : List Nat) (m ga j p : Nat) (hp : p < j) : ixFc hs m ga j p = ixFd hs m ga 0 p := by
 unfold ixFc ixFd
 rw [if_pos hp, ixCnt_zero]
theorem ixFd_step (hs : List Nat) (m ga i p : Nat) : ixUpd (ixFd hs m ga i) (hs.getD i 0) (.slice (some ⟨ga, ixAt hs m (hs.getD i 0), none⟩) (ixCnt hs i (hs.getD i 0) + 1) (ixCnt hs m (hs.getD i 0))) p = ixFd hs m ga (i + 1) p := by
 unfold ixUpd ixFd
 by_cases e : p = hs.getD i 0
 ·subst e
  rw [if_pos rfl, ixCnt_hit]
 ·rw [if_neg e, ixCnt_miss _ _ _ e]
theorem info82 : (Try.prog.info? 82).map (fun i => (i.zero, i.size, i.bytes)) = some (some (.slice none 0 0), 1, 24) := by kernel_rfl
structure IxB (w w' : World) (gs g gc ge : Nat) (a0 a1 a2 : Int) (A : Option Addr) (c : Nat) (l : List S55) (Am : Option Addr) (cm H : Nat) (fc : Nat → Value) (fe : Nat → Int) : Prop where
 bs : w'.heap[gs]? = some (.cells #[.int .i64 a0, .int .i64 a1, .int .i64 a2, .slice A l.length c] 24 (0, 0))
 bx : w'.heap[g]? = some (.cells #[.slice Am l.length cm, .int .i64 a0, .int .i64 a1, .slice (some ⟨gc, 0, none⟩) H H] 81 (0, 0))
 bc : w'.heap[gc]? = some (.cells (ixRow fc H) 82 (0, 0))
 be : w'.heap[ge]? = some (.cells (ixRow (fun j => .int .i64 (fe j)) (H + 1)) 3 (0, 0))
 mr : Kd.R k55 55 w' w.heap.size (fun _ => True) (.slice Am l.length cm) l
 bl : Below w.heap.size w w'
 lo : w.heap.size ≤ gs ∧ w.heap.size ≤ g ∧ w.heap.size ≤ gc ∧ w.heap.size ≤ ge
section
variable {w w' w2 : World} {gs g gc ge : Nat} {a0 a1 a2 : Int} {A : Option Addr} {c : Nat} {l : List S55} {Am : Option Addr} {cm H : Nat} {fc : Nat → Value} {fe : Nat → Int}
theorem IxB.step (h : IxB w w' gs g gc ge a0 a1 a2 A c l Am cm H fc fe) (hb : Below w'.heap.size w' w2) : IxB w w2 gs g gc ge a0 a1 a2 A c l Am cm H fc fe :=
 ⟨zc6 h.bs hb, zc6 h.bx hb, zc6 h.bc hb, zc6 h.be hb, Kd.R_below h.mr hb, zb5 h.bl hb, h.lo⟩
theorem IxB.putE (h : IxB w w' gs g gc ge a0 a1 a2 A c l Am cm H fc fe) (j : Nat) (x : Int) : IxB w (w'.setCell ⟨ge, j, none⟩ (.int .i64 x)) gs g gc ge a0 a1 a2 A c l Am cm H fc (ixUpd fe j x) :=
 ⟨zc7 h.bs (blk_ne h.bs h.be (by decide)) _, zc7 h.bx (blk_ne h.bx h.be (by decide)) _, zc7 h.bc (blk_ne h.bc h.be (by decide)) _,
  blk_put h.be _ _ (by rw [ixRow_set]; exact ixRow_congr (fun k _ => by unfold ixUpd; by_cases e : k = j <;> simp [e])),
  Kd.R_set h.mr h.be (by decide) _ _, h.bl.setCell h.lo.2.2.2 _, h.lo⟩
theorem IxB.putC (h : IxB w w' gs g gc ge a0 a1 a2 A c l Am cm H fc fe) (j : Nat) (x : Value) : IxB w (w'.setCell ⟨gc, j, none⟩ x) gs g gc ge a0 a1 a2 A c l Am cm H (ixUpd fc j x) fe :=
 ⟨zc7 h.bs (blk_ne h.bs h.bc (by decide)) _, zc7 h.bx (blk_ne h.bx h.bc (by decide)) _, blk_put h.bc _ _ (ixRow_set _ _ _ _), zc7 h.be (blk_ne h.be h.bc (by decide)) _,
  Kd.R_set h.mr h.bc (by decide) _ _, h.bl.setCell h.lo.2.2.1 _, h.lo⟩
theorem IxB.putA (h : IxB w w' gs g gc ge a0 a1 a2 A c l Am cm H fc fe) {ga : Nat} {ca : Array Value} (ha : w'.heap[ga]? = some (.cells ca 3 (0, 0))) (hne : ge ≠ ga) (hlo : w.heap.size ≤ ga) (j : Nat) (x : Value) : IxB w (w'.setCell ⟨ga, j, none⟩ x) gs g gc ge a0 a1 a2 A c l Am cm H fc fe :=
 ⟨zc7 h.bs (blk_ne h.bs ha (by decide)) _, zc7 h.bx (blk_ne h.bx ha (by decide)) _, zc7 h.bc (blk_ne h.bc ha (by decide)) _, zc7 h.be hne _,
  Kd.R_set h.mr ha (by decide) _ _, h.bl.setCell hlo _, h.lo⟩
theorem IxB.congr {fc' : Nat → Value} {fe' : Nat → Int} (h : IxB w w' gs g gc ge a0 a1 a2 A c l Am cm H fc fe) (h1 : ∀ j, j < H → fc j = fc' j) (h2 : ∀ j, j < H + 1 → fe j = fe' j) : IxB w w' gs g gc ge a0 a1 a2 A c l Am cm H fc' fe' :=
 ⟨h.bs, h.bx, by rw [← ixRow_congr h1]; exact h.bc, (ixRow_congr (f := fun j => .int .i64 (fe j)) (g := fun j => .int .i64 (fe' j)) (fun j hj => by show Value.int .i64 (fe j) = _; rw [h2 j hj])) ▸ h.be, h.mr, h.bl, h.lo⟩
theorem IxB.cellE (h : IxB w w' gs g gc ge a0 a1 a2 A c l Am cm H fc fe) {j : Nat} (hj : j < H + 1) : w'.cell? ⟨ge, j, none⟩ = some (.int .i64 (fe j)) := by rw [zc1 h.be, ixRow_get _ hj]
theorem IxB.cellC (h : IxB w w' gs g gc ge a0 a1 a2 A c l Am cm H fc fe) {j : Nat} (hj : j < H) : w'.cell? ⟨gc, j, none⟩ = some (fc j) := by rw [zc1 h.bc, ixRow_get _ hj]
theorem IxB.cellS (h : IxB w w' gs g gc ge a0 a1 a2 A c l Am cm H fc fe) : w'.cell? ⟨gs, 3, none⟩ = some (.slice A l.length c) := by rw [zc1 h.bs]; rfl
theorem IxB.cellX (h : IxB w w' gs g gc ge a0 a1 a2 A c l Am cm H fc fe) : w'.cell? ⟨g, 3, none⟩ = some (.slice (some ⟨gc, 0, none⟩) H H) := by rw [zc1 h.bx]; rfl
end
section
variable {P : Program} {ops : Array Oper} {o : Oper} {a : Act} {Q : Exit → Act → World → Prop} {Kc : Act → World → Prop}
theorem ix_make {W : World} (hw : Region.wanted o (yielded ops a.tmps) = true) (x y : Operand) (t e : TypeId) (z : Value) (bytes : Nat) (ho : o.op = .makeSlice t x y) (ht : P.underlying t = some (.slice e))
    (hinfo : (P.info? e).map (fun i => (i.zero, i.size, i.bytes)) = some (some z, 1, bytes)) (hz1 : z.cells = #[z]) (n : Nat) (hx : a.eval x = .int .i64 (n : Int)) (hy : a.eval y = .int .i64 (n : Int)) (hb : bytes * n ≤ 281474976710656) (h63 : n ≤ 9223372036854775807)
    (h : ∀ g, g = W.heap.size → ∀ w1, w1.heap[g]? = some (.cells (ixRow (fun _ => z) n) e (0, 0)) → Below W.heap.size W w1 → Kc (a.put o.dst (.slice (some ⟨g, 0, none⟩) n n)) w1) : if Region.wanted o (yielded ops a.tmps) = true then Oper.wp P o a W Kc Q else Kc (a.put o.dst undef) W := by
 have hrun := run_make_row' (P := P) t e z bytes ht hinfo hz1 .i64 .i64 n hb h63 W
 rw [ixRow_made] at hrun
 rw [if_pos hw]
 unfold Oper.wp execOp
 simp only [ho, hx, hy, Sem.run_bind, Sem.run_pure, hrun, Result.andThen_ok]
 exact h _ rfl _ (blk_new W _) (zb3 (Below.refl _ _) _)
theorem ix_makeL {rest : List Oper} {W : World} (hgd : o.guard = none) (x y : Operand) (t e : TypeId) (z : Value) (bytes : Nat) (ho : o.op = .makeSlice t x y) (ht : P.underlying t = some (.slice e))
    (hinfo : (P.info? e).map (fun i => (i.zero, i.size, i.bytes)) = some (some z, 1, bytes)) (hz1 : z.cells = #[z]) (n : Nat) (hx : a.eval x = .int .i64 (n : Int)) (hy : a.eval y = .int .i64 (n : Int)) (hb : bytes * n ≤ 281474976710656) (h63 : n ≤ 9223372036854775807)
    (h : ∀ g, g = W.heap.size → ∀ w1, w1.heap[g]? = some (.cells (ixRow (fun _ => z) n) e (0, 0)) → Below W.heap.size W w1 → wpList P ops Q rest (a.put o.dst (.slice (some ⟨g, 0, none⟩) n n)) w1) : wpList P ops Q (o :: rest) a W := by
 have hrun := run_make_row' (P := P) t e z bytes ht hinfo hz1 .i64 .i64 n hb h63 W
 rw [ixRow_made] at hrun
 refine wpList_plain hgd fun K hK => ?_
 unfold Oper.wp execOp
 simp only [ho, hx, hy, Sem.run_bind, Sem.run_pure, hrun, Result.andThen_ok]
 exact hK _ _ (h _ rfl _ (blk_new W _) (zb3 (Below.refl _ _) _))
theorem ix_append {W : World} (hw : Region.wanted o (yielded ops a.tmps) = true) (s x : Operand) (t e : TypeId) (z : Value) (bytes : Nat)
    (ho : o.op = .call { callee := .builtin .append, args := #[s, x], argTypes := #[t, t] }) (ht : P.underlying t = some (.slice e)) (hinfo : (P.info? e).map (fun i => (i.zero, i.size, i.bytes)) = some (some z, 1, bytes))
    (ga off len cap gb : Nat) (v : Int) (hs : a.eval s = .slice (some ⟨ga, off, none⟩) len cap) (hx : a.eval x = .slice (some ⟨gb, 0, none⟩) 1 1) (hb : W.cell? ⟨gb, 0, none⟩ = some (.int .i64 v)) (hroom : len + 1 ≤ cap)
    (hc : (W.cell? ⟨ga, off + len, none⟩).isSome = true) (hf : W.frozen? ⟨ga, off + len, none⟩ = false)
    (h : Kc (a.put o.dst (.slice (some ⟨ga, off, none⟩) (len + 1) cap)) (W.setCell ⟨ga, off + len, none⟩ (.int .i64 v))) : if Region.wanted o (yielded ops a.tmps) = true then Oper.wp P o a W Kc Q else Kc (a.put o.dst undef) W := by
 obtain ⟨i0, hi, hzz⟩ := Option.map_eq_some_iff.1 hinfo
 simp only [Prod.mk.injEq] at hzz
 obtain ⟨_, hz1, _⟩ := hzz
 have hsrc : Src P i0.size t (.slice (some ⟨gb, 0, none⟩) 1 1) 1 [.int .i64 v] W := by
  refine Src.ofSlice W ht ⟨gb, 0, none⟩ 1 1 [.int .i64 v] (by rw [hz1]; rfl) (fun j u hj => ?_) (fun u hu => by rw [List.mem_singleton.1 hu]; rfl)
  cases j with
  | zero => obtain rfl : Value.int .i64 v = u := by simpa using hj
            exact hb
  | succ j => simp at hj
 have hrun := run_append_room_src (P := P) W t t o.type e i0 ht hi ga off len cap _ 1 [.int .i64 v] hsrc hroom
  (fun j hj => by obtain rfl : j = 0 := by simpa using hj
                  rw [hz1, Nat.mul_one, Nat.add_zero]; exact hc)
  (fun j hj => by obtain rfl : j = 0 := by simpa using hj
                  rw [hz1, Nat.mul_one, Nat.add_zero]; exact hf)
 rw [hz1, Nat.mul_one] at hrun
 rw [if_pos hw]
 unfold Oper.wp execOp
 simp only [ho, resolve, invoke, builtin, Sem.run_bind, Sem.run_pure, Result.andThen_ok, zm1, zm2, zm3, hs, hx, hrun]
 exact h
end
theorem ix_head (g n c : Nat) (v0 v1 v2 : Value) (A : Option Addr) (a1 : Int) (w : World) (hx : w.heap[g]? = some (.cells #[v0, v1, v2, .slice A n c] 81 (0, 0))) :
    Calls Try.prog 42 #[.pointer (some ⟨g, 0, none⟩), .int .u32 a1] w fun e w' => e = .returned (.int .i64 (ixHeadI n a1)) ∧ Below w.heap.size w w' := by
 have hu := Try.underlying81
 have HB := zA (Below.refl w.heap.size w)
 have hc3 : w.cell? ⟨g, 3, none⟩ = some (.slice A n c) := (zc1 hx 3).trans rfl
 clear hx
 go_enter Try.func42, Try.ntmps42
 go_wp2_with fail
 go_ret
 exact ⟨rfl, by repeat (first | (with_reducible first | exact HB.out | apply zb3 | apply zb1 | apply zb2) | exact HB.out)⟩
theorem ix_lit {P : Program} {ops : Array Oper} {o : Oper} {a : Act} {Q : Exit → Act → World → Prop} {Kc : Act → World → Prop} {W : World} (hw : Region.wanted o (yielded ops a.tmps) = true) {cs : Array Value} {n : Nat} {t : TypeId}
    (hrun : (execOp a.eval o).run P W = .ok (.value (.slice (some ⟨W.heap.size, 0, none⟩) n n)) (W.alloc (.cells cs t (0, 0))))
    (h : ∀ g, g = W.heap.size → ∀ w1, w1.heap[g]? = some (.cells cs t (0, 0)) → Below W.heap.size W w1 → Kc (a.put o.dst (.slice (some ⟨g, 0, none⟩) n n)) w1) : if Region.wanted o (yielded ops a.tmps) = true then Oper.wp P o a W Kc Q else Kc (a.put o.dst undef) W :=
 event_step hw hrun (h _ rfl _ (blk_new W _) (zb3 (Below.refl _ _) _))
def IxA (w' : World) (ga m H : Nat) (hs : List Nat) (i : Nat) : Prop :=
 ∃ ca : Array Value, w'.heap[ga]? = some (.cells ca 3 (0, 0)) ∧ ca.size = m ∧ ∀ j, j < H → ∀ (q : Nat) (x : Int), (ixChain hs i j)[q]? = some x → ca[ixSum hs m j + q]? = some (.int .i64 x)
theorem IxA.zero {w' : World} {ga m H : Nat} {hs : List Nat} {f : Nat → Value} (h : w'.heap[ga]? = some (.cells (ixRow f m) 3 (0, 0))) : IxA w' ga m H hs 0 :=
 ⟨_, h, ixRow_size _ _, fun j _ q x hx => by rw [ixChain_zero] at hx; simp at hx⟩
theorem IxA.step {w' w2 : World} {ga m H : Nat} {hs : List Nat} {i : Nat} (h : IxA w' ga m H hs i) (hb : Below w'.heap.size w' w2) : IxA w2 ga m H hs i := by
 obtain ⟨ca, h1, h2⟩ := h
 exact ⟨ca, zc6 h1 hb, h2⟩
theorem IxA.far {w' : World} {ga m H : Nat} {hs : List Nat} {i : Nat} (h : IxA w' ga m H hs i) {gc : Nat} {cc : Array Value} (hc : w'.heap[gc]? = some (.cells cc 82 (0, 0))) (j : Nat) (v : Value) : IxA (w'.setCell ⟨gc, j, none⟩ v) ga m H hs i := by
 obtain ⟨ca, h1, h2⟩ := h
 exact ⟨ca, zc7 h1 (blk_ne h1 hc (by decide)) _, h2⟩
theorem IxA.there {w' : World} {ga m H : Nat} {hs : List Nat} {i p : Nat} (h : IxA w' ga m H hs i) (hp : p < m) : (w'.cell? ⟨ga, p, none⟩).isSome = true ∧ w'.frozen? ⟨ga, p, none⟩ = false := by
 obtain ⟨ca, h1, h2, _⟩ := h
 refine ⟨?_, zc5 h1 _⟩
 rw [zc1 h1, Array.getElem?_eq_getElem (by omega)]
 rfl
theorem IxA.put {w' : World} {ga m H : Nat} {hs : List Nat} {i : Nat} (h : IxA w' ga m H hs i) (hi : i < m) : IxA (w'.setCell ⟨ga, ixSum hs m (hs.getD i 0) + ixCnt hs i (hs.getD i 0), none⟩ (.int .i64 (i : Int))) ga m H hs (i + 1) := by
 obtain ⟨ca, h1, h2, h3⟩ := h
 have hlt := ixCnt_lt hs hi
 have hsz : ixSum hs m (hs.getD i 0) + ixCnt hs m (hs.getD i 0) ≤ m := by rw [← ixSum_succ]; exact ixSum_le _ _ _
 refine ⟨_, blk_set h1 _ _, by rw [Array.size_setIfInBounds, h2], fun j hj q x hx => ?_⟩
 rw [Array.getElem?_setIfInBounds]
 by_cases e : j = hs.getD i 0
 ·subst e
  rw [ixChain_hit] at hx
  by_cases hq : q < ixCnt hs i (hs.getD i 0)
  ·rw [if_neg (by omega)]
   rw [List.getElem?_append_left hq] at hx
   exact h3 _ hj q x hx
  ·have hq2 : q = ixCnt hs i (hs.getD i 0) := by
     have h4 := (List.getElem?_eq_some_iff.1 hx).1
     rw [List.length_append] at h4
     have h5 : (ixChain hs i (hs.getD i 0)).length = ixCnt hs i (hs.getD i 0) := rfl
     simp only [List.length_cons, List.length_nil] at h4
     omega
   subst hq2
   have h5 : (ixChain hs i (hs.getD i 0)).length = ixCnt hs i (hs.getD i 0) := rfl
   rw [List.getElem?_append_right (by omega), h5, Nat.sub_self] at hx
   obtain rfl : (i : Int) = x := by simpa using hx
   rw [if_pos rfl, if_pos (by omega)]
 ·rw [ixChain_miss _ _ _ e] at hx
  have hq : q < ixCnt hs i j := (List.getElem?_eq_some_iff.1 hx).1
  have hq2 : ixCnt hs i j ≤ ixCnt hs m j := by
   have h4 := ixCnt_mono hs i (m - i) j
   rwa [show i + (m - i) = m by omega] at h4
  rw [if_neg (fun he => ?_)]
  ·exact h3 j hj q x hx
  ·rcases Nat.lt_or_ge j (hs.getD i 0) with hl | hl
   ·have := ixSum_lt (hs := hs) (i := m) hl; omega
   ·have := ixSum_lt (hs := hs) (i := m) (show hs.getD i 0 < j by omega); omega
theorem ix_reads {w' : World} {ga gc m H : Nat} {hs : List Nat} (hH : H ≤ 2000000) (hm : m ≤ 1000000) (hc : w'.heap[gc]? = some (.cells (ixRow (ixFd hs m ga m) H) 82 (0, 0))) (ha : IxA w' ga m H hs m) :
    Kd.C (Kd.slice 3 (Kd.int .i64)) w' (some ⟨gc, 0, none⟩) H ((List.range H).map fun j => ixChain hs m j) := by
 obtain ⟨ca, h1, h2, h3⟩ := ha
 refine ⟨by simp, by omega, fun _ => ⟨_, rfl, fun j p hp => ?_⟩⟩
 have hj : j < H := by
  have h4 := (List.getElem?_eq_some_iff.1 hp).1
  simpa using h4
 obtain rfl : ixChain hs m j = p := by
  rw [List.getElem?_map, List.getElem?_range hj] at hp
  exact Option.some.inj hp
 refine ⟨[.slice (some ⟨ga, ixAt hs m j, none⟩) (ixCnt hs m j) (ixCnt hs m j)], rfl, ⟨some ⟨ga, ixAt hs m j, none⟩, ixCnt hs m j, rfl, Nat.le_refl _, rfl, ?_, fun hpos => ⟨_, rfl, fun q x hx => ⟨[.int .i64 x], rfl, rfl, fun i u hu => ?_⟩⟩⟩, fun i u hu => ?_⟩
 ·have h4 := ixCnt_le hs m j
  have h5 : (ixChain hs m j).length = ixCnt hs m j := rfl
  omega
 ·have hpos' : 0 < ixCnt hs m j := hpos
  cases i with
  | zero =>
   obtain rfl : Value.int .i64 x = u := by simpa using hu
   rw [Addr.add_lit, show q * (Kd.int .i64).sz + 0 = q from Nat.mul_one q, zc1 h1, ixAt_pos hpos']
   exact h3 j hj q x hx
  | succ i => simp at hu
 ·cases i with
  | zero =>
   obtain rfl : Value.slice (some ⟨ga, ixAt hs m j, none⟩) (ixCnt hs m j) (ixCnt hs m j) = u := by simpa using hu
   rw [Addr.add_lit, show j * (Kd.slice 3 (Kd.int .i64)).sz + 0 = j from Nat.mul_one j, zc1 hc, Nat.zero_add, ixRow_get _ hj]
   rfl
  | succ i => simp at hu

set_option maxHeartbeats 8000000 in
set_option maxRecDepth 100000 in
theorem index_New.calls_bad (a0_0 : Int) (a0_1 : Int) (a0_2 : Int) (A0_3 : Option Addr) (c0_3 : Nat) (l0_3 : List S55) (r : Int) (w : World) (hr0_3 : Kd.C k55 w A0_3 l0_3.length l0_3) (hc0_3 : l0_3.length ≤ c0_3) (h : sig_Check.f a0_0 a0_1 a0_2 l0_3 = some r) (hne : r ≠ 0) :
    Calls Try.prog 22 #[.agg #[.int .i64 a0_0, .int .i64 a0_1, .int .i64 a0_2, .slice A0_3 l0_3.length c0_3]] w fun e w' => e = .returned (.tuple #[.pointer none, .int .i64 r]) ∧ Below w.heap.size w w' := by
 have hu := Try.underlying24
 have HR := zA hr0_3
 have HC := zA hc0_3
 have H := zA h
 have d1 : (r != 0) = true := by simpa using hne
 clear hr0_3 hc0_3 h hne
 go_enter Try.func22, Try.ntmps22
 go_wp2_with (first | ((with_reducible refine gate_dst (N := 1) rfl ?_); refine box_event ?hg (N := 1) ?hd (cs := #[.int .i64 a0_0, .int .i64 a0_1, .int .i64 a0_2, .slice A0_3 l0_3.length c0_3]) (t := 24) ?hr ?_; (case hd => rfl); (case hg => rfl); (case hr => first | (go_simp; done) | (go_simp; rfl)); intro g1 hg1 w1 hA hq; have HB := zA hq; have HBK := zA hA; have hc0 := zc1 hA 0; have hc1 := zc1 hA 1; have hc2 := zc1 hA 2; have hc3 := zc1 hA 3; clear hA hq hg1))
 refine (sig_Check.calls a0_0 a0_1 a0_2 A0_3 c0_3 l0_3 r _ (Kd.C_below HR.out HB.out) HC.out H.out).mono ?_
 rintro e w2 ⟨rfl, hb⟩
 have HB2 := zA (zb5 HB.out hb)
 clear hb hc0 hc1 hc2 hc3
 go_wp2_with fail
 go_ret2
 exact ⟨rfl, HB2.out⟩
def index_New.T7 : Bool × List (List Nat × List Nat) := (true, [([], []), ([0], [0]), ([1], [1]), ([], []), ([3], [3]), ([], []), ([5], [5]), ([], []), ([7, 7], [7]), ([2, 4, 6, 8], [2, 4, 6, 8]), ([9], [9]), ([10, 2, 0, 1, 2, 3, 4, 5, 6, 7, 8, 9, 10], [10])])
def index_New.B7 : List Nat := [0, 1, 3, 0, 8, 0, 32, 0, 128, 511, 1023, 2047]
theorem index_New.tab7 : rtab .any (opsOf Try.f22 7) = index_New.T7 := by kernel_rfl
theorem index_New.bits7 : waitsOk index_New.T7.2 index_New.B7 = true := by kernel_rfl
def index_New.T17 : Bool × List (List Nat × List Nat) := (true, [([], []), ([], []), ([1], [1]), ([0, 2], [0, 2]), ([3], [3]), ([], []), ([], []), ([5, 6], [5, 6]), ([7], [7]), ([4, 8], [4, 8]), ([0, 2, 0, 1, 2, 3, 4, 5, 6, 7, 8, 9], [0, 2]), ([10, 9, 0, 1, 2, 3, 4, 5, 6, 7, 8, 9], [9, 10])])
def index_New.B17 : List Nat := [0, 0, 2, 7, 15, 0, 0, 96, 224, 511, 1023, 2047]
theorem index_New.tab17 : rtab .any (opsOf Try.f22 17) = index_New.T17 := by kernel_rfl
theorem index_New.bits17 : waitsOk index_New.T17.2 index_New.B17 = true := by kernel_rfl
def index_New.T23 : Bool × List (List Nat × List Nat) := (true, [([], []), ([0], [0]), ([1], [1]), ([2], [2]), ([], []), ([], []), ([], []), ([], []), ([6, 7], [6, 7]), ([8], [8]), ([], []), ([], []), ([10, 11], [10, 11]), ([12], [12]), ([], []), ([], []), ([15], [15]), ([14, 16], [14, 16]), ([17], [17]), ([5, 9, 13, 18], [5, 9, 13, 18]), ([3, 4, 0, 1, 2, 3, 4, 5, 6, 7, 8, 9, 10, 11, 12, 13, 14, 15, 16, 17, 18, 19], [3, 4]), ([20, 19, 0, 1, 2, 3, 4, 5, 6, 7, 8, 9, 10, 11, 12, 13, 14, 15, 16, 17, 18, 19], [19, 20])])
def index_New.B23 : List Nat := [0, 1, 3, 7, 0, 0, 0, 0, 192, 448, 0, 0, 3072, 7168, 0, 0, 32768, 114688, 245760, 524256, 1048575, 2097151]
theorem index_New.tab23 : rtab .any (opsOf Try.f22 23) = index_New.T23 := by kernel_rfl
theorem index_New.bits23 : waitsOk index_New.T23.2 index_New.B23 = true := by kernel_rfl
def index_New.T29 : Bool × List (List Nat × List Nat) := (true, [([], []), ([0], [0]), ([1], [1]), ([2], [2]), ([], []), ([], []), ([5], [5]), ([6], [6]), ([7], [7]), ([], []), ([8, 9], [8, 9]), ([10], [10]), ([], []), ([12], [12]), ([11, 13], [11, 13]), ([3, 4, 0, 1, 2, 3, 4, 5, 6, 7, 8, 9, 10, 11, 12, 13, 14], [3, 4]), ([15, 14, 14, 0, 1, 2, 3, 4, 5, 6, 7, 8, 9, 10, 11, 12, 13, 14], [14, 15])])
def index_New.B29 : List Nat := [0, 1, 3, 7, 0, 0, 32, 96, 224, 0, 992, 2016, 0, 4096, 16352, 32767, 65535]
theorem index_New.tab29 : rtab .any (opsOf Try.f22 29) = index_New.T29 := by kernel_rfl
theorem index_New.bits29 : waitsOk index_New.T29.2 index_New.B29 = true := by kernel_rfl
set_option maxHeartbeats 16000000 in
set_option maxRecDepth 100000 in
theorem index_New.calls_ok (a0_0 : Int) (a0_1 : Int) (a0_2 : Int) (A0_3 : Option Addr) (c0_3 : Nat) (l0_3 : List S55) (w : World) (hr0_3 : Kd.C k55 w A0_3 l0_3.length l0_3) (hc0_3 : l0_3.length ≤ c0_3) (h : sig_Check.f a0_0 a0_1 a0_2 l0_3 = some 0) (hlen : l0_3.length ≤ 1000000) :
    Calls Try.prog 22 #[.agg #[.int .i64 a0_0, .int .i64 a0_1, .int .i64 a0_2, .slice A0_3 l0_3.length c0_3]] w fun e w' => ∃ (g : Nat) (A0 : Option Addr) (c0 : Nat) (A3 : Option Addr) (c3 : Nat), e = .returned (.tuple #[.pointer (some ⟨g, 0, none⟩), .int .i64 0]) ∧ w.heap.size ≤ g ∧ w'.heap[g]? = some (.cells #[.slice A0 l0_3.length c0, .int .i64 a0_0, .int .i64 a0_1, .slice A3 (ixChains l0_3).length c3] 81 (0, 0)) ∧ Kd.C k55 w' A0 l0_3.length l0_3 ∧ l0_3.length ≤ c0 ∧ Kd.C (Kd.slice 3 (Kd.int .i64)) w' A3 (ixChains l0_3).length (ixChains l0_3) ∧ (ixChains l0_3).length ≤ c3 ∧ Below w.heap.size w w' := by
 have hu := Try.underlying24
 have hu2 := Try.underlying81
 have hu3 := Try.underlying55
 have HR := zA hr0_3
 have HC := zA hc0_3
 have HF := zA h
 obtain ⟨m, hm⟩ : ∃ m : Nat, m = l0_3.length := ⟨_, rfl⟩
 obtain ⟨hn, hhn⟩ : ∃ hn : Nat, hn = ixHeads m := ⟨_, rfl⟩
 have hs0 : 0 < hn := by rw [hhn]; exact ixHeads_pos m
 have hs1 : hn ≤ 2000000 := by rw [hhn]; exact ixHeads_le (by omega)
 have HM := zA hm
 have HN := zA (show m ≤ 1000000 by omega)
 have HH := zA hhn
 have HH0 := zA hs0
 have HH1 := zA hs1
 clear hr0_3 hc0_3 h hlen hm hhn hs0 hs1
 go_enter Try.func22, Try.ntmps22
 go_wp2_with (first | ((with_reducible refine gate_dst (N := 1) rfl ?_); refine box_event ?hg (N := 1) ?hd (cs := #[.int .i64 a0_0, .int .i64 a0_1, .int .i64 a0_2, .slice A0_3 l0_3.length c0_3]) (t := 24) ?hr ?_; (case hd => rfl); (case hg => rfl); (case hr => first | (go_simp; done) | (go_simp; rfl)); intro g1 hg1 w1 hA hq; have HB := zA hq; have HBK := zA hA; have HG1 := zA hg1; have hc0 := zc1 hA 0; have hc1 := zc1 hA 1; have hc2 := zc1 hA 2; have hc3 := zc1 hA 3; clear hA hq hg1))
 refine (sig_Check.calls a0_0 a0_1 a0_2 A0_3 c0_3 l0_3 0 _ (Kd.C_below HR.out HB.out) HC.out HF.out).mono ?_
 rintro e w2 ⟨rfl, hb⟩
 have HB2 := zA (zb5 HB.out hb)
 have HBK2 := zA (zc6 HBK.out hb)
 clear hb hc0 hc1 hc2 hc3
 rw [← HM.out] at HBK2
 go_wp2_with fail
 go_loopg [5] m (fun kq v5 w' => ∃ h : Nat, v5 = .int .i64 (h : Int) ∧ Aside0 (ixGrow kq h m = hn ∧ 0 < h ∧ h ≤ 2000000 ∧ m ≤ h + kq) ∧ Aside0 (w'.heap[g1]? = some (.cells #[.int .i64 a0_0, .int .i64 a0_1, .int .i64 a0_2, .slice A0_3 m c0_3] 24 (0, 0))) ∧ Aside0 (Below w.heap.size w w'))
 case atStart => exact ⟨1, rfl, ⟨HH.out.symm, by omega, by omega, by omega⟩, ⟨HBK2.out⟩, ⟨by repeat (first | exact HB2.out | apply zb2 | apply zb1)⟩⟩
 case round =>
  clear HB HBK HB2 HBK2
  obtain ⟨h, rfl, HI, HBK, HB⟩ := hrel
  have hc3 := zc1 HBK.out 3
  by_cases hlt : h < m
  ·obtain ⟨k1, rfl⟩ : ∃ k1, gk = k1 + 1 := ⟨gk - 1, by have := HI.out.2.2.2; omega⟩
   have HL := zA hlt
   have d1 : decide ((h : Int) < (m : Int)) = true := zd1 (by omega)
   have d2 : decide (h < m) = true := zd1 hlt
   have e1 : wrap64 ((h : Int) * 2) = ((h * 2 : Nat) : Int) := by have := HI.out.2.2.1; unfold wrap64; omega
   clear hlt
   go_wp2_with fail
   rw [e1]
   go_roundg k1
   case measure => omega
   case rel => exact ⟨h * 2, rfl, ⟨by rw [← HI.out.1, ixGrow_step HL.out], by have := HI.out.2.1; omega, by have := HL.out; have := HN.out; omega, by have := HI.out.2.1; have := HI.out.2.2.2; omega⟩, ⟨HBK.out⟩, ⟨by repeat (first | exact HB.out | apply zb2 | apply zb1)⟩⟩
  ·have hge : h = hn := by rw [← HI.out.1, ixGrow_end hlt]
   have d1 : decide ((h : Int) < (m : Int)) = false := zd2 (by omega)
   have d2 : decide (h < m) = false := zd2 hlt
   clear HI hlt
   subst hge
   go_wp2_with fail
   clear d1 d2 hc3
   refine start_ (n := 12) (S := fun w' => w'.heap[g1]? = some (.cells #[.int .i64 a0_0, .int .i64 a0_1, .int .i64 a0_2, .slice A0_3 m c0_3] 24 (0, 0))) (ds := []) (qq 12 0) (by kernel_rfl) rfl (by kernel_rfl) HBK.out (fun hHeld => ?_); refine with_tabW index_New.tab7 index_New.bits7 (fun HT_ HW_ => ?_)
   refine ord_ [(0, 0, 1), (0, 3, 9), (0, 5, 41), (0, 7, 169), (1, 1, 171), (1, 4, 187), (1, 6, 251)] ?_
   repeat (first | (refine kk_ 0 ?_; refine oP_ (v := ?_) (a' := ?_) HT_ rfl rfl (by kernel_rfl) (fun _ _ _ h => h) (Or.inl ⟨by rfl, ?_⟩) ?_ ?_; rotate_left; (intro w'; go_simp; with_reducible rfl); rotate_left; (simp only [Act.put, zs1, zs2, zs3, i64_w, i32_w]; rfl)) | (refine kk_ 1 ?_; refine oT_ (v := ?_) (a' := ?_) HT_ HW_ rfl rfl (by kernel_rfl) (fun _ _ _ h => h) (Or.inl ⟨by rfl, ?_⟩) hHeld ?_ ?_; rotate_left; (rintro w' s0; have c0 := zc1 s0 0; have c1 := zc1 s0 1; have c3 := zc1 s0 3; go_simp; with_reducible rfl); rotate_left; (simp only [Act.put, zs1, zs2, zs3, i64_w, i32_w]; rfl)))
   refine oend_ ?_
   refine join_ 3 (qq 12 511) (fun s : Option Addr × Nat × Nat => [(30, .slice s.1 m s.2.1), (36, .slice (some ⟨s.2.2, 0, none⟩) h h)]) (fun s w' => w'.heap[g1]? = some (.cells #[.int .i64 a0_0, .int .i64 a0_1, .int .i64 a0_2, .slice A0_3 m c0_3] 24 (0, 0)) ∧ Kd.R k55 55 w' w.heap.size (fun _ => True) (.slice s.1 m s.2.1) l0_3 ∧ w'.heap[s.2.2]? = some (.cells (ixRow (fun _ => .slice none 0 0) h) 82 (0, 0)) ∧ Below w.heap.size w w' ∧ w.heap.size ≤ s.2.2) ?cont ?ord
   case ord =>
    intro hcont
    refine two_ (i := 2) (j := 8) (Ni := some 30) (Nj := some 36) (qq 12 255) (qq 12 507) rfl rfl rfl rfl (two_of HT_.out (by kernel_rfl)) (by decide) (by decide) (fun K hK => ?_) (fun K hK => ?_)
    ·refine Kd.R_append_rows_step k55 (w0 := w) w.heap.size (by rfl) (.const (.slice none 0 0)) (.tmp 29) 22 55 (.agg #[(.int .u32 0), (.string ⟨#[]⟩)]) 24 rfl Try.underlying22 info55 rfl (by decide) (by omega) (.slice none 0 0) [] l0_3 A0_3 m c0_3 (fun _ => True) (fun _ => False) rfl rfl (Kd.R_nil _ _ _ _ _) (by rw [HM.out]; exact Kd.C_below HR.out (by repeat (first | exact HB.out | apply zb2 | apply zb1))) (fun x cs hk => by rw [k55_open hk]; exact k55_mkM _ _ _ x) (fun _ hk => hk.elim) (fun _ _ => trivial) (by repeat (first | exact HB.out | apply zb2 | apply zb1)) (show w.heap.size ≤ wr.heap.size from HB.out.size) (by have := HN.out; simp only [List.length_nil]; omega) ?_
     intro v1 w4 ho hb hg hat
     rw [List.nil_append] at ho
     obtain ⟨Am, cm, hv⟩ := Kd.R_slice ho
     rw [← HM.out] at hv
     subst hv
     have hs4 := blk_grown HBK.out (grown_drew hg rfl rfl rfl rfl) (by simp [Value.ownBlock])
     refine hK.out _ _ hs4 (fun hHeld => ?_)
     clear hK K
     refine norm_ (a' := ?_) ?_ ?_
     rotate_left
     ·show Act.put _ (some 30) _ = _
      simp only [Act.put, zs1, zs2, zs3, i64_w, i32_w]
      rfl
     refine one_ (i := 8) (N := some 36) (qq 12 511) rfl rfl (one_of HT_.out (by kernel_rfl)) (by decide) (fun K hK => ?_)
     refine ix_make (by rfl) (.tmp 35) (.tmp 35) 79 82 (.slice none 0 0) 24 rfl Try.underlying79 info82 rfl h rfl rfl (by have := HH1.out; omega) (by have := HH1.out; omega) ?_
     intro gc hgc w5 hcb hb5
     refine hK.out _ _ (zc6 hs4 hb5) (fun hHeld => ?_)
     clear hK K
     refine norm_ (a' := _) ?_ (hcont (Am, cm, gc) w5 ⟨zc6 hs4 hb5, Kd.R_below ho hb5, hcb, zb5 hb hb5, by show w.heap.size ≤ gc; rw [hgc]; exact hb.size⟩)
     show Act.put _ (some 36) _ = _
     simp only [putAll, Act.put, zs1, zs2, zs3, i64_w, i32_w]
    ·refine ix_make (by rfl) (.tmp 35) (.tmp 35) 79 82 (.slice none 0 0) 24 rfl Try.underlying79 info82 rfl h rfl rfl (by have := HH1.out; omega) (by have := HH1.out; omega) ?_
     intro gc hgc w4 hcb hb4
     have hB4 : Below w.heap.size w w4 := zb5 (by repeat (first | exact HB.out | apply zb2 | apply zb1)) hb4
     have hs4 := zc6 HBK.out (show Below wr.heap.size wr w4 from ⟨hb4.os, hb4.tape, hb4.output, hb4.size, hb4.block⟩)
     refine hK.out _ _ hs4 (fun hHeld => ?_)
     clear hK K
     refine norm_ (a' := ?_) ?_ ?_
     rotate_left
     ·show Act.put _ (some 36) _ = _
      simp only [Act.put, zs1, zs2, zs3, i64_w, i32_w]
      rfl
     refine one_ (i := 2) (N := some 30) (qq 12 511) rfl rfl (one_of HT_.out (by kernel_rfl)) (by decide) (fun K hK => ?_)
     refine Kd.R_append_rows_step k55 (w0 := w) w.heap.size (by rfl) (.const (.slice none 0 0)) (.tmp 29) 22 55 (.agg #[(.int .u32 0), (.string ⟨#[]⟩)]) 24 rfl Try.underlying22 info55 rfl (by decide) (by omega) (.slice none 0 0) [] l0_3 A0_3 m c0_3 (fun _ => True) (fun _ => False) rfl rfl (Kd.R_nil _ _ _ _ _) (by rw [HM.out]; exact Kd.C_below HR.out hB4) (fun x cs hk => by rw [k55_open hk]; exact k55_mkM _ _ _ x) (fun _ hk => hk.elim) (fun _ _ => trivial) hB4 (hB4.size) (by have := HN.out; simp only [List.length_nil]; omega) ?_
     intro v1 w5 ho hb hg hat
     rw [List.nil_append] at ho
     obtain ⟨Am, cm, hv⟩ := Kd.R_slice ho
     rw [← HM.out] at hv
     subst hv
     have hs5 := blk_grown hs4 hg (by simp [Value.ownBlock])
     refine hK.out _ _ hs5 (fun hHeld => ?_)
     clear hK K
     refine norm_ (a' := _) ?_ (hcont (Am, cm, gc) w5 ⟨hs5, ho, blk_grown hcb hg (by simp [Value.ownBlock]), hb, by show w.heap.size ≤ gc; rw [hgc]; exact HB.out.size⟩)
     show Act.put _ (some 30) _ = _
     simp only [putAll, Act.put, zs1, zs2, zs3, i64_w, i32_w]
   rintro ⟨Am, cm, gc⟩ w3 ⟨hs3, ho, hcb, hb, hlo⟩
   refine norm_ (a' := ?_) ?_ ?_
   rotate_left
   ·show putAll _ [(30, _), (36, _)] = _
    simp only [putAll, Act.put, zs1, zs2, zs3, i64_w, i32_w]
    rfl
   refine one_ (i := 9) (N := some 37) (qq 12 1023) rfl rfl (one_of HT_.out (by kernel_rfl)) (by decide) (fun K hK => ?_)
   refine value_ (w1 := ?_) (v := ?_) (by rfl) rfl ?_ ?_
   rotate_left 2
   ·go_simp
    constructor
    ·rfl
    ·rfl
   refine hK.out _ _ hs3 (fun hHeld => ?_)
   clear hK K
   refine norm_ (a' := ?_) ?_ ?_
   rotate_left
   ·show Act.put _ (some 37) _ = _
    simp only [Act.put, zs1, zs2, zs3, i64_w, i32_w]
    rfl
   refine one_ (i := 10) (N := some 38) (qq 12 2047) rfl rfl (one_of HT_.out (by kernel_rfl)) (by decide) (fun K hK => ?_)
   refine box_step (by rfl) (N := 38) rfl (cs := #[.slice Am m cm, .int .i64 a0_0, .int .i64 a0_1, .slice (some ⟨gc, 0, none⟩) h h]) (t := 81) ?hr ?_
   case hr => first | (go_simp; done) | (go_simp; rfl)
   intro g hg w4 hx hb4
   refine hK.out _ _ (zc6 hs3 hb4) (fun hHeld => ?_)
   clear hK K
   refine norm_ (a' := ?_) ?_ ?_
   rotate_left
   ·show Act.put _ (some 38) _ = _
    simp only [Act.put, zs1, zs2, zs3, i64_w, i32_w]
    rfl
   refine pure_ (i := 11) (N := some 6) (v := ?_) (a' := ?_) (qq 12 4095) rfl rfl (any_of HT_.out (by kernel_rfl)) (fun _ _ _ h => h) (Or.inl ⟨by rfl, ?_⟩) ?_ ?_
   rotate_left
   ·intro w'
    go_simp
    with_reducible rfl
   rotate_left
   ·simp only [Act.put, zs1, zs2, zs3, i64_w, i32_w]
    rfl
   refine done_ (done_of HT_.out (by kernel_rfl)) ?_
   simp only [← hg]
   have HO := zA (Kd.R_below ho hb4)
   have HS4 := zA (zc6 hs3 hb4)
   have HCB := zA (zc6 hcb hb4)
   have HX4 := zA hx
   have HB4 := zA (zb5 hb hb4)
   have HLO := zA (show w.heap.size ≤ gc ∧ w.heap.size ≤ g ∧ w.heap.size ≤ g1 from ⟨hlo, by rw [hg]; exact hb.size, by rw [HG1.out]; exact Nat.le_refl _⟩)
   clear hs3 ho hcb hb hlo hx hb4 hHeld hg HBK HB HG1
   obtain ⟨h1, hh1⟩ : ∃ h1 : Nat, h1 = h + 1 := ⟨_, rfl⟩
   have e1 : wrap64 ((h : Int) + 1) = (h1 : Int) := by have := HH1.out; unfold wrap64; omega
   have HP := zA hh1
   clear hh1
   try clear HT_ HW_
   go_wp2_with (first | ((with_reducible refine gate_dst (N := 41) rfl ?_); refine ix_makeL rfl (.tmp 40) (.tmp 40) 82 3 (.int .i64 0) 8 rfl Try.underlying82 info3 rfl h1 ?hx ?hy (by have := HP.out; have := HH1.out; omega) (by have := HP.out; have := HH1.out; omega) ?_; (case hx => first | rfl | (go_simp; done)); (case hy => first | rfl | (go_simp; done)); intro ge hge w5 hbe hb5; have HBE := zA hbe; have HGE := zA hge; have HB5 := zA (show Below w4.heap.size w4 w5 from ⟨hb5.os, hb5.tape, hb5.output, hb5.size, hb5.block⟩); have hc3 : w5.cell? ⟨g1, 3, none⟩ = some (.slice A0_3 m c0_3) := (zc1 (zc6 HS4.out HB5.out) 3).trans rfl; clear hbe hge hb5))
   have HI : Aside0 (IxB w w5 g1 g gc ge a0_0 a0_1 a0_2 A0_3 c0_3 l0_3 Am cm h (fun _ => .slice none 0 0) (ixFe (ixHs l0_3) 0)) := by
    refine ⟨⟨?_, ?_, zc6 HCB.out HB5.out, ?_, ?_, zb5 HB4.out HB5.out, HLO.out.2.2, HLO.out.2.1, HLO.out.1, by rw [HGE.out]; exact HB4.out.size⟩⟩
    ·rw [← HM.out]; exact zc6 HS4.out HB5.out
    ·rw [← HM.out]; exact zc6 HX4.out HB5.out
    ·have h2 := HBE.out
     rw [HP.out] at h2
     refine (ixRow_congr (f := fun _ => .int .i64 0) (g := fun j => .int .i64 (ixFe (ixHs l0_3) 0 j)) (fun j hj => ?_)) ▸ h2
     show Value.int .i64 0 = .int .i64 (ixFe (ixHs l0_3) 0 j)
     unfold ixFe
     rw [ixCnt_zero]
     by_cases e : j = 0
     ·rw [if_pos e]
     ·rw [if_neg e]; rfl
    ·rw [← HM.out]; exact Kd.R_below HO.out HB5.out
   clear HS4 HX4 HCB HO HB4 HB5 HBE hc3
   have HGE' := zA (show w.heap.size ≤ ge from HI.out.lo.2.2.2)
   clear HGE HLO
   try clear e1
   go_loopg [45] (m + 1) (fun kq v45 w' => ∃ i : Nat, v45 = .int .i64 (i : Int) ∧ Aside0 (i + kq = m + 1 ∧ i ≤ m) ∧ Aside0 (IxB w w' g1 g gc ge a0_0 a0_1 a0_2 A0_3 c0_3 l0_3 Am cm h (fun _ => .slice none 0 0) (ixFe (ixHs l0_3) i)))
   case atStart => exact ⟨0, rfl, ⟨by omega, by omega⟩, ⟨by first | exact HI.out | exact HI.out.step (by repeat (first | exact Below.refl _ _ | apply zb2 | apply zb1))⟩⟩
   case round =>
    clear HI
    obtain ⟨i, rfl, HK, HI⟩ := hrel
    by_cases hlt : i < m
    ·obtain ⟨k1, rfl⟩ : ∃ k1, gk = k1 + 1 := ⟨gk - 1, by have := HK.out.1; omega⟩
     have HL := zA hlt
     have d1 : decide ((i : Int) < (m : Int)) = true := zd1 (by omega)
     have d2 : decide (i < m) = true := zd1 hlt
     have p0 := eq_true (show (i : Int) < (m : Int) by omega)
     have o0 := eq_true (show (0 : Int) ≤ (i : Int) by omega)
     have hmm := HM.out
     obtain ⟨ad, ead, hx0, hx1⟩ := at_T55 HR.out (i : Int) (by omega) (by omega)
     cases ead
     clear hmm hlt
     replace hx0 := (HI.out.bl.cell (World.block_lt_of_cell? w _ hx0)).trans hx0
     replace hx1 := (HI.out.bl.cell (World.block_lt_of_cell? w _ hx1)).trans hx1
     rw [Int.toNat_natCast] at hx0 hx1
     obtain ⟨J, hJ⟩ : ∃ J : Nat, J = (ixHs l0_3).getD i 0 := ⟨_, rfl⟩
     have hJ2 := ixHs_get l0_3 i (by rw [← HM.out]; exact HL.out)
     obtain ⟨wk, hwk⟩ : ∃ wk, wk = (rd_T55 l0_3 (i : Int)).f0 := ⟨_, rfl⟩
     obtain ⟨st, hst⟩ : ∃ st, st = (rd_T55 l0_3 (i : Int)).f1 := ⟨_, rfl⟩
     rw [← HM.out, ← HH.out, ← hwk, ← hJ] at hJ2
     have eJ : ixHeadI (h : Int) wk = (J : Int) := by rw [hJ2]; exact (ixHead_eq wk HH0.out HH1.out).1
     have HJ := zA (And.intro hJ (show J < h by rw [hJ2]; exact (ixHead_eq wk HH0.out HH1.out).2))
     rw [← hwk] at hx0
     rw [← hst] at hx1
     clear hwk hst hJ hJ2
     go_wp2_with (first | ((with_reducible refine gate_dst (N := 9) rfl ?_); refine box_event ?hg (N := 9) ?hd (cs := #[.int .u32 0, .string ⟨#[]⟩]) (t := 55) ?hr ?_; (case hd => rfl); (case hg => rfl); (case hr => first | (go_simp; done) | (go_simp; rfl)); intro g9 hg9 w6 hA hq; have HQ := zA (show Below wr.heap.size wr w6 from ⟨hq.os, hq.tape, hq.output, hq.size, hq.block⟩); have HA := zA hA; have HG9 := zA (show wr.heap.size ≤ g9 by rw [hg9]; exact Nat.le_refl _); have hq0 := zc1 hA 0; have hq1 := zc1 hA 1; have hf0 := zc5 hA 0; have hf1 := zc5 hA 1; clear hA hq hg9))
     have HI6 := zA (HI.out.step (zb4 (j := 1) (v := .string st) (zb4 (j := 0) (v := .int .u32 wk) HQ.out HG9.out) HG9.out))
     refine (ix_head g h h _ _ _ (some ⟨gc, 0, none⟩) wk _ HI6.out.bx).mono ?_
     rintro e w7 ⟨rfl, hb⟩
     have HI7 := zA (HI6.out.step hb)
     clear hb hq0 hq1 hf0 hf1 hx0 hx1
     obtain ⟨J1, hJ1⟩ : ∃ J1 : Nat, J1 = J + 1 := ⟨_, rfl⟩
     obtain ⟨cn, hcn⟩ : ∃ cn : Nat, cn = ixCnt (ixHs l0_3) i J := ⟨_, rfl⟩
     have hcm : cn ≤ 1000000 := by have h1 := ixCnt_le (ixHs l0_3) i J; have := HL.out; have := HN.out; omega
     obtain ⟨c1, hc1⟩ : ∃ c1 : Nat, c1 = cn + 1 := ⟨_, rfl⟩
     have e2 : wrap64 ((J : Int) + 1) = (J1 : Int) := by have h1 := HJ.out.2; have := HH1.out; unfold wrap64; omega
     have e3 : wrap64 ((cn : Int) + 1) = (c1 : Int) := by unfold wrap64; omega
     have hJh : J1 < h1 := by have h1 := HJ.out.2; have := HP.out; omega
     have q0 := eq_true (show (0 : Int) ≤ (J1 : Int) by omega)
     have q1 := eq_true (show (J1 : Int) < (h1 : Int) by omega)
     have q2 := eq_true hJh
     have hcE : w7.cell? ⟨ge, J1, none⟩ = some (.int .i64 (cn : Int)) := by
      rw [HI7.out.cellE (show J1 < h + 1 by have := HP.out; omega)]
      unfold ixFe
      rw [if_neg (by omega), hJ1, Nat.add_sub_cancel, hcn]
     have hfE := zc5 HI7.out.be J1
     have HJ1 := zA hJ1
     have HC1 := zA (And.intro hcn hc1)
     rw [eJ]
     clear hJ1 hcn hcm hc1 hJh
     go_wp2_with fail
     rw [show wrap64 ((i : Int) + 1) = ((i + 1 : Nat) : Int) by have := HN.out; have := HL.out; unfold wrap64; omega]
     go_roundg k1
     case measure => have := HK.out.1; omega
     case rel =>
      refine ⟨i + 1, rfl, ⟨by have := HK.out.1; omega, by have := HL.out; omega⟩, ⟨(HI7.out.putE J1 c1).congr (fun _ _ => rfl) (fun j _ => ?_)⟩⟩
      have h2 := ixFe_step (ixHs l0_3) i j
      rw [← HJ.out.1, ← HJ1.out, ← HC1.out.1] at h2
      rw [← h2, HC1.out.2]
      rfl
    ·have hme : m = i := by have := HK.out.2; omega
     subst hme
     have d1 : decide ((m : Int) < (m : Int)) = false := zd2 (by omega)
     have HI2 : Aside0 (IxB w wr g1 g gc ge a0_0 a0_1 a0_2 A0_3 c0_3 l0_3 Am cm h (fun _ => .slice none 0 0) (ixFs (ixHs l0_3) m 0)) := ⟨HI.out.congr (fun _ _ => rfl) (fun p _ => ixFs_zero _ _ _)⟩
     clear HI HK hlt
     go_wp2_with fail
     go_loopg [61] (h + 1) (fun kq v61 w' => ∃ j : Nat, v61 = .int .i64 (j : Int) ∧ Aside0 (j + kq = h + 1 ∧ j ≤ h) ∧ Aside0 (IxB w w' g1 g gc ge a0_0 a0_1 a0_2 A0_3 c0_3 l0_3 Am cm h (fun _ => .slice none 0 0) (ixFs (ixHs l0_3) m j)))
     case atStart => exact ⟨0, rfl, ⟨by omega, by omega⟩, ⟨by first | exact HI2.out | exact HI2.out.step (by repeat (first | exact Below.refl _ _ | apply zb2 | apply zb1))⟩⟩
     case round =>
      clear HI2
      obtain ⟨j, rfl, HK, HI⟩ := hrel
      by_cases hlt : j < h
      ·obtain ⟨k1, rfl⟩ : ∃ k1, gk = k1 + 1 := ⟨gk - 1, by have := HK.out.1; omega⟩
       have HL := zA hlt
       have d1 : decide ((j : Int) < (h : Int)) = true := zd1 (by omega)
       have d2 : decide (j < h) = true := zd1 hlt
       obtain ⟨j1, hj1⟩ : ∃ j1 : Nat, j1 = j + 1 := ⟨_, rfl⟩
       obtain ⟨cn, hcn⟩ : ∃ cn : Nat, cn = ixCnt (ixHs l0_3) m j := ⟨_, rfl⟩
       obtain ⟨sm, hsm⟩ : ∃ sm : Nat, sm = ixSum (ixHs l0_3) m j := ⟨_, rfl⟩
       have hcm : cn ≤ 1000000 := by have h1 := ixCnt_le (ixHs l0_3) m j; have := HN.out; omega
       have hsl : sm ≤ 1000000 := by have h1 := ixSum_le (ixHs l0_3) m j; have := HN.out; omega
       obtain ⟨t1, ht1⟩ : ∃ t1 : Nat, t1 = cn + sm := ⟨_, rfl⟩
       have e2 : wrap64 ((j : Int) + 1) = (j1 : Int) := by have := HH1.out; unfold wrap64; omega
       have e3 : wrap64 ((cn : Int) + (sm : Int)) = (t1 : Int) := by unfold wrap64; omega
       have q0 := eq_true (show (0 : Int) ≤ (j1 : Int) by omega)
       have q1 := eq_true (show (j1 : Int) < (h1 : Int) by have := HP.out; omega)
       have q2 := eq_true (show j1 < h1 by have := HP.out; omega)
       have q3 := eq_true (show (0 : Int) ≤ (j : Int) by omega)
       have q4 := eq_true (show (j : Int) < (h1 : Int) by have := HP.out; omega)
       have q5 := eq_true (show j < h1 by have := HP.out; omega)
       have hcE : wr.cell? ⟨ge, j1, none⟩ = some (.int .i64 (cn : Int)) := by
        rw [HI.out.cellE (show j1 < h + 1 by omega)]
        unfold ixFs
        rw [if_neg (by omega), hj1, Nat.add_sub_cancel, hcn]
       have hcF : wr.cell? ⟨ge, j, none⟩ = some (.int .i64 (sm : Int)) := by
        rw [HI.out.cellE (show j < h + 1 by omega)]
        unfold ixFs
        rw [if_pos (Nat.le_refl _), hsm]
       have hfE := zc5 HI.out.be j1
       have HJ1 := zA hj1
       have HC1 := zA (And.intro hcn (And.intro hsm ht1))
       clear hj1 hcn hsm hcm hsl ht1 hlt
       go_wp2_with fail
       refine start_ (n := 12) (S := fun w' => w'.cell? ⟨ge, j1, none⟩ = some (.int .i64 (cn : Int)) ∧ w'.cell? ⟨ge, j, none⟩ = some (.int .i64 (sm : Int))) (ds := [11]) (qq 12 0) (by kernel_rfl) rfl (by kernel_rfl) ⟨hcE, hcF⟩ (fun hHeld => ?_); refine with_tabW index_New.tab17 index_New.bits17 (fun HT_ HW_ => ?_)
       refine ord_ [(0, 0, 1), (0, 1, 3), (0, 2, 7), (0, 3, 15), (0, 5, 47), (0, 6, 111), (0, 7, 239), (1, 4, 255), (1, 8, 511), (0, 9, 1023), (0, 10, 2047)] ?_
       repeat (first | (refine kk_ 0 ?_; refine oP_ (v := ?_) (a' := ?_) HT_ rfl rfl (by kernel_rfl) (fun _ _ _ h => h) (Or.inl ⟨by rfl, ?_⟩) ?_ ?_; rotate_left; (intro w'; go_simp; with_reducible rfl); rotate_left; (simp only [Act.put, zs1, zs2, zs3, i64_w, i32_w]; rfl)) | (refine kk_ 1 ?_; refine oT_ (v := ?_) (a' := ?_) HT_ HW_ rfl rfl (by kernel_rfl) (fun _ _ _ h => h) (Or.inl ⟨by rfl, ?_⟩) hHeld ?_ ?_; rotate_left; (rintro w' ⟨s0, s1⟩; go_simp; with_reducible rfl); rotate_left; (simp only [Act.put, zs1, zs2, zs3, i64_w, i32_w]; rfl)))
       refine oend_ ?_
       refine last_ (i := 11) (N := none) (qq 12 4095) rfl rfl (one_of HT_.out (by kernel_rfl)) (by decide) (fun K hK => ?_)
       have hx1 := hHeld.1
       have hfz : wr.drew.frozen? ⟨ge, j1, none⟩ = false := hfE
       go_simp
       refine hK.out _ _ ?_
       clear hK K
       refine done_ (done_of HT_.out (by kernel_rfl)) ?_
       clear hx1 hfz hHeld HT_ HW_ hcE hcF hfE
       have hv : ∀ p, ixUpd (ixFs (ixHs l0_3) m j) j1 (t1 : Int) p = ixFs (ixHs l0_3) m (j + 1) p := fun p => by
        rw [← ixFs_step, HJ1.out, HC1.out.2.2, HC1.out.1, HC1.out.2.1]
        rfl
       have HI2 := zA (((HI.out.putE j1 (t1 : Int)).congr (fun _ _ => rfl) (fun p _ => hv p)).step (zb2 (Below.refl _ _)))
       clear hv HI
       go_wp2_with fail
       go_roundg k1
       case measure => have := HK.out.1; omega
       case rel => exact ⟨j + 1, by rw [e2, HJ1.out], ⟨by have := HK.out.1; omega, by have := HL.out; omega⟩, HI2⟩
      ·have hme : h = j := by have := HK.out.2; omega
       subst hme
       have d1 : decide ((h : Int) < (h : Int)) = false := zd2 (by omega)
       have d2 : decide (h < h) = false := zd2 (by omega)
       have hc3 : wr.cell? ⟨g1, 3, none⟩ = some (.slice A0_3 m c0_3) := by rw [HM.out]; exact HI.out.cellS
       clear HK hlt
       go_wp2_with (first | ((with_reducible refine gate_dst (N := 79) rfl ?_); refine ix_makeL rfl (.tmp 78) (.tmp 78) 82 3 (.int .i64 0) 8 rfl Try.underlying82 info3 rfl m ?hx ?hy (by have := HN.out; omega) (by have := HN.out; omega) ?_; (case hx => first | rfl | (go_simp; done)); (case hy => first | rfl | (go_simp; done)); intro ga hga w5 hba hb5; have HBA := zA hba; have HGA := zA (show ga = wr.heap.size from hga); have HB5 := zA (show Below wr.heap.size wr w5 from ⟨hb5.os, hb5.tape, hb5.output, hb5.size, hb5.block⟩); clear hba hga hb5))
       have HI2 : Aside0 (IxB w w5 g1 g gc ge a0_0 a0_1 a0_2 A0_3 c0_3 l0_3 Am cm h (ixFc (ixHs l0_3) m ga 0) (ixFs (ixHs l0_3) m h)) := ⟨(HI.out.step HB5.out).congr (fun p _ => by unfold ixFc; rw [if_neg (by omega)]) (fun _ _ => rfl)⟩
       have HA : Aside0 (IxA w5 ga m h (ixHs l0_3) 0) := ⟨IxA.zero HBA.out⟩
       have HAG : Aside0 (ge ≠ ga ∧ w.heap.size ≤ ga) := ⟨by have h2 := blk_lt HI.out.be; have h3 := HI.out.bl.size; have h4 := HGA.out; omega⟩
       clear HI HBA HGA HB5 hc3
       go_loopg [81] (h + 1) (fun kq v81 w' => ∃ j : Nat, v81 = .int .i64 (j : Int) ∧ Aside0 (j + kq = h + 1 ∧ j ≤ h) ∧ Aside0 (IxB w w' g1 g gc ge a0_0 a0_1 a0_2 A0_3 c0_3 l0_3 Am cm h (ixFc (ixHs l0_3) m ga j) (ixFs (ixHs l0_3) m h)) ∧ Aside0 (IxA w' ga m h (ixHs l0_3) 0))
       case atStart => exact ⟨0, rfl, ⟨by omega, by omega⟩, ⟨by first | exact HI2.out | exact HI2.out.step (by repeat (first | exact Below.refl _ _ | apply zb2 | apply zb1))⟩, ⟨by first | exact HA.out | exact HA.out.step (by repeat (first | exact Below.refl _ _ | apply zb2 | apply zb1))⟩⟩
       case round =>
        clear HI2 HA
        obtain ⟨j, rfl, HK, HI, HA⟩ := hrel
        by_cases hlt : j < h
        ·obtain ⟨k1, rfl⟩ : ∃ k1, gk = k1 + 1 := ⟨gk - 1, by have := HK.out.1; omega⟩
         have HL := zA hlt
         have d1 : decide ((j : Int) < (h : Int)) = true := zd1 (by omega)
         have d2 : decide (j < h) = true := zd1 hlt
         obtain ⟨j1, hj1⟩ : ∃ j1 : Nat, j1 = j + 1 := ⟨_, rfl⟩
         obtain ⟨sa, hsa⟩ : ∃ sa : Nat, sa = ixSum (ixHs l0_3) m j := ⟨_, rfl⟩
         obtain ⟨sb, hsb⟩ : ∃ sb : Nat, sb = ixSum (ixHs l0_3) m j1 := ⟨_, rfl⟩
         have hsum : sb = sa + ixCnt (ixHs l0_3) m j := by rw [hsb, hj1, ixSum_succ, hsa]
         have hsl : sb ≤ m := by rw [hsb]; exact ixSum_le _ _ _
         have e2 : wrap64 ((j : Int) + 1) = (j1 : Int) := by have := HH1.out; unfold wrap64; omega
         have q0 := eq_true (show (0 : Int) ≤ (j1 : Int) by omega)
         have q1 := eq_true (show (j1 : Int) < (h1 : Int) by have := HP.out; omega)
         have q2 := eq_true (show j1 < h1 by have := HP.out; omega)
         have q3 := eq_true (show (0 : Int) ≤ (j : Int) by omega)
         have q4 := eq_true (show (j : Int) < (h1 : Int) by have := HP.out; omega)
         have q5 := eq_true (show j < h1 by have := HP.out; omega)
         have q6 := eq_true (show (j : Int) < (h : Int) by omega)
         have q7 := eq_true hlt
         have q8 := eq_true (show (sa : Int) ≤ (sb : Int) by omega)
         have q9 := eq_true (show (sb : Int) ≤ (m : Int) by omega)
         have r8 := eq_true (show sa ≤ sb by omega)
         have r9 := eq_true hsl
         have hcX := HI.out.cellX
         have hcE : wr.cell? ⟨ge, j, none⟩ = some (.int .i64 (sa : Int)) := by
          rw [HI.out.cellE (show j < h + 1 by omega)]
          unfold ixFs
          rw [if_pos (by omega), hsa]
         have hcF : wr.cell? ⟨ge, j1, none⟩ = some (.int .i64 (sb : Int)) := by
          rw [HI.out.cellE (show j1 < h + 1 by omega)]
          unfold ixFs
          rw [if_pos (by omega), hsb]
         have hcC := HI.out.cellC hlt
         have hfC := zc5 HI.out.bc j
         have HJ1 := zA hj1
         have HS1 := zA (And.intro hsa hsum)
         clear hj1 hsa hsb hsum hsl hlt
         go_wp2_with fail
         refine start_ (n := 22) (S := fun w' => w'.cell? ⟨g, 3, none⟩ = some (.slice (some ⟨gc, 0, none⟩) h h) ∧ w'.cell? ⟨ge, j, none⟩ = some (.int .i64 (sa : Int)) ∧ w'.cell? ⟨ge, j1, none⟩ = some (.int .i64 (sb : Int))) (ds := [21]) (qq 22 0) (by kernel_rfl) rfl (by kernel_rfl) ⟨hcX, hcE, hcF⟩ (fun hHeld => ?_); refine with_tabW index_New.tab23 index_New.bits23 (fun HT_ HW_ => ?_)
         refine ord_ [(0, 0, 1), (0, 1, 3), (0, 2, 7), (0, 4, 23), (0, 5, 55), (0, 6, 119), (0, 7, 247), (0, 8, 503), (0, 10, 1527), (0, 11, 3575), (0, 12, 7671), (0, 14, 24055), (0, 15, 56823), (0, 16, 122359), (0, 17, 253431), (1, 3, 253439), (1, 9, 253951), (1, 13, 262143), (1, 18, 524287), (0, 19, 1048575), (0, 20, 2097151)] ?_
         repeat (first | (refine kk_ 0 ?_; refine oP_ (v := ?_) (a' := ?_) HT_ rfl rfl (by kernel_rfl) (fun _ _ _ h => h) (Or.inl ⟨by rfl, ?_⟩) ?_ ?_; rotate_left; (intro w'; go_simp; with_reducible rfl); rotate_left; (simp only [Act.put, zs1, zs2, zs3, i64_w, i32_w]; rfl)) | (refine kk_ 1 ?_; refine oT_ (v := ?_) (a' := ?_) HT_ HW_ rfl rfl (by kernel_rfl) (fun _ _ _ h => h) (Or.inl ⟨by rfl, ?_⟩) hHeld ?_ ?_; rotate_left; (rintro w' ⟨s0, s1, s2⟩; go_simp; with_reducible rfl); rotate_left; (simp only [Act.put, zs1, zs2, zs3, i64_w, i32_w]; rfl)))
         refine oend_ ?_
         refine last_ (i := 21) (N := none) (qq 22 4194303) rfl rfl (one_of HT_.out (by kernel_rfl)) (by decide) (fun K hK => ?_)
         have hx1 : wr.drew.cell? ⟨gc, j, none⟩ = _ := hcC
         have hfz : wr.drew.frozen? ⟨gc, j, none⟩ = false := hfC
         go_simp
         refine hK.out _ _ ?_
         clear hK K
         refine done_ (done_of HT_.out (by kernel_rfl)) ?_
         clear hx1 hfz hHeld HT_ HW_ hcE hcF hcX hcC hfC
         have hval : Value.slice (if sb = sa then some ⟨ga, 0, none⟩ else some ⟨ga, sa, none⟩) 0 (sb - sa) = .slice (some ⟨ga, ixAt (ixHs l0_3) m j, none⟩) 0 (ixCnt (ixHs l0_3) m j) := by
          have h4 := HS1.out.2
          unfold ixAt
          rw [show sb - sa = ixCnt (ixHs l0_3) m j by omega]
          by_cases e : ixCnt (ixHs l0_3) m j = 0
          ·rw [if_pos (by omega), if_pos e]
          ·rw [if_neg (by omega), if_neg e, HS1.out.1]
         rw [hval]
         have HI2 := zA (((HI.out.putC j (.slice (some ⟨ga, ixAt (ixHs l0_3) m j, none⟩) 0 (ixCnt (ixHs l0_3) m j))).congr (fun p _ => ixFc_step _ _ _ _ _) (fun _ _ => rfl)).step (zb2 (Below.refl _ _)))
         have HA2 := zA ((HA.out.far HI.out.bc j (.slice (some ⟨ga, ixAt (ixHs l0_3) m j, none⟩) 0 (ixCnt (ixHs l0_3) m j))).step (zb2 (Below.refl _ _)))
         clear hval HI HA
         go_wp2_with fail
         go_roundg k1
         case measure => have := HK.out.1; omega
         case rel => exact ⟨j + 1, by rw [e2, HJ1.out], ⟨by have := HK.out.1; omega, by have := HL.out; omega⟩, HI2, HA2⟩
        ·have hme : h = j := by have := HK.out.2; omega
         subst hme
         have d1 : decide ((h : Int) < (h : Int)) = false := zd2 (by omega)
         have d2 : decide (h < h) = false := zd2 (by omega)
         have hc3 : wr.cell? ⟨g1, 3, none⟩ = some (.slice A0_3 m c0_3) := by rw [HM.out]; exact HI.out.cellS
         have HI2 : Aside0 (IxB w wr g1 g gc ge a0_0 a0_1 a0_2 A0_3 c0_3 l0_3 Am cm h (ixFd (ixHs l0_3) m ga 0) (ixFs (ixHs l0_3) m h)) := ⟨HI.out.congr (fun p hp => ixFc_end _ _ _ _ _ hp) (fun _ _ => rfl)⟩
         clear HK hlt HI
         go_wp2_with fail
         go_loopg [109] (m + 1) (fun kq v109 w' => ∃ i : Nat, v109 = .int .i64 (i : Int) ∧ Aside0 (i + kq = m + 1 ∧ i ≤ m) ∧ Aside0 (IxB w w' g1 g gc ge a0_0 a0_1 a0_2 A0_3 c0_3 l0_3 Am cm h (ixFd (ixHs l0_3) m ga i) (ixFs (ixHs l0_3) m h)) ∧ Aside0 (IxA w' ga m h (ixHs l0_3) i))
         case atStart => exact ⟨0, rfl, ⟨by omega, by omega⟩, ⟨by first | exact HI2.out | exact HI2.out.step (by repeat (first | exact Below.refl _ _ | apply zb2 | apply zb1))⟩, ⟨by first | exact HA.out | exact HA.out.step (by repeat (first | exact Below.refl _ _ | apply zb2 | apply zb1))⟩⟩
         case round =>
          clear HI2 HA
          obtain ⟨i, rfl, HK, HI, HA⟩ := hrel
          by_cases hlt : i < m
          ·obtain ⟨k1, rfl⟩ : ∃ k1, gk = k1 + 1 := ⟨gk - 1, by have := HK.out.1; omega⟩
           have HL := zA hlt
           have d1 : decide ((i : Int) < (m : Int)) = true := zd1 (by omega)
           have d2 : decide (i < m) = true := zd1 hlt
           have p0 := eq_true (show (i : Int) < (m : Int) by omega)
           have o0 := eq_true (show (0 : Int) ≤ (i : Int) by omega)
           have hmm := HM.out
           obtain ⟨ad, ead, hx0, hx1⟩ := at_T55 HR.out (i : Int) (by omega) (by omega)
           cases ead
           clear hmm hlt
           replace hx0 := (HI.out.bl.cell (World.block_lt_of_cell? w _ hx0)).trans hx0
           replace hx1 := (HI.out.bl.cell (World.block_lt_of_cell? w _ hx1)).trans hx1
           rw [Int.toNat_natCast] at hx0 hx1
           obtain ⟨J, hJ⟩ : ∃ J : Nat, J = (ixHs l0_3).getD i 0 := ⟨_, rfl⟩
           have hJ2 := ixHs_get l0_3 i (by rw [← HM.out]; exact HL.out)
           obtain ⟨wk, hwk⟩ : ∃ wk, wk = (rd_T55 l0_3 (i : Int)).f0 := ⟨_, rfl⟩
           obtain ⟨st, hst⟩ : ∃ st, st = (rd_T55 l0_3 (i : Int)).f1 := ⟨_, rfl⟩
           rw [← HM.out, ← HH.out, ← hwk, ← hJ] at hJ2
           have eJ : ixHeadI (h : Int) wk = (J : Int) := by rw [hJ2]; exact (ixHead_eq wk HH0.out HH1.out).1
           have HJ := zA (And.intro hJ (show J < h by rw [hJ2]; exact (ixHead_eq wk HH0.out HH1.out).2))
           rw [← hwk] at hx0
           rw [← hst] at hx1
           clear hwk hst hJ hJ2
           go_wp2_with (first | ((with_reducible refine gate_dst (N := 14) rfl ?_); refine box_event ?hg (N := 14) ?hd (cs := #[.int .u32 0, .string ⟨#[]⟩]) (t := 55) ?hr ?_; (case hd => rfl); (case hg => rfl); (case hr => first | (go_simp; done) | (go_simp; rfl)); intro g9 hg9 w6 hA hq; have HQ := zA (show Below wr.heap.size wr w6 from ⟨hq.os, hq.tape, hq.output, hq.size, hq.block⟩); have HG9 := zA (show wr.heap.size ≤ g9 by rw [hg9]; exact Nat.le_refl _); have hq0 := zc1 hA 0; have hq1 := zc1 hA 1; have hf0 := zc5 hA 0; have hf1 := zc5 hA 1; clear hA hq hg9))
           have HB6 := zA (zb4 (j := 1) (v := .string st) (zb4 (j := 0) (v := .int .u32 wk) HQ.out HG9.out) HG9.out)
           have HI6 := zA (HI.out.step HB6.out)
           have HA6 := zA (HA.out.step HB6.out)
           refine (ix_head g h h _ _ _ (some ⟨gc, 0, none⟩) wk _ HI6.out.bx).mono ?_
           rintro e w7 ⟨rfl, hb⟩
           have HI7 := zA (HI6.out.step hb)
           have HA7 := zA (HA6.out.step hb)
           rw [eJ]
           clear hb hq0 hq1 hf0 hf1 hx0 hx1 HI HA HI6 HA6 HB6 HQ HG9 eJ
           obtain ⟨cn, hcn⟩ : ∃ cn : Nat, cn = ixCnt (ixHs l0_3) i J := ⟨_, rfl⟩
           obtain ⟨cc, hcc⟩ : ∃ cc : Nat, cc = ixCnt (ixHs l0_3) m J := ⟨_, rfl⟩
           obtain ⟨sa, hsa⟩ : ∃ sa : Nat, sa = ixSum (ixHs l0_3) m J := ⟨_, rfl⟩
           have hroom : cn + 1 ≤ cc := by have h4 := ixCnt_lt (ixHs l0_3) HL.out; rw [← HJ.out.1, ← hcn, ← hcc] at h4; exact h4
           have hin : sa + cc ≤ m := by have h4 := ixSum_le (ixHs l0_3) m (J + 1); rw [ixSum_succ, ← hsa, ← hcc] at h4; exact h4
           have hat : ixAt (ixHs l0_3) m J = sa := by rw [hsa]; exact ixAt_pos (by omega)
           have q0 := eq_true (show (0 : Int) ≤ (J : Int) by omega)
           have q1 := eq_true (show (J : Int) < (h : Int) by have := HJ.out.2; omega)
           have q2 := eq_true HJ.out.2
           have hcX := HI7.out.cellX
           have hcC : w7.cell? ⟨gc, J, none⟩ = some (.slice (some ⟨ga, sa, none⟩) cn cc) := by
            rw [HI7.out.cellC HJ.out.2]
            unfold ixFd
            rw [hat, ← hcn, ← hcc]
           have hfC := zc5 HI7.out.bc J
           have HC1 := zA (And.intro hcn (And.intro hcc (And.intro hsa (And.intro hroom (And.intro hin hat)))))
           clear hcn hcc hsa hroom hin hat
           go_wp2_with fail
           refine start_ (n := 17) (S := fun w' => w'.cell? ⟨g, 3, none⟩ = some (.slice (some ⟨gc, 0, none⟩) h h) ∧ w'.cell? ⟨gc, J, none⟩ = some (.slice (some ⟨ga, sa, none⟩) cn cc)) (ds := [16]) (qq 17 0) (by kernel_rfl) rfl (by kernel_rfl) ⟨hcX, hcC⟩ (fun hHeld => ?_); refine with_tabW index_New.tab29 index_New.bits29 (fun HT_ HW_ => ?_)
           refine ord_ [(0, 0, 1), (0, 1, 3), (0, 2, 7), (0, 4, 23), (0, 5, 55), (0, 6, 119), (0, 7, 247), (0, 9, 759), (0, 12, 4855), (1, 3, 4863), (1, 8, 5119), (0, 10, 6143), (1, 11, 8191)] ?_
           repeat (first | (refine kk_ 0 ?_; refine oP_ (v := ?_) (a' := ?_) HT_ rfl rfl (by kernel_rfl) (fun _ _ _ h => h) (Or.inl ⟨by rfl, ?_⟩) ?_ ?_; rotate_left; (intro w'; go_simp; with_reducible rfl); rotate_left; (simp only [Act.put, zs1, zs2, zs3, i64_w, i32_w]; rfl)) | (refine kk_ 1 ?_; refine oT_ (v := ?_) (a' := ?_) HT_ HW_ rfl rfl (by kernel_rfl) (fun _ _ _ h => h) (Or.inl ⟨by rfl, ?_⟩) hHeld ?_ ?_; rotate_left; (rintro w' ⟨s0, s1⟩; go_simp; with_reducible rfl); rotate_left; (simp only [Act.put, zs1, zs2, zs3, i64_w, i32_w]; rfl)))
           refine oend_ ?_
           refine one_ (i := 13) (N := some 131) (qq 17 16383) rfl rfl (one_of HT_.out (by kernel_rfl)) (by decide) (fun K hK => ?_)
           refine ix_lit (by rfl) (cs := #[.int .i64 (i : Int)]) (n := 1) (t := 3) ?hr ?_
           case hr => first | (go_simp; done) | (go_simp; rfl)
           intro gb hgb w8 hlb hb8
           have HI8 := zA (HI7.out.step (show Below w7.heap.size w7 w8 from ⟨hb8.os, hb8.tape, hb8.output, hb8.size, hb8.block⟩))
           have HA8 := zA (HA7.out.step (show Below w7.heap.size w7 w8 from ⟨hb8.os, hb8.tape, hb8.output, hb8.size, hb8.block⟩))
           have hcC8 : w8.cell? ⟨gc, J, none⟩ = some (.slice (some ⟨ga, sa, none⟩) cn cc) := (hb8.cell (World.block_lt_of_cell? _ _ hcC)).trans hcC
           refine hK.out _ _ ⟨HI8.out.cellX, hcC8⟩ (fun hHeld => ?_)
           clear hK K
           refine norm_ (a' := ?_) ?_ ?_
           rotate_left
           ·show Act.put _ (some 131) _ = _
            simp only [Act.put, zs1, zs2, zs3, i64_w, i32_w]
            rfl
           refine one_ (i := 14) (N := some 132) (qq 17 32767) rfl rfl (one_of HT_.out (by kernel_rfl)) (by decide) (fun K hK => ?_)
           refine ix_append (by rfl) (.tmp 129) (.tmp 131) 82 3 (.int .i64 0) 8 rfl Try.underlying82 info3 ga sa cn cc gb (i : Int) rfl rfl (by rw [zc1 hlb]; rfl) HC1.out.2.2.2.1 (HA8.out.there (by have h4 := HC1.out.2.2.2.1; have h5 := HC1.out.2.2.2.2.1; omega)).1 (HA8.out.there (by have h4 := HC1.out.2.2.2.1; have h5 := HC1.out.2.2.2.2.1; omega)).2 ?_
           have hba := HA8.out
           obtain ⟨ca, hca, _⟩ := hba
           have HI9 := zA (HI8.out.putA hca HAG.out.1 HAG.out.2 (sa + cn) (.int .i64 (i : Int)))
           have HA9 : Aside0 (IxA (w8.setCell ⟨ga, sa + cn, none⟩ (.int .i64 (i : Int))) ga m h (ixHs l0_3) (i + 1)) := ⟨by have h4 := HA8.out.put HL.out; rw [← HJ.out.1, ← HC1.out.1, ← HC1.out.2.2.1] at h4; exact h4⟩
           have hcC9 : (w8.setCell ⟨ga, sa + cn, none⟩ (.int .i64 (i : Int))).cell? ⟨gc, J, none⟩ = some (.slice (some ⟨ga, sa, none⟩) cn cc) := by rw [HI9.out.cellC HJ.out.2]; unfold ixFd; rw [HC1.out.2.2.2.2.2, ← HC1.out.1, ← HC1.out.2.1]
           clear hca
           refine hK.out _ _ ⟨HI9.out.cellX, hcC9⟩ (fun hHeld => ?_)
           clear hK K
           refine norm_ (a' := ?_) ?_ ?_
           rotate_left
           ·show Act.put _ (some 132) _ = _
            simp only [Act.put, zs1, zs2, zs3, i64_w, i32_w]
            rfl
           refine pure_ (i := 15) (N := some 133) (v := ?_) (a' := ?_) (qq 17 65535) rfl rfl (any_of HT_.out (by kernel_rfl)) (fun _ _ _ h => h) (Or.inl ⟨by rfl, ?_⟩) ?_ ?_
           rotate_left
           ·intro w'
            go_simp
            with_reducible rfl
           rotate_left
           ·simp only [Act.put, zs1, zs2, zs3, i64_w, i32_w]
            rfl
           refine last_ (i := 16) (N := none) (qq 17 131071) rfl rfl (one_of HT_.out (by kernel_rfl)) (by decide) (fun K hK => ?_)
           have hfz := zc5 HI9.out.bc J
           go_simp
           refine hK.out _ _ ?_
           clear hK K
           refine done_ (done_of HT_.out (by kernel_rfl)) ?_
           clear hfz hHeld HT_ HW_ hcX hcC hfC hcC8 hcC9
           have HI2 : Aside0 (IxB w ((w8.setCell ⟨ga, sa + cn, none⟩ (.int .i64 (i : Int))).setCell ⟨gc, J, none⟩ (.slice (some ⟨ga, sa, none⟩) (cn + 1) cc)) g1 g gc ge a0_0 a0_1 a0_2 (some ad) c0_3 l0_3 Am cm h (ixFd (ixHs l0_3) m ga (i + 1)) (ixFs (ixHs l0_3) m h)) := ⟨(HI9.out.putC J _).congr (fun p _ => by
            have h4 := ixFd_step (ixHs l0_3) m ga i p
            rw [← HJ.out.1, HC1.out.2.2.2.2.2, ← HC1.out.1, ← HC1.out.2.1] at h4
            exact h4) (fun _ _ => rfl)⟩
           have HA2 := zA (HA9.out.far HI9.out.bc J (.slice (some ⟨ga, sa, none⟩) (cn + 1) cc))
           clear HI7 HA7 HI8 HA8 HI9 HA9 HC1 HJ hlb hgb hb8 q0 q1 q2
           go_wp2_with fail
           rw [show wrap64 ((i : Int) + 1) = ((i + 1 : Nat) : Int) by have := HN.out; have := HL.out; unfold wrap64; omega]
           go_roundg k1
           case measure => have := HK.out.1; omega
           case rel => exact ⟨i + 1, rfl, ⟨by have := HK.out.1; omega, by have := HL.out; omega⟩, HI2, HA2⟩
          ·have hme : m = i := by have := HK.out.2; omega
           subst hme
           have d1 : decide ((m : Int) < (m : Int)) = false := zd2 (by omega)
           have d2 : decide (m < m) = false := zd2 (by omega)
           clear HK hlt
           go_wp2_with fail
           go_ret2
           have hcl : (ixChains l0_3).length = h := by unfold ixChains; rw [List.length_map, List.length_range, ← HM.out, HH.out]
           have hrd := ix_reads HH1.out HN.out HI.out.bc HA.out
           obtain ⟨Am', cm', em, hlm, hrm⟩ := Kd.R_reads HI.out.mr
           injection em with em1 _ em2
           subst em1
           subst em2
           refine ⟨g, Am, cm, some ⟨gc, 0, none⟩, h, rfl, HI.out.lo.2.1, by rw [hcl]; exact HI.out.bx, hrm, hlm, ?_, by rw [hcl]; exact Nat.le_refl _, HI.out.bl⟩
           rw [hcl]
           have e4 : ixChains l0_3 = (List.range h).map fun j => ixChain (ixHs l0_3) m j := by unfold ixChains; rw [← HM.out, ← HH.out]
           rw [e4]
           exact hrd


end Go.Proofs.Ytkihlcmjjoiccaa.PMatchCosts
