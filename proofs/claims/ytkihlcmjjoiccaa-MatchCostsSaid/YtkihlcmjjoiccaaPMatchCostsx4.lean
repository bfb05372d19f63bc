-- Written by a program of this session (the kit's printer with hand-written contracts among its functions).
-- squeezed
import Derived.Test.YtkihlcmjjoiccaaPMatchCostsx0
import Derived.Test.YtkihlcmjjoiccaaPMatchCostsx3
import Derived.Test.YtkihlcmjjoiccaaRq
namespace Go.Proofs.Ytkihlcmjjoiccaa.PMatchCosts
open Go.RowKit Go.Proofs.YtkihlcmjjoiccaaW.PrintWords Go.Proofs.YtkihlcmjjoiccaaW.PrintLast Go.Proofs.YtkihlcmjjoiccaaW.PrintMore
attribute [local go_sem] max2_int min2_int max_two min_two max_three min_three max_four min_four   -- for this text's walks alone
set_option linter.unusedVariables false
set_option linter.unusedSimpArgs false

def Arr (w : World) (g : Nat) (e : TypeId) (k : IntKind) (xs : List Int) : Prop := w.heap[g]? = some (.cells (xs.map (Value.int k)).toArray e (0, 0))
theorem Arr.lt {w : World} {g : Nat} {e : TypeId} {k : IntKind} {xs : List Int} (h : Arr w g e k xs) : g < w.heap.size := blk_lt h
theorem Arr.below {w w1 : World} {g : Nat} {e : TypeId} {k : IntKind} {xs : List Int} (h : Arr w g e k xs) (hb : Below w.heap.size w w1) : Arr w1 g e k xs := zc6 h hb
theorem Arr.grown {w w1 : World} {g : Nat} {e : TypeId} {k : IntKind} {xs : List Int} {row : Option Nat} (h : Arr w g e k xs) (hg : w.grownBy w1 row) (hne : some g ≠ row) : Arr w1 g e k xs := blk_grown h hg hne
theorem Arr.cell {w : World} {g : Nat} {e : TypeId} {k : IntKind} {xs : List Int} (h : Arr w g e k xs) (i : Nat) (hi : i < xs.length) : w.cell? ⟨g, i, none⟩ = some (.int k (xs.getD i 0)) := by
 rw [zc1 h, List.getElem?_toArray, List.getElem?_map, List.getElem?_eq_getElem hi, List.getD_eq_getElem?_getD, List.getElem?_eq_getElem hi]
 rfl
theorem Arr.drew {w : World} {g : Nat} {e : TypeId} {k : IntKind} {xs : List Int} (h : Arr w g e k xs) : Arr w.drew g e k xs := h
theorem Arr.frozen {w : World} {g : Nat} {e : TypeId} {k : IntKind} {xs : List Int} (h : Arr w g e k xs) (i : Nat) : w.frozen? ⟨g, i, none⟩ = false := zc5 h i
theorem Arr.put {w : World} {g : Nat} {e : TypeId} {k : IntKind} {xs : List Int} (h : Arr w g e k xs) (i : Nat) (x : Int) : Arr (w.setCell ⟨g, i, none⟩ (.int k x)) g e k (xs.set i x) := by
 refine blk_put h i _ ?_
 rw [List.map_set, zs1]
theorem Arr.putD {w : World} {g : Nat} {e : TypeId} {k : IntKind} {xs : List Int} (h : Arr w g e k xs) (m i : Nat) (x : Int) : Arr ((w.drewN m).setCell ⟨g, i, none⟩ (.int k x)) g e k (xs.set i x) := Arr.put (w := w.drewN m) h i x
theorem belowTo {n m : Nat} {w W : World} (h : Below n w W) (hm : m ≤ n) : Below m w W := ⟨h.os, h.tape, h.output, h.size, fun k hk => h.block k (Nat.lt_of_lt_of_le hk hm)⟩
theorem belowBy {base : Nat} {w W W1 : World} {row : Option Nat} (h : Below base w W) (hg : W.grownBy W1 row) (hbase : base ≤ W.heap.size) (hr : ∀ k, row = some k → base ≤ k) : Below base w W1 :=
 ⟨hg.os.trans h.os, hg.tape.trans h.tape, hg.output.trans h.output, Nat.le_trans h.size hg.size, fun k hk => (hg.block k (by omega) (fun e => by have := hr k e.symm; omega)).trans (h.block k hk)⟩
theorem grown_cells (w : World) (g j : Nat) (seg : List Value) : w.grownBy (w.setCells g j seg) (some g) := by
 obtain ⟨h1, h2, h3, h4⟩ := setCells_same g seg j w
 exact ⟨h1, h2, h3, Nat.le_of_eq h4.symm, fun k hk hne => setCells_far seg j k (fun e => hne (by rw [e]))⟩
theorem grown_putD (w : World) (m g j : Nat) (v : Value) : w.grownBy ((w.drewN m).setCell ⟨g, j, none⟩ v) (some g) := by
 have h := grown_cells (w.drewN m) g j [v]
 exact ⟨h.os, h.tape, h.output, h.size, h.block⟩
theorem run_load_seg {P : Program} (w : World) (g o : Nat) (t ty : TypeId) (cs : Array Value) (d : TypeDesc) (seg : List Value) (hg : w.heap[g]? = some (.cells cs t (0, 0)))
    (hu : P.underlying ty = some d) (hd : (match d with | .struct _ | .array _ _ => true | _ => false) = true) (hi : (P.info? ty).map (·.size) = some seg.length) (hs : ∀ j v, seg[j]? = some v → cs[o + j]? = some v) :
    (Instr.loadAt ty (.pointer (some ⟨g, o, none⟩))).run P w = .ok (.agg seg.toArray) w := by
 have hl : (loadCells ⟨g, o, none⟩ seg.length).run P w = .ok seg.toArray w :=
  run_loadCells_list (P := P) w ⟨g, o, none⟩ seg (fun j v hv => by
   have hadd : (⟨g, o, none⟩ : Addr).add j = ⟨g, o + j, none⟩ := by unfold Addr.add; split <;> simp_all
   rw [hadd, cell_of_row w g _ cs t (0, 0) hg]
   exact hs j v hv)
 cases hq : P.info? ty with
 | none => simp [hq] at hi
 | some i =>
  have hz : i.size = seg.length := by simpa [hq] using hi
  have hagg : (isAgg ty).run P w = .ok true w := by
   unfold isAgg
   rw [Sem.run_bind, run_underlying hu w]
   cases d <;> simp_all
  simp [Instr.loadAt, Instr.sureAddr, loadVar, Sem.run_bind, hagg, sizeOf, typeInfo, hq, hz, hl]
section
variable {P : Program} {ops : Array Oper} {rest : List Oper} {o : Oper} {a : Act} {Q : Exit → Act → World → Prop}
theorem store_seg {W : World} (hgd : o.guard = none) (hN : o.dst = none) (t : TypeId) (p x : Operand) (ho : o.op = .store t p x) {g j : Nat} {e : TypeId} {cs cs' : Array Value} {u : Value} (seg : List Value) (haddr : a.eval p = .pointer (some ⟨g, j, none⟩)) (hx : a.eval x = u) (hu : u.cells.toList = seg) (ht : (P.info? t).map (·.size) = some seg.length) (h1 : ∀ q ∈ seg, q.oneCell' = true)
    (hb : W.heap[g]? = some (.cells cs e (0, 0))) (hj : j + seg.length ≤ cs.size) (hcs : (W.setCells g j seg).heap[g]? = some (.cells cs' e (0, 0)))
    (h : ∀ w1, w1.heap[g]? = some (.cells cs' e (0, 0)) → W.grownBy w1 (some g) → wpList P ops Q rest a w1) : wpList P ops Q (o :: rest) a W := by
 refine wpList_plain hgd fun K hK => ?_
 have hrun : (Instr.storeAt t (.pointer (some ⟨g, j, none⟩)) u).run P W = .ok () (W.setCells g j seg) := run_store_run t u seg hb hu ht hj h1
 unfold Oper.wp execOp
 simp only [ho, haddr, hx, Sem.run_bind, Sem.run_pure, Result.andThen_ok, hrun]
 show K (a.put o.dst undef) _
 rw [hN]
 exact hK a _ (h _ hcs (grown_cells W g j seg))
theorem store_arr {W : World} (hgd : o.guard = none) (hN : o.dst = none) (t : TypeId) (p x : Operand) (ho : o.op = .store t p x) {g j : Nat} {e : TypeId} {k : IntKind} {xs : List Int} {u : Int} (haddr : a.eval p = .pointer (some ⟨g, j, none⟩)) (hx : a.eval x = .int k u) (ht : (P.info? t).map (·.size) = some 1)
    (hb : Arr W g e k xs) (hj : j < xs.length) (h : ∀ w1, Arr w1 g e k (xs.set j u) → W.grownBy w1 (some g) → wpList P ops Q rest a w1) : wpList P ops Q (o :: rest) a W :=
 store_seg hgd hN t p x ho [.int k u] haddr hx rfl ht (by simp [Value.oneCell']) hb (by simp; omega) (hb.put j u) h
theorem store_row {W : World} (hgd : o.guard = none) (hN : o.dst = none) (t : TypeId) (p x : Operand) (ho : o.op = .store t p x) {g : Nat} {e : TypeId} {k : IntKind} {xs ys : List Int} (haddr : a.eval p = .pointer (some ⟨g, 0, none⟩)) (hx : a.eval x = .agg (ys.map (Value.int k)).toArray) (ht : (P.info? t).map (·.size) = some ys.length)
    (hb : Arr W g e k xs) (hj : ys.length = xs.length) (h : ∀ w1, Arr w1 g e k ys → W.grownBy w1 (some g) → wpList P ops Q rest a w1) : wpList P ops Q (o :: rest) a W := by
 obtain ⟨cur', h3, h4, h5⟩ := setCells_row (ys.map (Value.int k)) 0 W _ hb (by simp; omega)
 have h6 : cur' = (ys.map (Value.int k)).toArray := by
  apply Array.toList_inj.1
  rw [h5]
  simp [hj]
 subst h6
 exact store_seg hgd hN t p x ho (ys.map (Value.int k)) haddr hx (by simp [Value.cells]) (by rw [ht]; simp) (by intro q hq; obtain ⟨z, _, rfl⟩ := List.mem_map.1 hq; rfl) hb (by simp; omega) h3 h
theorem load_row {W : World} (hgd : o.guard = none) {N : Tmp} (hd : o.dst = some N) (t : TypeId) (p : Operand) (ho : o.op = .load t p) {g : Nat} {e e' : TypeId} {n : Nat} {k : IntKind} {xs : List Int} (haddr : a.eval p = .pointer (some ⟨g, 0, none⟩)) (hu : P.underlying t = some (.array n e')) (ht : (P.info? t).map (·.size) = some xs.length)
    (hb : Arr W g e k xs) (h : wpList P ops Q rest (a.put o.dst (.agg (xs.map (Value.int k)).toArray)) W) : wpList P ops Q (o :: rest) a W := by
 have hr := run_load_seg (P := P) W g 0 e t _ _ (xs.map (Value.int k)) hb hu rfl (by rw [ht]; simp) (fun j v hv => by rw [Nat.zero_add, List.getElem?_toArray]; exact hv)
 refine Kd.event_run hgd ?_ h
 unfold execOp
 simp only [ho, haddr, Sem.run_bind, Sem.run_pure, Result.andThen_ok, hr]
end
def tu (x : Int) (n : Nat) : Int := Go.bits .or .u32 (shl .u32 x (32 - n : Nat)) (shr .u32 x (n : Nat))
def wK (b W : List Int) (t : Nat) : Nat → List Int
 | 0 => W
 | k + 1 => (wK b W t k).set t (Go.bits .or .u32 (IntKind.u32.wrap ((wK b W t k)[t]?.getD 0 * 256)) (IntKind.u32.wrap (b[4 * t + k]?.getD 0)))
def wT (b : List Int) : Nat → List Int
 | 0 => List.replicate 64 0
 | t + 1 => wK b (wT b t) t 4
theorem wK_len (b W : List Int) (t k : Nat) : (wK b W t k).length = W.length := by
 induction k with
 | zero => rfl
 | succ k ih => rw [wK, List.length_set, ih]
theorem wT_len (b : List Int) (t : Nat) : (wT b t).length = 64 := by
 induction t with
 | zero => simp [wT]
 | succ t ih => rw [wT, wK_len, ih]
def wNext (V : List Int) (t : Nat) : Int :=
 IntKind.u32.wrap (IntKind.u32.wrap (IntKind.u32.wrap (Go.bits .xor .u32 (Go.bits .xor .u32 (tu (V[t - 2]?.getD 0) 17) (tu (V[t - 2]?.getD 0) 19)) (V[t - 2]?.getD 0 / 1024) + V[t - 7]?.getD 0)
  + Go.bits .xor .u32 (Go.bits .xor .u32 (tu (V[t - 15]?.getD 0) 7) (tu (V[t - 15]?.getD 0) 18)) (V[t - 15]?.getD 0 / 8)) + V[t - 16]?.getD 0)
def wN (b : List Int) : Nat → List Int
 | 0 => wT b 16
 | n + 1 => (wN b n).set (n + 16) (wNext (wN b n) (n + 16))
theorem wN_len (b : List Int) (n : Nat) : (wN b n).length = 64 := by
 induction n with
 | zero => exact wT_len b 16
 | succ n ih => rw [wN, List.length_set, ih]
def shaWords (b : List Int) : List Int := wN b 48
theorem tu_key : ∀ n ∈ [2, 6, 7, 11, 13, 17, 18, 19, 22, 25], Go.bits .and .u64 (IntKind.u64.wrap (wrap64 (-((n : Nat) : Int)))) 31 = ((32 - n : Nat) : Int) ∧ IntKind.u64.wrap (32 - ((32 - n : Nat) : Int)) = ((n : Nat) : Int) := by decide +kernel
theorem tu_at (x : Int) (n : Nat) (m : Int) (hm : m = (n : Int)) (h : n ∈ [2, 6, 7, 11, 13, 17, 18, 19, 22, 25]) : sha_turned.f x m = some (tu x n) := by
 subst hm
 obtain ⟨h1, h2⟩ := tu_key n h
 unfold sha_turned.f bits_RotateLeft32.f tu
 rw [h1, h2, if_pos (by omega), if_pos (by omega)]
 rfl
def sha_words.T8 : Bool × List (List Nat × List Nat) := (true, [([], []), ([], []), ([1], [1]), ([2], [2]), ([3], [3]), ([], []), ([5], [5]), ([], []), ([6, 7], [6, 7]), ([8], [8]), ([9], [9]), ([10], [10]), ([4, 11], [4, 11]), ([0, 0, 1, 2, 3, 4, 5, 6, 7, 8, 9, 10, 11, 12], [0]), ([13, 12, 0, 1, 2, 3, 4, 5, 6, 7, 8, 9, 10, 11, 12], [12, 13])])
def sha_words.B8 : List Nat := [0, 0, 2, 6, 14, 0, 32, 0, 224, 480, 992, 2016, 4094, 8191, 16383]
theorem sha_words.tab8 : rtab .any (opsOf Try.f77 8) = sha_words.T8 := by kernel_rfl
theorem sha_words.bits8 : waitsOk sha_words.T8.2 sha_words.B8 = true := by kernel_rfl
def sha_words.T14 : Bool × List (List Nat × List Nat) := (true, [([], []), ([0], [0]), ([1], [1]), ([2], [2]), ([], []), ([4], [4]), ([5], [5]), ([6], [6]), ([3, 0, 1, 2, 3], [3]), ([7, 8, 0, 1, 2, 3, 4, 5, 6, 7, 8], [7])])
def sha_words.B14 : List Nat := [0, 1, 3, 7, 0, 16, 48, 112, 15, 511]
theorem sha_words.tab14 : rtab .any (opsOf Try.f77 14) = sha_words.T14 := by kernel_rfl
theorem sha_words.bits14 : waitsOk sha_words.T14.2 sha_words.B14 = true := by kernel_rfl
def sha_words.T15 : Bool × List (List Nat × List Nat) := (true, [([], []), ([], []), ([1], [1]), ([], []), ([3, 2], [3]), ([2, 4], [2, 4]), ([], []), ([6], [6]), ([5, 7], [5, 7]), ([], []), ([9], [9]), ([10], [10]), ([11], [11]), ([8, 12], [8, 12]), ([], []), ([14, 4], [14]), ([], []), ([16, 15], [16]), ([15, 17], [15, 17]), ([], []), ([19], [19]), ([18, 20], [18, 20]), ([13, 21], [13, 21]), ([], []), ([23], [23]), ([24], [24]), ([25], [25]), ([22, 26], [22, 26]), ([0, 0, 1, 2, 3, 4, 5, 6, 7, 8, 9, 10, 11, 12, 13, 14, 15, 16, 17, 18, 19, 20, 21, 22, 23, 24, 25, 26, 27], [0]), ([28, 27, 17, 0, 1, 2, 3, 4, 5, 6, 7, 8, 9, 10, 11, 12, 13, 14, 15, 16, 17, 18, 19, 20, 21, 22, 23, 24, 25, 26, 27], [27, 28])])
def sha_words.B15 : List Nat := [0, 0, 2, 0, 14, 30, 0, 64, 254, 0, 512, 1536, 3584, 8190, 0, 16414, 0, 114718, 245790, 0, 524288, 2080798, 4194302, 0, 8388608, 25165824, 58720256, 134217726, 268435455, 536870911]
theorem sha_words.tab15 : rtab .any (opsOf Try.f77 15) = sha_words.T15 := by kernel_rfl
theorem sha_words.bits15 : waitsOk sha_words.T15.2 sha_words.B15 = true := by kernel_rfl
set_option maxHeartbeats 8000000 in
set_option maxRecDepth 100000 in
theorem sha_words.calls (b : List Int) (hb : b.length = 64) (w : World) :
    Calls Try.prog 77 #[.agg (b.map (Value.int .u8)).toArray] w fun e w' => e = .returned (.agg ((shaWords b).map (Value.int .u32)).toArray) ∧ Below w.heap.size w w' := by
 have HL := zA hb
 clear hb
 go_enter Try.func77, Try.ntmps77
 go_wp2_with (first
  | ((with_reducible refine gate_dst (N := 1) rfl ?_); refine box_event ?hg (N := 1) ?hd (cs := (b.map (Value.int .u8)).toArray) (t := 114) ?hr ?_; (case hd => rfl); (case hg => rfl); (case hr => first | (go_simp; done) | (go_simp; rfl)); intro g1 hg1 w1 hA hq; have HA1 : Aside0 (Arr w1 g1 114 .u8 b) := ⟨hA⟩; have HB := zA hq; have HG1 := zA hg1; clear hA hq hg1;
     refine box_event ?hg (N := 2) ?hd (cs := ((List.replicate 64 0).map (Value.int .u32)).toArray) (t := 119) ?hr ?_; (case hd => rfl); (case hg => rfl); (case hr => first | (go_simp; done) | (go_simp; rfl)); intro g2 hg2 w2 hA hq; have HA2 : Aside0 (Arr w2 g2 119 .u32 (List.replicate 64 0)) := ⟨hA⟩; have HG2 := zA (show w.heap.size ≤ g2 ∧ g1 ≠ g2 from ⟨by have := HB.out.size; omega, by have := HA1.out.lt; omega⟩); replace HA1 := zA (HA1.out.below hq); replace HB := zA (HB.out.trans (belowTo hq HB.out.size)); clear hA hq hg2)
  | ((with_reducible refine gate_dst (N := 3) rfl ?_); refine box_event ?hg (N := 3) ?hd (cs := ((List.replicate 64 0).map (Value.int .u32)).toArray) (t := 119) ?hr ?_; (case hd => rfl); (case hg => rfl); (case hr => first | (go_simp; done) | (go_simp; rfl)); intro g3 hg3 w3 hA hq; have HA3 : Aside0 (Arr w3 g3 119 .u32 (List.replicate 64 0)) := ⟨hA⟩; have HG3 := zA (show w.heap.size ≤ g3 ∧ g1 ≠ g3 ∧ g2 ≠ g3 from ⟨by have := HB.out.size; omega, by have := HA1.out.lt; omega, by have := HA2.out.lt; omega⟩); replace HA1 := zA (HA1.out.below hq); replace HA2 := zA (HA2.out.below hq); replace HB := zA (HB.out.trans (belowTo hq HB.out.size)); clear hA hq hg3))
 go_loopg [9] 17 (fun kq v9 w' => ∃ i : Nat, v9 = .int .i64 (i : Int) ∧ Aside0 (i + kq = 17 ∧ i ≤ 16) ∧ Aside0 (Arr w' g1 114 .u8 b) ∧ Aside0 (Arr w' g2 119 .u32 (List.replicate 64 0)) ∧ Aside0 (Arr w' g3 119 .u32 (wT b i)) ∧ Aside0 (Below w.heap.size w w'))
 case atStart => exact ⟨0, rfl, ⟨by omega, by omega⟩, HA1, HA2, HA3, HB⟩
 case round =>
  clear HA1 HA2 HA3 HB
  obtain ⟨i, rfl, hk, HA1, HA2, HA3, HB⟩ := hrel
  by_cases hlt : i < 16
  ·obtain ⟨k1, rfl⟩ : ∃ k1, gk = k1 + 1 := ⟨gk - 1, by have := hk.out; omega⟩
   have HI := zA hlt
   have d1 : decide ((i : Int) < 16) = true := zd1 (by omega)
   have d2 : decide (i < 16) = true := zd1 hlt
   have hw : wrap64 ((i : Int) + 1) = ((i + 1 : Nat) : Int) := by unfold wrap64; omega
   have HW := zA hw
   clear hw hlt
   go_wp2
   clear d1 d2
   go_loopg [12] 5 (fun jq v12 w' => ∃ j : Nat, v12 = .int .i64 (j : Int) ∧ Aside0 (j + jq = 5 ∧ j ≤ 4) ∧ Aside0 (Arr w' g1 114 .u8 b) ∧ Aside0 (Arr w' g2 119 .u32 (List.replicate 64 0)) ∧ Aside0 (Arr w' g3 119 .u32 (wK b (wT b i) i j)) ∧ Aside0 (Below w.heap.size w w'))
   case atStart => exact ⟨0, rfl, ⟨by omega, by omega⟩, HA1, HA2, HA3, HB⟩
   case round =>
    clear HA1 HA2 HA3 HB
    obtain ⟨j, rfl, hj, HA1, HA2, HA3, HB⟩ := hrel
    by_cases hlj : j < 4
    ·obtain ⟨j1, rfl⟩ : ∃ j1, gk = j1 + 1 := ⟨gk - 1, by have := hj.out; omega⟩
     have HJ := zA hlj
     have d1 : decide ((j : Int) < 4) = true := zd1 (by omega)
     have d2 : decide (j < 4) = true := zd1 hlj
     obtain ⟨q, hq⟩ : ∃ q : Nat, q = 4 * i + j := ⟨_, rfl⟩
     have e1 : wrap64 (4 * (i : Int)) = 4 * (i : Int) := by have := HI.out; unfold wrap64; omega
     have e2 : wrap64 (4 * (i : Int) + (j : Int)) = (q : Int) := by have := HI.out; unfold wrap64; omega
     have hw : wrap64 ((j : Int) + 1) = ((j + 1 : Nat) : Int) := by unfold wrap64; omega
     have HWJ := zA hw
     have hx := HA3.out.cell i (by rw [wK_len, wT_len]; have := HI.out; omega)
     have hy := HA1.out.cell q (by have := HL.out; have := HI.out; omega)
     have p1 := eq_true (show (0 : Int) ≤ (i : Int) by omega)
     have p2 := eq_true (show (i : Int) < 64 by have := HI.out; omega)
     have p3 := eq_true (show (0 : Int) ≤ (q : Int) by omega)
     have p4 := eq_true (show (q : Int) < 64 by have := HI.out; omega)
     have HQ := zA hq
     clear hw hlj hq
     go_wp2
     have hf := HA3.out.frozen i
     refine start_ (n := 15) (S := fun w' => w'.cell? ⟨g3, i, none⟩ = some (.int .u32 ((wK b (wT b i) i j).getD i 0)) ∧ w'.cell? ⟨g1, q, none⟩ = some (.int .u8 (b.getD q 0)) ∧ w'.frozen? ⟨g3, i, none⟩ = false) (ds := [14]) (qq 15 0) (by kernel_rfl) rfl (by kernel_rfl) ⟨hx, hy, hf⟩ (fun hHeld => ?_); refine with_tabW sha_words.tab8 sha_words.bits8 (fun HT_ HW_ => ?_)
     refine ord_ [(0, 0, 1), (0, 1, 3), (0, 2, 7), (0, 5, 39), (0, 6, 103), (0, 7, 231), (0, 8, 487), (0, 9, 999), (1, 3, 1007), (0, 4, 1023), (1, 10, 2047), (0, 11, 4095), (0, 12, 8191), (0, 13, 16383)] ?_
     repeat (first | (refine kk_ 0 ?_; refine oP_ (v := ?_) (a' := ?_) HT_ rfl rfl (by kernel_rfl) (fun _ _ _ h => h) (Or.inl ⟨by rfl, ?_⟩) ?_ ?_; rotate_left; (intro w'; go_simp; with_reducible rfl); rotate_left; (simp only [Act.put, zs1, zs2, zs3, i64_w, i32_w]; rfl)) | (refine kk_ 1 ?_; refine oT_ (v := ?_) (a' := ?_) HT_ HW_ rfl rfl (by kernel_rfl) (fun _ _ _ h => h) (Or.inl ⟨by rfl, ?_⟩) hHeld ?_ ?_; rotate_left; (rintro w' ⟨s0, s1, s2⟩; go_simp; with_reducible rfl); rotate_left; (simp only [Act.put, zs1, zs2, zs3, i64_w, i32_w]; rfl)))
     refine oend_ ?_
     refine last_ (i := 14) (N := none) (qq 15 32767) rfl rfl (one_of HT_.out (by kernel_rfl)) (by decide) (fun K hK => ?_)
     refine skip_ (w1 := ?_) (by rfl) rfl ?_ ?_
     rotate_left
     ·go_simp
      rfl
     refine hK.out _ _ ?_
     clear hK K
     refine done_ (done_of HT_.out (by kernel_rfl)) ?_
     have hgr := fun v => grown_cells wr g3 i [v]
     have HGR : Aside0 (∀ v, wr.grownBy (wr.setCell ⟨g3, i, none⟩ v) (some g3)) := ⟨hgr⟩
     have HP : Aside0 (∀ x, Arr (wr.setCell ⟨g3, i, none⟩ (.int .u32 x)) g3 119 .u32 ((wK b (wT b i) i j).set i x)) := ⟨fun x => HA3.out.put i x⟩
     have HBS : Aside0 (w.heap.size ≤ wr.heap.size) := ⟨HB.out.size⟩
     clear hgr hx hy hf p1 p2 p3 p4 e1 e2 d1 d2
     try go_wp2
     go_roundg j1
     case measure => omega
     case rel => exact ⟨j + 1, by rw [HWJ.out], ⟨by have := hj.out; omega, by have := HJ.out; omega⟩, ⟨(HA1.out.grown (HGR.out _) (fun h => HG3.out.2.1 (Option.some.inj h))).drew⟩, ⟨(HA2.out.grown (HGR.out _) (fun h => HG3.out.2.2 (Option.some.inj h))).drew⟩,
      ⟨by have h1 := (HP.out (Go.bits .or .u32 (IntKind.u32.wrap ((wK b (wT b i) i j)[i]?.getD 0 * 256)) (IntKind.u32.wrap (b[q]?.getD 0)))).drew; rw [HQ.out] at h1 ⊢; exact h1⟩, ⟨zb2 (belowBy HB.out (HGR.out _) HBS.out (fun k hk => by have := HG3.out.1; have := Option.some.inj hk; omega))⟩⟩
    ·have hje : j = 4 := by have := hj.out; omega
     have HE := zA hje
     have d1 : decide ((j : Int) < 4) = false := zd2 (by omega)
     have d2 : decide (j < 4) = false := zd2 hlj
     clear hlj hje
     go_wp2
     clear d1 d2
     go_roundg k1
     case measure => omega
     case rel => exact ⟨i + 1, by rw [HW.out], ⟨by have := hk.out; omega, by have := HI.out; omega⟩, HA1, HA2, ⟨by have h1 := HA3.out; rw [HE.out] at h1; exact h1⟩, HB⟩
  ·have hie : i = 16 := by have := hk.out; omega
   have HE := zA hie
   have d1 : decide ((i : Int) < 16) = false := zd2 (by omega)
   have d2 : decide (i < 16) = false := zd2 hlt
   clear hlt hie
   go_wp2
   clear d1 d2
   go_loopg [6] 49 (fun kq v6 w' => ∃ t : Nat, v6 = .int .i64 (t : Int) ∧ Aside0 (t + kq = 65 ∧ 16 ≤ t ∧ t ≤ 64) ∧ Aside0 (Arr w' g2 119 .u32 (List.replicate 64 0)) ∧ Aside0 (Arr w' g3 119 .u32 (wN b (t - 16))) ∧ Aside0 (Below w.heap.size w w'))
   case atStart => exact ⟨16, rfl, ⟨by omega, by omega, by omega⟩, HA2, ⟨by have h1 := HA3.out; rw [HE.out] at h1; exact h1⟩, HB⟩
   case round =>
    clear HA1 HA2 HA3 HB
    obtain ⟨t, rfl, ht, HA2, HA3, HB⟩ := hrel
    by_cases hlt : t < 64
    ·obtain ⟨k1, rfl⟩ : ∃ k1, gk = k1 + 1 := ⟨gk - 1, by have := ht.out; omega⟩
     have HI := zA hlt
     have d1 : decide ((t : Int) < 64) = true := zd1 (by omega)
     have d2 : decide (t < 64) = true := zd1 hlt
     have hw : wrap64 ((t : Int) + 1) = ((t + 1 : Nat) : Int) := by unfold wrap64; omega
     have HW := zA hw
     obtain ⟨t2, ht2⟩ : ∃ q : Nat, q = t - 2 := ⟨_, rfl⟩
     obtain ⟨t7, ht7⟩ : ∃ q : Nat, q = t - 7 := ⟨_, rfl⟩
     obtain ⟨t15, ht15⟩ : ∃ q : Nat, q = t - 15 := ⟨_, rfl⟩
     obtain ⟨t16, ht16⟩ : ∃ q : Nat, q = t - 16 := ⟨_, rfl⟩
     have e2 : wrap64 ((t : Int) - 2) = (t2 : Int) := by have := ht.out; unfold wrap64; omega
     have e7 : wrap64 ((t : Int) - 7) = (t7 : Int) := by have := ht.out; unfold wrap64; omega
     have e15 : wrap64 ((t : Int) - 15) = (t15 : Int) := by have := ht.out; unfold wrap64; omega
     have e16 : wrap64 ((t : Int) - 16) = (t16 : Int) := by have := ht.out; unfold wrap64; omega
     have p0 := eq_true (show (t : Int) < 64 by omega)
     have p2 := eq_true (show (t2 : Int) < 64 by omega)
     have p7 := eq_true (show (t7 : Int) < 64 by omega)
     have p15 := eq_true (show (t15 : Int) < 64 by omega)
     have p16 := eq_true (show (t16 : Int) < 64 by omega)
     have o0 := eq_true (show (0 : Int) ≤ (t : Int) by omega)
     have o2 := eq_true (show (0 : Int) ≤ (t2 : Int) by omega)
     have o7 := eq_true (show (0 : Int) ≤ (t7 : Int) by omega)
     have o15 := eq_true (show (0 : Int) ≤ (t15 : Int) by omega)
     have o16 := eq_true (show (0 : Int) ≤ (t16 : Int) by omega)
     have hlen : (wN b (t - 16)).length = 64 := wN_len _ _
     have hx2 := HA3.out.cell t2 (by omega)
     have hx7 := HA3.out.cell t7 (by omega)
     have hx15 := HA3.out.cell t15 (by omega)
     have hx16 := HA3.out.cell t16 (by omega)
     have hf := HA3.out.frozen t
     have hxt := HA3.out.cell t (by omega)
     have HT2 := zA (And.intro ht2 (And.intro ht7 (And.intro ht15 ht16)))
     obtain ⟨V, hV⟩ : ∃ V, V = wN b (t - 16) := ⟨_, rfl⟩
     rw [← hV] at hx2 hx7 hx15 hx16 hxt HA3
     have HV := zA hV
     clear hw hlt ht2 ht7 ht15 ht16 hlen hV
     try go_wp2
     refine start_ (n := 10) (S := fun w' => w'.cell? ⟨g3, t2, none⟩ = some (.int .u32 (V.getD t2 0)) ∧ w'.cell? ⟨g3, t15, none⟩ = some (.int .u32 (V.getD t15 0))) (ds := []) (qq 10 0) (by kernel_rfl) rfl (by kernel_rfl) ⟨hx2, hx15⟩ (fun hHeld => ?_); refine with_tabW sha_words.tab14 sha_words.bits14 (fun HT_ HW_ => ?_)
     refine ord_ [(0, 0, 1), (0, 1, 3), (0, 2, 7), (0, 4, 23), (0, 5, 55), (0, 6, 119), (1, 3, 127), (0, 8, 383), (1, 7, 511), (0, 9, 1023)] ?_
     repeat (first | (refine kk_ 0 ?_; refine oP_ (v := ?_) (a' := ?_) HT_ rfl rfl (by kernel_rfl) (fun _ _ _ h => h) (Or.inl ⟨by rfl, ?_⟩) ?_ ?_; rotate_left; (intro w'; go_simp; with_reducible rfl); rotate_left; (simp only [Act.put, zs1, zs2, zs3, i64_w, i32_w]; rfl)) | (refine kk_ 1 ?_; refine oT_ (v := ?_) (a' := ?_) HT_ HW_ rfl rfl (by kernel_rfl) (fun _ _ _ h => h) (Or.inl ⟨by rfl, ?_⟩) hHeld ?_ ?_; rotate_left; (rintro w' ⟨s0, s1⟩; go_simp; with_reducible rfl); rotate_left; (simp only [Act.put, zs1, zs2, zs3, i64_w, i32_w]; rfl)))
     refine oend_ ?_
     refine done_ (done_of HT_.out (by kernel_rfl)) ?_
     try go_wp2
     clear hx2 hx15 e2 e15 p2 p15 o2 o15
     rw [List.getD_eq_getElem?_getD] at hx7 hx16
     refine start_ (n := 30) (S := fun w' => w'.cell? ⟨g3, t7, none⟩ = some (.int .u32 (V[t7]?.getD 0)) ∧ w'.cell? ⟨g3, t16, none⟩ = some (.int .u32 (V[t16]?.getD 0)) ∧ w'.frozen? ⟨g3, t, none⟩ = false) (ds := [29]) (qq 30 0) (by kernel_rfl) rfl (by kernel_rfl) ⟨hx7, hx16, hf⟩ (fun hHeld => ?_); refine with_tabW sha_words.tab15 sha_words.bits15 (fun HT_ HW_ => ?_)
     refine ord_ [(0, 0, 1), (0, 1, 3), (0, 3, 11), (0, 6, 75), (0, 7, 203), (0, 9, 715), (0, 10, 1739), (0, 11, 3787), (0, 14, 20171), (0, 16, 85707), (0, 19, 609995), (0, 20, 1658571), (0, 23, 10047179), (0, 24, 26824395), (0, 25, 60378827), (1, 12, 60382923), (1, 26, 127491787)] ?_
     repeat (first | (refine kk_ 0 ?_; refine oP_ (v := ?_) (a' := ?_) HT_ rfl rfl (by kernel_rfl) (fun _ _ _ h => h) (Or.inl ⟨by rfl, ?_⟩) ?_ ?_; rotate_left; (intro w'; go_simp; with_reducible rfl); rotate_left; (simp only [Act.put, zs1, zs2, zs3, i64_w, i32_w]; rfl)) | (refine kk_ 1 ?_; refine oT_ (v := ?_) (a' := ?_) HT_ HW_ rfl rfl (by kernel_rfl) (fun _ _ _ h => h) (Or.inl ⟨by rfl, ?_⟩) hHeld ?_ ?_; rotate_left; (rintro w' ⟨s0, s1, s2⟩; go_simp; with_reducible rfl); rotate_left; (simp only [Act.put, zs1, zs2, zs3, i64_w, i32_w]; rfl)))
     refine oend_ ?_
     refine one_ (i := 2) (N := some 45) (qq 30 127491791) rfl rfl (one_of HT_.out (by kernel_rfl)) (by decide) (fun K hK => ?_)
     refine goes_ Try.func79 (by kernel_rfl) rfl #[.int .u32 (V[t2]?.getD 0), .int .i64 17] (by rfl) rfl rfl (by (try simp only [zm1, zm2, zm3]); first | done | rfl) ?_
     with_reducible refine (sha_turned.calls (V[t2]?.getD 0) 17 (tu (V[t2]?.getD 0) 17) _ (tu_at (V[t2]?.getD 0) 17 _ rfl (by decide))).mono ?_
     rintro e w' ⟨rfl, ⟨nd, rfl⟩⟩
     refine ⟨_, rfl, ?_⟩
     refine hK.out _ _ ⟨hHeld.1, hHeld.2.1, hHeld.2.2⟩ (fun hHeld => ?_)
     clear hK K
     refine norm_ (a' := ?_) ?_ ?_
     rotate_left
     ·show Act.put _ (some 45) _ = _
      simp only [Act.put, zs1, zs2, zs3, i64_w, i32_w]
      rfl
     refine one_ (i := 4) (N := some 47) (qq 30 127491807) rfl rfl (one_of HT_.out (by kernel_rfl)) (by decide) (fun K hK => ?_)
     refine goes_ Try.func79 (by kernel_rfl) rfl #[.int .u32 (V[t2]?.getD 0), .int .i64 19] (by rfl) rfl rfl (by (try simp only [zm1, zm2, zm3]); first | done | rfl) ?_
     with_reducible refine (sha_turned.calls (V[t2]?.getD 0) 19 (tu (V[t2]?.getD 0) 19) _ (tu_at (V[t2]?.getD 0) 19 _ rfl (by decide))).mono ?_
     rintro e w' ⟨rfl, ⟨nd, rfl⟩⟩
     refine ⟨_, rfl, ?_⟩
     refine hK.out _ _ ⟨hHeld.1, hHeld.2.1, hHeld.2.2⟩ (fun hHeld => ?_)
     clear hK K
     refine norm_ (a' := ?_) ?_ ?_
     rotate_left
     ·show Act.put _ (some 47) _ = _
      simp only [Act.put, zs1, zs2, zs3, i64_w, i32_w]
      rfl
     refine ord_ [(0, 5, 127491839), (0, 8, 127492095), (0, 13, 127500287)] ?_
     repeat (refine kk_ 0 ?_; refine oP_ (v := ?_) (a' := ?_) HT_ rfl rfl (by kernel_rfl) (fun _ _ _ h => h) (Or.inl ⟨by rfl, ?_⟩) ?_ ?_; rotate_left; (intro w'; go_simp; with_reducible rfl); rotate_left; (simp only [Act.put, zs1, zs2, zs3, i64_w, i32_w]; rfl))
     refine oend_ ?_
     refine one_ (i := 15) (N := some 58) (qq 30 127533055) rfl rfl (one_of HT_.out (by kernel_rfl)) (by decide) (fun K hK => ?_)
     refine goes_ Try.func79 (by kernel_rfl) rfl #[.int .u32 (V[t15]?.getD 0), .int .i64 7] (by rfl) rfl rfl (by (try simp only [zm1, zm2, zm3]); first | done | rfl) ?_
     with_reducible refine (sha_turned.calls (V[t15]?.getD 0) 7 (tu (V[t15]?.getD 0) 7) _ (tu_at (V[t15]?.getD 0) 7 _ rfl (by decide))).mono ?_
     rintro e w' ⟨rfl, ⟨nd, rfl⟩⟩
     refine ⟨_, rfl, ?_⟩
     refine hK.out _ _ ⟨hHeld.1, hHeld.2.1, hHeld.2.2⟩ (fun hHeld => ?_)
     clear hK K
     refine norm_ (a' := ?_) ?_ ?_
     rotate_left
     ·show Act.put _ (some 58) _ = _
      simp only [Act.put, zs1, zs2, zs3, i64_w, i32_w]
      rfl
     refine one_ (i := 17) (N := some 60) (qq 30 127664127) rfl rfl (one_of HT_.out (by kernel_rfl)) (by decide) (fun K hK => ?_)
     refine goes_ Try.func79 (by kernel_rfl) rfl #[.int .u32 (V[t15]?.getD 0), .int .i64 18] (by rfl) rfl rfl (by (try simp only [zm1, zm2, zm3]); first | done | rfl) ?_
     with_reducible refine (sha_turned.calls (V[t15]?.getD 0) 18 (tu (V[t15]?.getD 0) 18) _ (tu_at (V[t15]?.getD 0) 18 _ rfl (by decide))).mono ?_
     rintro e w' ⟨rfl, ⟨nd, rfl⟩⟩
     refine ⟨_, rfl, ?_⟩
     refine hK.out _ _ ⟨hHeld.1, hHeld.2.1, hHeld.2.2⟩ (fun hHeld => ?_)
     clear hK K
     refine norm_ (a' := ?_) ?_ ?_
     rotate_left
     ·show Act.put _ (some 60) _ = _
      simp only [Act.put, zs1, zs2, zs3, i64_w, i32_w]
      rfl
     refine ord_ [(0, 18, 127926271), (0, 21, 130023423), (0, 22, 134217727), (0, 27, 268435455), (0, 28, 536870911)] ?_
     repeat (refine kk_ 0 ?_; refine oP_ (v := ?_) (a' := ?_) HT_ rfl rfl (by kernel_rfl) (fun _ _ _ h => h) (Or.inl ⟨by rfl, ?_⟩) ?_ ?_; rotate_left; (intro w'; go_simp; with_reducible rfl); rotate_left; (simp only [Act.put, zs1, zs2, zs3, i64_w, i32_w]; rfl))
     refine oend_ ?_
     refine last_ (i := 29) (N := none) (qq 30 1073741823) rfl rfl (one_of HT_.out (by kernel_rfl)) (by decide) (fun K hK => ?_)
     refine skip_ (w1 := ?_) (by rfl) rfl ?_ ?_
     rotate_left
     ·go_simp
      rfl
     refine hK.out _ _ ?_
     clear hK K
     refine done_ (done_of HT_.out (by kernel_rfl)) ?_
     clear hx7 hx16 hf hxt e7 e16 p0 p7 p16 o0 o7 o16 d1 d2
     try go_wp2
     go_roundg k1
     case measure => omega
     case rel =>
      refine ⟨t + 1, by rw [HW.out], ⟨by have := ht.out; omega, by have := ht.out; omega, by have := HI.out; omega⟩, ⟨HA2.out.grown (grown_putD _ _ _ _ _) (fun h => HG3.out.2.2 (Option.some.inj h))⟩, ⟨?_⟩, ⟨belowBy HB.out (grown_putD _ _ _ _ _) HB.out.size (fun k hk => by have := HG3.out.1; have := Option.some.inj hk; omega)⟩⟩
      obtain ⟨q1, q2, q3, q4⟩ := HT2.out
      have e : wN b (t + 1 - 16) = V.set t (wNext V t) := by
       have h16 := ht.out
       rw [show t + 1 - 16 = (t - 16) + 1 by omega]
       show (wN b (t - 16)).set (t - 16 + 16) (wNext (wN b (t - 16)) (t - 16 + 16)) = _
       rw [← HV.out, show t - 16 + 16 = t by omega]
      rw [e]
      subst q1 q2 q3 q4
      exact HA3.out.putD _ t _
    ·have hte : t = 64 := by have := ht.out; omega
     have HE2 := zA hte
     have d1 : decide ((t : Int) < 64) = false := zd2 (by omega)
     have d2 : decide (t < 64) = false := zd2 hlt
     clear hlt hte
     go_wp2_with (first | ((with_reducible refine gate_dst (N := 72) rfl ?_); refine load_row rfl rfl 119 (.tmp 3) rfl (g := g3) (k := .u32) rfl Try.underlying119 (by rw [wN_len]; kernel_rfl) HA3.out ?_; refine store_row rfl rfl 119 (.tmp 2) (.tmp 72) rfl (g := g2) rfl rfl (by rw [wN_len]; kernel_rfl) HA2.out (by rw [wN_len]; simp) ?_; intro w9 hA hg; replace HA2 := zA hA; replace HB := zA (belowBy HB.out hg HB.out.size (fun k hk => by have := HG2.out.1; have := Option.some.inj hk; omega)); clear hA hg))
     refine bodyPost_ret (results_cell_row rfl _ _ g2 119 _ (0, 0) _ rfl HA2.out Try.underlying119 rfl (by simp only [List.size_toArray, List.length_map]; rw [wN_len]; kernel_rfl)) rfl ⟨?_, HB.out⟩
     rw [HE2.out]
     rfl

def shaKs : List Int := [1116352408, 1899447441, 3049323471, 3921009573, 961987163, 1508970993, 2453635748, 2870763221, 3624381080, 310598401, 607225278, 1426881987, 1925078388, 2162078206, 2614888103, 3248222580, 3835390401, 4022224774, 264347078, 604807628, 770255983, 1249150122, 1555081692, 1996064986, 2554220882, 2821834349, 2952996808, 3210313671, 3336571891, 3584528711, 113926993, 338241895, 666307205, 773529912, 1294757372, 1396182291, 1695183700, 1986661051, 2177026350, 2456956037, 2730485921, 2820302411, 3259730800, 3345764771, 3516065817, 3600352804, 4094571909, 275423344, 430227734, 506948616, 659060556, 883997877, 958139571, 1322822218, 1537002063, 1747873779, 1955562222, 2024104815, 2227730452, 2361852424, 2428436474, 2756734187, 3204031479, 3329325298]
def shaFirst : List Int := [1779033703, 3144134277, 1013904242, 2773480762, 1359893119, 2600822924, 528734635, 1541459225]
set_option maxHeartbeats 8000000 in
set_option maxRecDepth 100000 in
theorem sha_factors.calls (w : World) : Calls Try.prog 78 #[] w fun e w' => e = .returned (.agg (shaKs.map (Value.int .u32)).toArray) ∧ Below w.heap.size w w' := by
 go_enter Try.func78, Try.ntmps78
 go_wp2_with (first
  | ((with_reducible refine gate_dst (N := 0) rfl ?_); refine box_event ?hg (N := 0) ?hd (cs := ((List.replicate 64 0).map (Value.int .u32)).toArray) (t := 119) ?hr ?_; (case hd => rfl); (case hg => rfl); (case hr => first | (go_simp; done) | (go_simp; rfl)); intro g hg1 w1 hA hq; have HA : Aside0 (Arr w1 g 119 .u32 (List.replicate 64 0)) := ⟨hA⟩; have HB := zA hq; have HG := zA hg1; clear hA hq hg1)
  | ((with_reducible refine gate_store (t := 119) (p := 0) (v := .tmp 1) rfl ?_); refine store_row rfl rfl 119 (.tmp 0) (.tmp 1) rfl (g := g) (ys := shaKs) rfl rfl (by kernel_rfl) HA.out (by kernel_rfl) ?_; intro w9 hA hg; replace HA := zA hA; replace HB := zA (belowBy HB.out hg HB.out.size (fun k hk => by have := HG.out; have := Option.some.inj hk; omega)); clear hA hg))
 exact bodyPost_ret (results_cell_row rfl _ _ g 119 _ (0, 0) _ rfl HA.out Try.underlying119 rfl (by kernel_rfl)) rfl ⟨rfl, HB.out⟩
set_option maxHeartbeats 8000000 in
set_option maxRecDepth 100000 in
theorem sha_first.calls (w : World) : Calls Try.prog 73 #[] w fun e w' => e = .returned (.agg (shaFirst.map (Value.int .u32)).toArray) ∧ Below w.heap.size w w' := by
 go_enter Try.func73, Try.ntmps73
 go_wp2_with (first
  | ((with_reducible refine gate_dst (N := 0) rfl ?_); refine box_event ?hg (N := 0) ?hd (cs := ((List.replicate 8 0).map (Value.int .u32)).toArray) (t := 112) ?hr ?_; (case hd => rfl); (case hg => rfl); (case hr => first | (go_simp; done) | (go_simp; rfl)); intro g hg1 w1 hA hq; have HA : Aside0 (Arr w1 g 112 .u32 (List.replicate 8 0)) := ⟨hA⟩; have HB := zA hq; have HG := zA hg1; clear hA hq hg1)
  | ((with_reducible refine gate_store (t := 112) (p := 0) (v := .tmp 1) rfl ?_); refine store_row rfl rfl 112 (.tmp 0) (.tmp 1) rfl (g := g) (ys := shaFirst) rfl rfl (by kernel_rfl) HA.out (by kernel_rfl) ?_; intro w9 hA hg; replace HA := zA hA; replace HB := zA (belowBy HB.out hg HB.out.size (fun k hk => by have := HG.out; have := Option.some.inj hk; omega)); clear hA hg))
 exact bodyPost_ret (results_cell_row rfl _ _ g 112 _ (0, 0) _ rfl HA.out Try.underlying112 rfl (by kernel_rfl)) rfl ⟨rfl, HB.out⟩
def stCells (hs blk : List Int) (hv n : Int) : List Value := hs.map (Value.int .u32) ++ (blk.map (Value.int .u8) ++ [.int .i64 hv, .int .i64 n])
structure Sta (w : World) (g : Nat) (hs blk : List Int) (hv n : Int) : Prop where
 h8 : hs.length = 8
 b64 : blk.length = 64
 row : w.heap[g]? = some (.cells (stCells hs blk hv n).toArray 116 (0, 0))
section
variable {w w1 : World} {g : Nat} {hs blk : List Int} {hv n : Int}
theorem Sta.lt (h : Sta w g hs blk hv n) : g < w.heap.size := blk_lt h.row
theorem Sta.below (h : Sta w g hs blk hv n) (hb : Below w.heap.size w w1) : Sta w1 g hs blk hv n := ⟨h.h8, h.b64, zc6 h.row hb⟩
theorem Sta.grown {row : Option Nat} (h : Sta w g hs blk hv n) (hg : w.grownBy w1 row) (hne : some g ≠ row) : Sta w1 g hs blk hv n := ⟨h.h8, h.b64, blk_grown h.row hg hne⟩
theorem Sta.drew (h : Sta w g hs blk hv n) : Sta w.drew g hs blk hv n := ⟨h.h8, h.b64, h.row⟩
theorem Sta.frozen (h : Sta w g hs blk hv n) (i : Nat) : w.frozen? ⟨g, i, none⟩ = false := zc5 h.row i
theorem Sta.h (h : Sta w g hs blk hv n) (i : Nat) (hi : i < 8) : w.cell? ⟨g, i, none⟩ = some (.int .u32 (hs[i]?.getD 0)) := by
 have h8 := h.h8
 rw [zc1 h.row, List.getElem?_toArray, stCells, List.getElem?_append_left (by simp; omega), List.getElem?_map, List.getElem?_eq_getElem (by omega)]
 rfl
theorem Sta.b (h : Sta w g hs blk hv n) (i : Nat) (hi : i < 64) : w.cell? ⟨g, 8 + i, none⟩ = some (.int .u8 (blk[i]?.getD 0)) := by
 have h8 := h.h8
 have h64 := h.b64
 rw [zc1 h.row, List.getElem?_toArray, stCells, List.getElem?_append_right (by simp; omega), List.getElem?_append_left (by simp; omega), List.length_map, h8, show 8 + i - 8 = i by omega, List.getElem?_map, List.getElem?_eq_getElem (by omega)]
 rfl
theorem Sta.have_ (h : Sta w g hs blk hv n) : w.cell? ⟨g, 72, none⟩ = some (.int .i64 hv) := by
 rw [zc1 h.row, List.getElem?_toArray, stCells, List.getElem?_append_right (by simp [h.h8]), List.getElem?_append_right (by simp [h.h8, h.b64])]
 simp [h.h8, h.b64]
theorem Sta.n_ (h : Sta w g hs blk hv n) : w.cell? ⟨g, 73, none⟩ = some (.int .i64 n) := by
 rw [zc1 h.row, List.getElem?_toArray, stCells, List.getElem?_append_right (by simp [h.h8]), List.getElem?_append_right (by simp [h.h8, h.b64])]
 simp [h.h8, h.b64]
theorem Sta.put (h : Sta w g hs blk hv n) {hs' blk' : List Int} {hv' n' : Int} (h8 : hs'.length = 8) (h64 : blk'.length = 64) (i : Nat) (u : Value) (e : (stCells hs blk hv n).set i u = stCells hs' blk' hv' n') : Sta (w.setCell ⟨g, i, none⟩ u) g hs' blk' hv' n' :=
 ⟨h8, h64, blk_put h.row i u (by rw [zs1, e])⟩
theorem Sta.put_h (h : Sta w g hs blk hv n) (i : Nat) (hi : i < 8) (x : Int) : Sta (w.setCell ⟨g, i, none⟩ (.int .u32 x)) g (hs.set i x) blk hv n :=
 h.put (by rw [List.length_set]; exact h.h8) h.b64 i _ (by unfold stCells; rw [List.set_append_left _ _ (by simp [h.h8]; omega), List.map_set])
theorem Sta.put_have (h : Sta w g hs blk hv n) (x : Int) : Sta (w.setCell ⟨g, 72, none⟩ (.int .i64 x)) g hs blk x n :=
 h.put h.h8 h.b64 72 _ (by
  unfold stCells
  rw [List.set_append_right _ _ (by simp [h.h8]), List.set_append_right _ _ (by simp [h.h8, h.b64])]
  simp [h.h8, h.b64])
theorem Sta.put_n (h : Sta w g hs blk hv n) (x : Int) : Sta (w.setCell ⟨g, 73, none⟩ (.int .i64 x)) g hs blk hv x :=
 h.put h.h8 h.b64 73 _ (by
  unfold stCells
  rw [List.set_append_right _ _ (by simp [h.h8]), List.set_append_right _ _ (by simp [h.h8, h.b64])]
  simp [h.h8, h.b64])
end
section
variable {P : Program} {ops : Array Oper} {rest : List Oper} {o : Oper} {a : Act} {Q : Exit → Act → World → Prop}
theorem build_agg {W : World} (hgd : o.guard = none) (t : TypeId) (parts : Array (Nat × Operand)) (ho : o.op = .build t parts) (cs : Array Value) (hc : P.built t (parts.map fun (i, x) => (i, a.eval x)).toList = some cs)
    (h : wpList P ops Q rest (a.put o.dst (.agg cs)) W) : wpList P ops Q (o :: rest) a W := by
 refine Kd.event_run hgd ?_ h
 unfold execOp
 simp only [ho, Sem.run_bind, run_build W t _ _ hc, Result.andThen_ok]
 rfl
end
set_option maxHeartbeats 8000000 in
set_option maxRecDepth 100000 in
theorem sha_New.calls (w : World) : Calls Try.prog 69 #[] w fun e w' => ∃ g : Nat, e = .returned (.pointer (some ⟨g, 0, none⟩)) ∧ w.heap.size ≤ g ∧ Sta w' g shaFirst (List.replicate 64 0) 0 0 ∧ Below w.heap.size w w' := by
 go_enter Try.func69, Try.ntmps69
 go_wp2_with (first
  | ((with_reducible refine gate_callee (f := 73) rfl ?_); refine goesL_ (some 1) rfl rfl Try.func73 (by kernel_rfl) rfl #[] rfl (by simp) ?_; refine (sha_first.calls _).mono ?_; rintro e w1 ⟨rfl, hb⟩; refine ⟨_, rfl, ?_⟩; have HB := zA hb; clear hb)
  | ((with_reducible refine gate_dst (N := 2) rfl ?_); refine build_agg rfl 116 _ rfl (stCells shaFirst (List.replicate 64 0) 0 0).toArray (by kernel_rfl) ?_)
  | ((with_reducible refine gate_dst (N := 3) rfl ?_); refine box_event ?hg (N := 3) ?hd (cs := (stCells shaFirst (List.replicate 64 0) 0 0).toArray) (t := 116) ?hr ?_; (case hd => rfl); (case hg => rfl); (case hr => rfl); intro g hg1 w2 hA hq; have HA : Aside0 (Sta w2 g shaFirst (List.replicate 64 0) 0 0) := ⟨⟨rfl, rfl, hA⟩⟩; have HB2 := zA hq; have HG := zA hg1; clear hA hq hg1))
 go_ret
 exact ⟨g, rfl, by have := HB.out.size; have := HG.out; omega, HA.out, Below.trans HB.out (belowTo HB2.out HB.out.size)⟩
section
variable {P : Program} {ops : Array Oper} {rest : List Oper} {o : Oper} {a : Act} {Q : Exit → Act → World → Prop}
theorem load_seg {W : World} (hgd : o.guard = none) (t : TypeId) (p : Operand) (ho : o.op = .load t p) {g j : Nat} {e : TypeId} {cs : Array Value} {d : TypeDesc} (seg : List Value) (haddr : a.eval p = .pointer (some ⟨g, j, none⟩)) (hu : P.underlying t = some d)
    (hd : (match d with | .struct _ | .array _ _ => true | _ => false) = true) (ht : (P.info? t).map (·.size) = some seg.length) (hb : W.heap[g]? = some (.cells cs e (0, 0))) (hs : ∀ i v, seg[i]? = some v → cs[j + i]? = some v)
    (h : wpList P ops Q rest (a.put o.dst (.agg seg.toArray)) W) : wpList P ops Q (o :: rest) a W := by
 have hr := run_load_seg (P := P) W g j e t _ _ seg hb hu hd ht hs
 refine Kd.event_run hgd ?_ h
 unfold execOp
 simp only [ho, haddr, Sem.run_bind, Sem.run_pure, Result.andThen_ok, hr]
end
theorem stCells_len {hs blk : List Int} {hv n : Int} (h8 : hs.length = 8) (h64 : blk.length = 64) : (stCells hs blk hv n).length = 74 := by
 simp [stCells, h8, h64]
theorem Sta.load {W : World} {g : Nat} {hs blk : List Int} {hv n : Int} (h : Sta W g hs blk hv n) {P : Program} {ops : Array Oper} {rest : List Oper} {o : Oper} {a : Act} {Q : Exit → Act → World → Prop} (hgd : o.guard = none) (t : TypeId) (p : Operand) (ho : o.op = .load t p) {d : TypeDesc} (haddr : a.eval p = .pointer (some ⟨g, 0, none⟩)) (hu : P.underlying t = some d)
    (hd : (match d with | .struct _ | .array _ _ => true | _ => false) = true) (ht : (P.info? t).map (·.size) = some 74)
    (hk : wpList P ops Q rest (a.put o.dst (.agg (stCells hs blk hv n).toArray)) W) : wpList P ops Q (o :: rest) a W :=
 load_seg hgd t p ho (stCells hs blk hv n) haddr hu hd (by rw [ht, stCells_len h.h8 h.b64]) h.row (fun i v hv => by rw [Nat.zero_add, List.getElem?_toArray]; exact hv) hk
theorem Sta.store {W : World} {g : Nat} {hs0 blk0 : List Int} {hv0 n0 : Int} (h : Sta W g hs0 blk0 hv0 n0) {hs blk : List Int} {hv n : Int} (h8 : hs.length = 8) (h64 : blk.length = 64) {P : Program} {ops : Array Oper} {rest : List Oper} {o : Oper} {a : Act} {Q : Exit → Act → World → Prop} (hgd : o.guard = none) (hN : o.dst = none) (t : TypeId) (p x : Operand) (ho : o.op = .store t p x) (haddr : a.eval p = .pointer (some ⟨g, 0, none⟩)) (hx : a.eval x = .agg (stCells hs blk hv n).toArray) (ht : (P.info? t).map (·.size) = some 74)
    (hk : ∀ w1, Sta w1 g hs blk hv n → W.grownBy w1 (some g) → wpList P ops Q rest a w1) : wpList P ops Q (o :: rest) a W := by
 obtain ⟨cur', h3, h4, h5⟩ := setCells_row (stCells hs blk hv n) 0 W _ h.row (by simp only [List.size_toArray, stCells_len h8 h64, stCells_len h.h8 h.b64]; omega)
 have h6 : cur' = (stCells hs blk hv n).toArray := by
  apply Array.toList_inj.1
  rw [h5]
  simp [stCells_len h8 h64, stCells_len h.h8 h.b64]
 subst h6
 exact store_seg hgd hN t p x ho (stCells hs blk hv n) haddr hx (by simp [Value.cells]) (by rw [ht, stCells_len h8 h64]) (by
  intro q hq
  unfold stCells at hq
  simp only [List.mem_append, List.mem_map, List.mem_cons, List.mem_nil_iff, or_false] at hq
  rcases hq with ⟨z, _, rfl⟩ | ⟨z, _, rfl⟩ | rfl | rfl <;> rfl) h.row (by simp only [List.size_toArray, stCells_len h8 h64, stCells_len h.h8 h.b64]; omega) h3 (fun w1 hw hg => hk w1 ⟨h8, h64, hw⟩ hg)
set_option maxHeartbeats 8000000 in
set_option maxRecDepth 100000 in
theorem sha_Copy.calls (g : Nat) (hs blk : List Int) (hv n : Int) (w : World) (hS : Sta w g hs blk hv n) : Calls Try.prog 75 #[.pointer (some ⟨g, 0, none⟩)] w fun e w' => ∃ g' : Nat, e = .returned (.pointer (some ⟨g', 0, none⟩)) ∧ w.heap.size ≤ g' ∧ Sta w' g' hs blk hv n ∧ Below w.heap.size w w' := by
 have HS := zA hS
 clear hS
 go_enter Try.func75, Try.ntmps75
 go_wp2_with (first
  | ((with_reducible refine gate_dst (N := 8) rfl ?_); refine HS.out.load rfl 116 (.tmp 7) rfl rfl Try.underlying116 rfl (by kernel_rfl) ?_)
  | ((with_reducible refine gate_dst (N := 3) rfl ?_); refine box_event ?hg (N := 3) ?hd (cs := (stCells (List.replicate 8 0) (List.replicate 64 0) 0 0).toArray) (t := 116) ?hr ?_; (case hd => rfl); (case hg => rfl); (case hr => first | (go_simp; done) | (go_simp; rfl) | rfl); intro g1 hg1 w2 hA hq; have HA : Aside0 (Sta w2 g1 (List.replicate 8 0) (List.replicate 64 0) 0 0) := ⟨⟨rfl, rfl, hA⟩⟩; have HB := zA hq; have HG := zA hg1; clear hA hq hg1)
  | ((with_reducible refine gate_store (t := 116) (p := 3) (v := .tmp 8) rfl ?_); refine HA.out.store HS.out.h8 HS.out.b64 rfl rfl 116 (.tmp 3) (.tmp 8) rfl rfl rfl (by kernel_rfl) ?_; intro w3 hA hg; have HA2 := zA hA; have HB2 := zA (belowBy HB.out hg HB.out.size (fun k hk => by have := HG.out; have := Option.some.inj hk; omega)); clear hA hg))
 go_ret
 exact ⟨g1, rfl, by have := HG.out; omega, HA2.out, HB2.out⟩
section
variable {P : Program} {ops : Array Oper} {Q : Exit → Act → World → Prop} {md : Region.Mode} {S : World → Prop} {ds : List Nat}
theorem inv_ (J : Nat → Array Bool → Act → World → Prop) {fuel : Nat}
    (step : ∀ f l a w, J (f + 1) l a w → S w → ∃ rs, Region.ready md ops l = rs ∧ rs ≠ [] ∧ ∀ i ∈ rs, ∃ o, ops[i]? = some o ∧ i ∉ ds ∧ ∀ K : Act → World → Prop, (∀ a' w', S w' → J f (l.setIfInBounds i true) a' w' → K a' w') → if Region.wanted o (yielded ops a.tmps) = true then Oper.wp P o a w K Q else K (a.put o.dst undef) w)
    (fin : ∀ l a w, J 0 l a w → S w → wpAnyLast P md ops Q S ds fuel l a w) : ∀ f l a w, J f l a w → S w → wpAnyLast P md ops Q S ds (fuel + f) l a w
 | 0, l, a, w, h, hS => fin l a w h hS
 | f + 1, l, a, w, h, hS => by
  obtain ⟨rs, h1, h2, h3⟩ := step f l a w h hS
  refine wpAnyLast_ready h1 h2 (fun i hi => ?_)
  obtain ⟨o, ho, hd, hk⟩ := h3 i hi
  refine wpOp_step ho (fun K' hK => hk K' (fun a' w' hS' hJ => hK a' w' ⟨fun _ _ => hS', ?_⟩))
  exact inv_ J step fin f _ a' w' hJ hS'
theorem alloc_ {oi : Oper} {N : Option Tmp} {a : Act} {w : World} {cs : Array Value} {t : TypeId} {K : Act → World → Prop} (hw : Region.wanted oi (yielded ops a.tmps) = true) (hN : oi.dst = N) (hrun : (execOp a.eval oi).run P w = .ok (.value (.pointer (some ⟨w.heap.size, 0, none⟩))) (w.alloc (.cells cs t (0, 0))))
    (h : ∀ g, g = w.heap.size → ∀ w1, w1.heap[g]? = some (.cells cs t (0, 0)) → Below w.heap.size w w1 → K (a.put N (.pointer (some ⟨g, 0, none⟩))) w1) : if Region.wanted oi (yielded ops a.tmps) = true then Oper.wp P oi a w K Q else K (a.put N undef) w :=
 value_ hw hN hrun (h _ rfl _ (blk_new w _) (zb3 (Below.refl _ _) _))
theorem copy_ {o : Oper} {N : Option Tmp} {a : Act} {w : World} {K : Act → World → Prop} (hw : Region.wanted o (yielded ops a.tmps) = true) (hN : o.dst = N) (d s : Operand) (dT sT : TypeId) (ho : o.op = .call { callee := .builtin .copy, args := #[d, s], argTypes := #[dT, sT] }) (elem : TypeId) (hu : P.underlying dT = some (.slice elem)) (hsz : (P.info? elem).map (·.size) = some 1)
    (g off dLen dCap : Nat) (ad : Addr) (sLen sCap : Nat) (hd : a.eval d = .slice (some ⟨g, off, none⟩) dLen dCap) (hs : a.eval s = .slice (some ad) sLen sCap)
    (cur : List Value) (t : TypeId) (hg : w.heap[g]? = some (.cells cur.toArray t (0, 0))) (cs : List Value) (hn : cs.length = Nat.min sLen dLen)
    (hsrc : ∀ j v, cs[j]? = some v → w.cell? (ad.add j) = some v) (hfit : off + cs.length ≤ cur.length) (h1 : ∀ v ∈ cs, v.oneCell' = true)
    (h : ∀ w1, w1.heap[g]? = some (.cells (cur.take off ++ cs ++ cur.drop (off + cs.length)).toArray t (0, 0)) → w.grownBy w1 (some g) → K (a.put N (goInt cs.length)) w1) : if Region.wanted o (yielded ops a.tmps) = true then Oper.wp P o a w K Q else K (a.put N undef) w := by
 have hrun := run_copy_row (P := P) w dT sT o.type elem g off dLen dCap ad sLen sCap cur.toArray t cs hu hsz hg hn hsrc (by simpa using hfit) h1
 refine value_ hw hN (v := goInt cs.length) (w1 := w.setRow g (cur.take off ++ cs ++ cur.drop (off + cs.length)).toArray) ?_ (h _ (setRow_heap w g _ _ t _ hg) ⟨rfl, rfl, rfl, by simp [World.setRow], fun k _ hne => setRow_other w g k _ (fun e => hne (by rw [e]))⟩)
 simp [execOp, ho, resolve, invoke, builtin, hd, hs, hrun, Result.andThen]
end
theorem run_load_of {P : Program} {W : World} {o : Oper} {a : Act} (t : TypeId) (p : Operand) (ho : o.op = .load t p) {x v : Value} (hx : a.eval p = x) (hr : (Instr.loadAt t x).run P W = .ok v W) : (execOp a.eval o).run P W = .ok (.value v) W := by
 unfold execOp
 simp only [ho, hx, Sem.run_bind, Sem.run_pure, Result.andThen_ok, hr]
theorem Sta.run_h {P : Program} {w : World} {g : Nat} {hs blk : List Int} {hv n : Int} (h : Sta w g hs blk hv n) (t : TypeId) {d : TypeDesc} (hu : P.underlying t = some d) (hd : (match d with | .struct _ | .array _ _ => true | _ => false) = true) (ht : (P.info? t).map (·.size) = some 8) :
    (Instr.loadAt t (.pointer (some ⟨g, 0, none⟩))).run P w = .ok (.agg (hs.map (Value.int .u32)).toArray) w :=
 run_load_seg w g 0 116 t _ d (hs.map (Value.int .u32)) h.row hu hd (by rw [ht, List.length_map, h.h8]) (fun j v hv => by
  have hl : j < (hs.map (Value.int .u32)).length := by
   rcases Nat.lt_or_ge j (hs.map (Value.int .u32)).length with h1 | h1
   ·exact h1
   ·rw [List.getElem?_eq_none h1] at hv; cases hv
  rw [Nat.zero_add, List.getElem?_toArray, stCells, List.getElem?_append_left hl]
  exact hv)
theorem Sta.run_b {P : Program} {w : World} {g : Nat} {hs blk : List Int} {hv n : Int} (h : Sta w g hs blk hv n) (t : TypeId) {d : TypeDesc} (hu : P.underlying t = some d) (hd : (match d with | .struct _ | .array _ _ => true | _ => false) = true) (ht : (P.info? t).map (·.size) = some 64) :
    (Instr.loadAt t (.pointer (some ⟨g, 8, none⟩))).run P w = .ok (.agg (blk.map (Value.int .u8)).toArray) w :=
 run_load_seg w g 8 116 t _ d (blk.map (Value.int .u8)) h.row hu hd (by rw [ht, List.length_map, h.b64]) (fun j v hv => by
  have hl : j < (blk.map (Value.int .u8)).length := by
   rcases Nat.lt_or_ge j (blk.map (Value.int .u8)).length with h1 | h1
   ·exact h1
   ·rw [List.getElem?_eq_none h1] at hv; cases hv
  rw [List.getElem?_toArray, stCells, List.getElem?_append_right (by simp [h.h8]), List.getElem?_append_left (by simpa [h.h8] using hl), List.length_map, h.h8, show 8 + j - 8 = j by omega]
  exact hv)
section
variable {P : Program} {ops : Array Oper} {Q : Exit → Act → World → Prop}
theorem store_row_ {o : Oper} {a : Act} {W : World} {K : Act → World → Prop} (hw : Region.wanted o (yielded ops a.tmps) = true) (hN : o.dst = none) (t : TypeId) (p x : Operand) (ho : o.op = .store t p x) {g : Nat} {e : TypeId} {k : IntKind} {xs ys : List Int} (haddr : a.eval p = .pointer (some ⟨g, 0, none⟩)) (hx : a.eval x = .agg (ys.map (Value.int k)).toArray) (ht : (P.info? t).map (·.size) = some ys.length)
    (hb : Arr W g e k xs) (hj : ys.length = xs.length) (h : ∀ w1, Arr w1 g e k ys → W.grownBy w1 (some g) → K a w1) : if Region.wanted o (yielded ops a.tmps) = true then Oper.wp P o a W K Q else K (a.put none undef) W := by
 obtain ⟨cur', h3, h4, h5⟩ := setCells_row (ys.map (Value.int k)) 0 W _ hb (by simp; omega)
 have h6 : cur' = (ys.map (Value.int k)).toArray := by
  apply Array.toList_inj.1
  rw [h5]
  simp [hj]
 subst h6
 have hrun : (Instr.storeAt t (.pointer (some ⟨g, 0, none⟩)) (.agg (ys.map (Value.int k)).toArray)).run P W = .ok () (W.setCells g 0 (ys.map (Value.int k))) :=
  run_store_run t _ (ys.map (Value.int k)) hb (by simp [Value.cells]) (by rw [ht]; simp) (by simp; omega) (by intro q hq; obtain ⟨z, _, rfl⟩ := List.mem_map.1 hq; rfl)
 refine skip_ hw hN ?_ (h _ h3 (grown_cells W g 0 _))
 unfold execOp
 simp only [ho, haddr, hx, Sem.run_bind, Sem.run_pure, Result.andThen_ok, hrun]
end
theorem copy_src {w : World} {g : Nat} {e : TypeId} {k : IntKind} {V : List Int} (h : Arr w g e k V) {n : Nat} (hn : V.length = n + 1) (j : Nat) (v : Value) (hj : ((V.take n).map (Value.int k))[j]? = some v) : w.cell? ((⟨g, 0, none⟩ : Addr).add j) = some v := by
 have hl : j < n := by
  rcases Nat.lt_or_ge j n with h1 | h1
  ·exact h1
  ·rw [List.getElem?_eq_none (by rw [List.length_map, List.length_take]; omega)] at hj; cases hj
 have ha : (⟨g, 0, none⟩ : Addr).add j = ⟨g, j, none⟩ := by unfold Addr.add; split <;> simp_all
 rw [ha, h.cell j (by omega), ← hj, List.getElem?_map, List.getElem?_take, if_pos hl, List.getElem?_eq_getElem (by omega), List.getD_eq_getElem?_getD, List.getElem?_eq_getElem (by omega)]
 rfl
theorem copy_row {w : World} {g : Nat} {e : TypeId} {k : IntKind} {V : List Int} (hl : V.length = 8) (h : w.heap[g]? = some (.cells ((V.map (Value.int k)).take 1 ++ (V.take 7).map (Value.int k) ++ (V.map (Value.int k)).drop (1 + ((V.take 7).map (Value.int k)).length)).toArray e (0, 0))) : Arr w g e k (V.take 1 ++ V.take 7) := by
 unfold Arr
 rw [h, List.length_map, List.length_take, hl, List.drop_eq_nil_of_le (by rw [List.length_map, hl]; omega), List.append_nil, List.map_append, List.map_take, List.map_take]
theorem grown_trans {w W W1 : World} {r : Option Nat} (h : w.grownBy W r) (hg : W.grownBy W1 r) : w.grownBy W1 r :=
 ⟨hg.os.trans h.os, hg.tape.trans h.tape, hg.output.trans h.output, Nat.le_trans h.size hg.size, fun k hk hne => (hg.block k (Nat.lt_of_lt_of_le hk h.size) hne).trans (h.block k hk hne)⟩
theorem grown_below {w W : World} (h : Below w.heap.size w W) (r : Option Nat) : w.grownBy W r := ⟨h.os, h.tape, h.output, h.size, fun k hk _ => h.block k hk⟩
theorem grown_to_drew {w W : World} {r : Option Nat} (h : w.grownBy W r) : w.grownBy W.drew r := ⟨h.os, h.tape, h.output, h.size, h.block⟩
theorem grown_drew {W W0 W1 : World} {r : Option Nat} (hg : W0.grownBy W1 r) (h1 : W0.heap = W.heap) (h2 : W0.os = W.os) (h3 : W0.tape = W.tape) (h4 : W0.output = W.output) : W.grownBy W1 r :=
 ⟨hg.os.trans h2, hg.tape.trans h3, hg.output.trans h4, by rw [← h1]; exact hg.size, fun k hk hne => (hg.block k (by rw [h1]; exact hk) hne).trans (by rw [h1])⟩
theorem Sta.store_have {W : World} {g : Nat} {hs blk : List Int} {hv n : Int} (h : Sta W g hs blk hv n) {P : Program} {ops : Array Oper} {rest : List Oper} {o : Oper} {a : Act} {Q : Exit → Act → World → Prop} (hgd : o.guard = none) (hN : o.dst = none) (t : TypeId) (p x : Operand) (ho : o.op = .store t p x) {u : Int} (haddr : a.eval p = .pointer (some ⟨g, 72, none⟩)) (hx : a.eval x = .int .i64 u) (ht : (P.info? t).map (·.size) = some 1)
    (hk : ∀ w1, Sta w1 g hs blk u n → W.grownBy w1 (some g) → wpList P ops Q rest a w1) : wpList P ops Q (o :: rest) a W :=
 store_seg hgd hN t p x ho [.int .i64 u] haddr hx rfl ht (by simp [Value.oneCell']) h.row (by simp only [List.size_toArray, stCells_len h.h8 h.b64, List.length_cons, List.length_nil]; omega) (h.put_have u).row (fun w1 hw hg => hk w1 ⟨h.h8, h.b64, hw⟩ hg)
theorem Sta.store_n {W : World} {g : Nat} {hs blk : List Int} {hv n : Int} (h : Sta W g hs blk hv n) {P : Program} {ops : Array Oper} {rest : List Oper} {o : Oper} {a : Act} {Q : Exit → Act → World → Prop} (hgd : o.guard = none) (hN : o.dst = none) (t : TypeId) (p x : Operand) (ho : o.op = .store t p x) {u : Int} (haddr : a.eval p = .pointer (some ⟨g, 73, none⟩)) (hx : a.eval x = .int .i64 u) (ht : (P.info? t).map (·.size) = some 1)
    (hk : ∀ w1, Sta w1 g hs blk hv u → W.grownBy w1 (some g) → wpList P ops Q rest a w1) : wpList P ops Q (o :: rest) a W :=
 store_seg hgd hN t p x ho [.int .i64 u] haddr hx rfl ht (by simp [Value.oneCell']) h.row (by simp only [List.size_toArray, stCells_len h.h8 h.b64, List.length_cons, List.length_nil]; omega) (h.put_n u).row (fun w1 hw hg => hk w1 ⟨h.h8, h.b64, hw⟩ hg)
theorem run_index_arr {P : Program} (w : World) (t e n : Nat) {kk : IntKind} (xs : List Int) (i : Nat) (h : P.underlying t = some (.array n e)) {d : TypeDesc} (hu : P.underlying e = some d) (hd : (match d with | .struct _ | .array _ _ => false | _ => true) = true) (hs : (P.info? e).map (·.size) = some 1) (hl : xs.length = n) (hi : i < n) :
    (Instr.index t (.agg (xs.map (Value.int kk)).toArray) (.int .i64 (i : Int))).run P w = .ok (.int kk (xs[i]?.getD 0)) w := by
 have hp : (0 : Int) ≤ (i : Int) ∧ (i : Int) < (n : Int) := by omega
 have hc : (xs.map (Value.int kk)).toArray[i]? = some (.int kk (xs[i]?.getD 0)) := by
  rw [List.getElem?_toArray, List.getElem?_map, List.getElem?_eq_getElem (by omega)]
  rfl
 have hagg : (isAgg e).run P w = .ok false w := by
  unfold isAgg
  rw [Sem.run_bind, run_underlying hu w]
  cases d <;> simp_all
 cases hq : P.info? e with
 | none => simp [hq] at hs
 | some y =>
  have hy : y.size = 1 := by simpa [hq] using hs
  have hgi : xs[i]? = some (xs[i]'(by omega)) := List.getElem?_eq_getElem (by omega)
  simp [Instr.index, run_underlying h, asIntOf, hp, go_sem, sizeOf, typeInfo, hq, hy, hagg, hi, hgi]
theorem index_arr {P : Program} {ops : Array Oper} {rest : List Oper} {o : Oper} {a : Act} {Q : Exit → Act → World → Prop} {W : World} (hgd : o.guard = none) (t e n : Nat) (x j : Operand) (ho : o.op = .index t x j) {kk : IntKind} (xs : List Int) (i : Nat) (hx : a.eval x = .agg (xs.map (Value.int kk)).toArray) (hj : a.eval j = .int .i64 (i : Int)) (h : P.underlying t = some (.array n e)) {d : TypeDesc} (hu : P.underlying e = some d) (hd : (match d with | .struct _ | .array _ _ => false | _ => true) = true) (hs : (P.info? e).map (·.size) = some 1) (hl : xs.length = n) (hi : i < n)
    (hk : wpList P ops Q rest (a.put o.dst (.int kk (xs[i]?.getD 0))) W) : wpList P ops Q (o :: rest) a W := by
 have hr := run_index_arr (P := P) W t e n (kk := kk) xs i h hu hd hs hl hi
 refine Kd.event_run hgd ?_ hk
 unfold execOp
 simp only [ho, hx, hj, Sem.run_bind, Sem.run_pure, Result.andThen_ok, hr]
section
variable {P : Program} {ops : Array Oper} {Q : Exit → Act → World → Prop}
end
def shX (V : List Int) (k w : Int) : Int :=
 IntKind.u32.wrap (IntKind.u32.wrap (IntKind.u32.wrap (IntKind.u32.wrap (V[7]?.getD 0 + Go.bits .xor .u32 (Go.bits .xor .u32 (tu (V[4]?.getD 0) 6) (tu (V[4]?.getD 0) 11)) (tu (V[4]?.getD 0) 25))
  + Go.bits .xor .u32 (Go.bits .and .u32 (V[4]?.getD 0) (V[5]?.getD 0)) (Go.bits .and .u32 (Go.bits .xor .u32 (if IntKind.u32.signed = true then -1 else IntKind.u32.max) (V[4]?.getD 0)) (V[6]?.getD 0))) + k) + w)
def shY (V : List Int) : Int :=
 IntKind.u32.wrap (Go.bits .xor .u32 (Go.bits .xor .u32 (tu (V[0]?.getD 0) 2) (tu (V[0]?.getD 0) 13)) (tu (V[0]?.getD 0) 22)
  + Go.bits .xor .u32 (Go.bits .xor .u32 (Go.bits .and .u32 (V[0]?.getD 0) (V[1]?.getD 0)) (Go.bits .and .u32 (V[0]?.getD 0) (V[2]?.getD 0))) (Go.bits .and .u32 (V[1]?.getD 0) (V[2]?.getD 0)))
def shTurn (V : List Int) : List Int := V.take 1 ++ V.take 7
def shPut (U : List Int) (X Y : Int) : List Int := (U.set 0 (IntKind.u32.wrap (X + Y))).set 4 (IntKind.u32.wrap (U[4]?.getD 0 + X))
def shStep (V : List Int) (k w : Int) : List Int := shPut (shTurn V) (shX V k w) (shY V)
def shV (hs W : List Int) : Nat → List Int
 | 0 => hs
 | t + 1 => shStep (shV hs W t) (shaKs[t]?.getD 0) (W[t]?.getD 0)
def shAdd (hs V : List Int) : Nat → List Int
 | 0 => hs
 | i + 1 => (shAdd hs V i).set i (IntKind.u32.wrap ((shAdd hs V i)[i]?.getD 0 + V[i]?.getD 0))
def shTake (hs blk : List Int) : List Int := shAdd hs (shV hs (shaWords blk) 64) 8
theorem shTurn_len (V : List Int) (h : V.length = 8) : (shTurn V).length = 8 := by simp [shTurn, h]
theorem shPut_len (U : List Int) (X Y : Int) : (shPut U X Y).length = U.length := by simp [shPut]
theorem shV_len (hs W : List Int) (h : hs.length = 8) (t : Nat) : (shV hs W t).length = 8 := by
 induction t with
 | zero => exact h
 | succ t ih => rw [shV, shStep, shPut_len, shTurn_len _ ih]
theorem shAdd_len (hs V : List Int) (i : Nat) : (shAdd hs V i).length = hs.length := by
 induction i with
 | zero => rfl
 | succ i ih => rw [shAdd, List.length_set, ih]
theorem shTake_len (hs blk : List Int) (h : hs.length = 8) : (shTake hs blk).length = 8 := by rw [shTake, shAdd_len, h]
theorem shaWords_len (b : List Int) : (shaWords b).length = 64 := wN_len b 48
def takeAct (g : Nat) (hs blk : List Int) (x2 x3 x4 x16 x17 : Value) : Act := { tmps := #[.pointer (some ⟨g, 0, none⟩), undef, x2, x3, x4, undef, undef, undef, undef, undef, undef, undef, .pointer (some ⟨g, 0, none⟩), .pointer (some ⟨g, 0, none⟩), .pointer (some ⟨g, 8, none⟩), .agg (blk.map (Value.int .u8)).toArray, x16, x17, .pointer (some ⟨g, 0, none⟩), .pointer (some ⟨g, 0, none⟩), .pointer (some ⟨g, 0, none⟩), .agg (hs.map (Value.int .u32)).toArray, undef, undef, undef, undef, undef, undef, undef, undef, undef, undef, undef, undef, undef, undef, undef, undef, undef, undef, undef, undef, undef, undef, undef, undef, undef, undef, undef, undef, undef, undef, undef, undef, undef, undef, undef, undef, undef, undef, undef, undef, undef, undef, undef, undef, undef, undef, undef, undef, undef, undef, undef, undef, undef, undef, undef, undef, undef, undef, undef, undef, undef, undef, undef, undef, undef, undef, undef, undef, undef, undef, undef, undef, undef, undef, undef, undef, undef, undef, undef, undef, undef, undef, undef, undef, undef, undef, undef, undef, undef, undef, undef, undef, undef, undef], defers := [] }
def takeL (c1 c2 b2 b3 b4 : Bool) : Array Bool := #[true, true, true, true, c1, c2, true, true, true, true, b2, b3, b4, false, false, false]
def takeRs (c1 c2 b2 b3 b4 : Bool) : List Nat := (if c1 then (if c2 then [] else [5]) else [4]) ++ ((if b2 then [] else [10]) ++ ((if b3 then [] else [11]) ++ (if b4 then [] else [12])))
theorem take_ready : ∀ c1 c2 b2 b3 b4 : Bool, (!c2 || c1) = true → (c2 && b2 && b3 && b4) = false → Region.ready .any (opsOf Try.f74 0) (takeL c1 c2 b2 b3 b4) = takeRs c1 c2 b2 b3 b4 := by decide +kernel
theorem takeRs_mem : ∀ (c1 c2 b2 b3 b4 : Bool) (i : Nat), i ∈ takeRs c1 c2 b2 b3 b4 → (i = 4 ∧ c1 = false) ∨ (i = 5 ∧ c1 = true ∧ c2 = false) ∨ (i = 10 ∧ b2 = false) ∨ (i = 11 ∧ b3 = false) ∨ (i = 12 ∧ b4 = false) := by
 intro c1 c2 b2 b3 b4 i hi
 cases c1 <;> cases c2 <;> cases b2 <;> cases b3 <;> cases b4 <;> simp [takeRs] at hi ⊢ <;> omega
theorem takeRs_ne : ∀ c1 c2 b2 b3 b4 : Bool, (c2 && b2 && b3 && b4) = false → takeRs c1 c2 b2 b3 b4 ≠ [] := by decide
def takeJ (g : Nat) (hs blk : List Int) (w : World) (f : Nat) (l : Array Bool) (a : Act) (w' : World) : Prop :=
 ∃ (c1 c2 b2 b3 b4 : Bool) (x2 x3 x4 x16 x17 : Value) (g2 g3 g4 : Nat), (!c2 || c1) = true ∧ f = (!c1).toNat + (!c2).toNat + (!b2).toNat + (!b3).toNat + (!b4).toNat ∧ l = takeL c1 c2 b2 b3 b4 ∧ a = takeAct g hs blk x2 x3 x4 x16 x17 ∧
  (b2 = true → x2 = .pointer (some ⟨g2, 0, none⟩) ∧ w.heap.size ≤ g2 ∧ Arr w' g2 119 .u32 (List.replicate 64 0)) ∧ (b3 = true → x3 = .pointer (some ⟨g3, 0, none⟩) ∧ w.heap.size ≤ g3 ∧ Arr w' g3 119 .u32 (List.replicate 64 0)) ∧ (b4 = true → x4 = .pointer (some ⟨g4, 0, none⟩) ∧ w.heap.size ≤ g4 ∧ Arr w' g4 112 .u32 (List.replicate 8 0)) ∧
  (b2 = true → b3 = true → g2 ≠ g3) ∧ (b2 = true → b4 = true → g2 ≠ g4) ∧ (b3 = true → b4 = true → g3 ≠ g4) ∧ (c1 = true → x16 = .agg ((shaWords blk).map (Value.int .u32)).toArray) ∧ (c2 = true → x17 = .agg (shaKs.map (Value.int .u32)).toArray) ∧ Below w.heap.size w w'
def sha_take.T0 : Bool × List (List Nat × List Nat) := (true, [([], []), ([0], [0]), ([1], [1]), ([2], [2]), ([3], [3]), ([4], []), ([], []), ([6], [6]), ([7], [7]), ([8], [8]), ([], []), ([], []), ([], []), ([10, 4, 5, 0, 1, 2, 3, 4, 10, 11, 12], [4, 10]), ([11, 5, 13, 0, 1, 2, 3, 4, 5, 10, 11, 12, 13], [5, 11]), ([12, 9, 14, 0, 1, 2, 3, 4, 5, 6, 7, 8, 9, 10, 11, 12, 13, 14], [9, 12])])
def sha_take.B0 : List Nat := [0, 1, 3, 7, 15, 31, 0, 64, 192, 448, 0, 0, 0, 7231, 15423, 32767]
theorem sha_take.tab0 : rtab .any (opsOf Try.f74 0) = sha_take.T0 := by kernel_rfl
theorem sha_take.bits0 : waitsOk sha_take.T0.2 sha_take.B0 = true := by kernel_rfl
def sha_take.T4 : Bool × List (List Nat × List Nat) := (true, [([], []), ([0], [0]), ([], []), ([2], [2]), ([1, 0, 1], [1]), ([3, 4, 0, 1, 2, 3, 4], [3])])
def sha_take.B4 : List Nat := [0, 1, 0, 4, 3, 31]
theorem sha_take.tab4 : rtab .any (opsOf Try.f74 4) = sha_take.T4 := by kernel_rfl
theorem sha_take.bits4 : waitsOk sha_take.T4.2 sha_take.B4 = true := by kernel_rfl
def sha_take.T5 : Bool × List (List Nat × List Nat) := (true, [([], []), ([0], [0]), ([], []), ([2], [2]), ([], []), ([4, 3], [4]), ([3, 5], [3, 5]), ([], []), ([7, 5], [7]), ([6, 8], [6, 8]), ([1, 9], [1, 9]), ([], []), ([], []), ([12], [12]), ([11, 13], [11, 13]), ([], []), ([15], [15]), ([], []), ([17], [17]), ([16, 18], [16, 18]), ([14, 19], [14, 19]), ([10, 20], [10, 20]), ([], []), ([22], [22]), ([23], [23]), ([21, 24], [21, 24]), ([], []), ([26], [26]), ([27], [27]), ([25, 28], [25, 28]), ([29, 8, 0, 1, 2, 3, 4, 5, 6, 7, 8, 9, 10, 11, 12, 13, 14, 15, 16, 17, 18, 19, 20, 21, 22, 23, 24, 25, 26, 27, 28, 29], [29])])
def sha_take.B5 : List Nat := [0, 1, 0, 4, 0, 28, 60, 0, 188, 508, 1023, 0, 0, 4096, 14336, 0, 32768, 0, 131072, 491520, 1046528, 2097151, 0, 4194304, 12582912, 33554431, 0, 67108864, 201326592, 536870911, 1073741823]
theorem sha_take.tab5 : rtab .any (opsOf Try.f74 5) = sha_take.T5 := by kernel_rfl
theorem sha_take.bits5 : waitsOk sha_take.T5.2 sha_take.B5 = true := by kernel_rfl
def sha_take.T6 : Bool × List (List Nat × List Nat) := (true, [([], []), ([0], [0]), ([], []), ([2, 1], [2]), ([1, 3], [1, 3]), ([], []), ([5, 3], [5]), ([4, 6], [4, 6]), ([], []), ([], []), ([9], [9]), ([8, 10], [8, 10]), ([], []), ([], []), ([13], [13]), ([12, 14], [12, 14]), ([11, 15], [11, 15]), ([], []), ([17], [17]), ([], []), ([19], [19]), ([18, 20], [18, 20]), ([16, 21], [16, 21]), ([7, 22], [7, 22]), ([23, 6, 0, 1, 2, 3, 4, 5, 6, 7, 8, 9, 10, 11, 12, 13, 14, 15, 16, 17, 18, 19, 20, 21, 22, 23], [23])])
def sha_take.B6 : List Nat := [0, 1, 0, 7, 15, 0, 47, 127, 0, 0, 512, 1792, 0, 0, 8192, 28672, 65280, 0, 131072, 0, 524288, 1966080, 4194048, 8388607, 16777215]
theorem sha_take.tab6 : rtab .any (opsOf Try.f74 6) = sha_take.T6 := by kernel_rfl
theorem sha_take.bits6 : waitsOk sha_take.T6.2 sha_take.B6 = true := by kernel_rfl
def sha_take.T7 : Bool × List (List Nat × List Nat) := (true, [([], []), ([], []), ([0, 1], [0, 1])])
def sha_take.B7 : List Nat := [0, 0, 3]
theorem sha_take.tab7 : rtab .any (opsOf Try.f74 7) = sha_take.T7 := by kernel_rfl
theorem sha_take.bits7 : waitsOk sha_take.T7.2 sha_take.B7 = true := by kernel_rfl
def sha_take.T13 : Bool × List (List Nat × List Nat) := (true, [([], []), ([], []), ([0], [0]), ([2], [2]), ([3, 1], [1, 3]), ([4], [4]), ([], []), ([5, 6], [5, 6]), ([0], [0]), ([8], [8]), ([9, 1, 0, 1, 2, 3, 4, 5, 6, 7], [1, 9]), ([10, 7, 0, 1, 2, 3, 4, 5, 6, 7], [7, 10])])
def sha_take.B13 : List Nat := [0, 0, 1, 5, 15, 31, 0, 127, 1, 257, 1023, 2047]
theorem sha_take.tab13 : rtab .any (opsOf Try.f74 13) = sha_take.T13 := by kernel_rfl
theorem sha_take.bits13 : waitsOk sha_take.T13.2 sha_take.B13 = true := by kernel_rfl
set_option maxHeartbeats 8000000 in
set_option maxRecDepth 100000 in
theorem sha_take.calls (g : Nat) (hs blk : List Int) (hv n : Int) (w : World) (hS : Sta w g hs blk hv n) :
    Calls Try.prog 74 #[.pointer (some ⟨g, 0, none⟩)] w fun e w' => e = .returned (.tuple #[]) ∧ Sta w' g (shTake hs blk) blk 0 n ∧ w.grownBy w' (some g) := by
 have HS := zA hS
 clear hS
 go_enter Try.func74, Try.ntmps74
 try go_wp2
 refine start_ (n := 16) (S := fun w' => Sta w' g hs blk hv n) (ds := []) (qq 16 0) (by kernel_rfl) rfl (by kernel_rfl) HS.out.drew (fun hHeld => ?_); refine with_tabW sha_take.tab0 sha_take.bits0 (fun HT_ HW_ => ?_)
 refine ord_ [(0, 0, 1), (0, 1, 3), (0, 2, 7), (0, 6, 71), (0, 7, 199), (0, 8, 455), (1, 3, 463), (2, 9, 975)] ?_
 repeat (first | (refine kk_ 0 ?_; refine oP_ (v := ?_) (a' := ?_) HT_ rfl rfl (by kernel_rfl) (fun _ _ _ h => h) (Or.inl ⟨by rfl, ?_⟩) ?_ ?_; rotate_left; (intro w'; go_simp; with_reducible rfl); rotate_left; (simp only [Act.put, zs1, zs2, zs3, i64_w, i32_w]; rfl)) | (refine kk_ 1 ?_; refine oT_ (v := .agg (blk.map (Value.int .u8)).toArray) (a' := ?_) HT_ HW_ rfl rfl (by kernel_rfl) (fun _ _ _ h => h) (Or.inl ⟨by rfl, ?_⟩) hHeld ?_ ?_; (rintro w' s0; exact run_load_of (x := .pointer (some ⟨g, 8, none⟩)) 114 (.tmp 14) rfl rfl (s0.run_b 114 Try.underlying114 rfl (by kernel_rfl))); rotate_left; (simp only [Act.put, zs1, zs2, zs3, i64_w, i32_w]; rfl)) | (refine kk_ 2 ?_; refine oT_ (v := .agg (hs.map (Value.int .u32)).toArray) (a' := ?_) HT_ HW_ rfl rfl (by kernel_rfl) (fun _ _ _ h => h) (Or.inl ⟨by rfl, ?_⟩) hHeld ?_ ?_; (rintro w' s0; exact run_load_of (x := .pointer (some ⟨g, 0, none⟩)) 112 (.tmp 20) rfl rfl (s0.run_h 112 Try.underlying112 rfl (by kernel_rfl))); rotate_left; (simp only [Act.put, zs1, zs2, zs3, i64_w, i32_w]; rfl)))
 refine oend_ ?_
 refine inv_ (fuel := 3) (takeJ g hs blk w) ?step ?fin 5 _ _ _ ⟨false, false, false, false, false, undef, undef, undef, undef, undef, 0, 0, 0, rfl, rfl, rfl, rfl, by simp, by simp, by simp, by simp, by simp, by simp, by simp, by simp, zb2 (Below.refl _ _)⟩ hHeld
 case step =>
  clear hHeld
  rintro f l a w1 ⟨c1, c2, b2, b3, b4, x2, x3, x4, x16, x17, g2, g3, g4, hc, hf, rfl, rfl, h2, h3, h4, h23, h24, h34, h16, h17, hB⟩ hS
  have hn : (c2 && b2 && b3 && b4) = false := by
   cases c1 <;> cases c2 <;> cases b2 <;> cases b3 <;> cases b4 <;> simp at hf hc ⊢
  refine ⟨takeRs c1 c2 b2 b3 b4, take_ready c1 c2 b2 b3 b4 hc hn, takeRs_ne c1 c2 b2 b3 b4 hn, fun i hi => ?_⟩
  rcases takeRs_mem c1 c2 b2 b3 b4 i hi with ⟨rfl, rfl⟩ | ⟨rfl, rfl, rfl⟩ | ⟨rfl, rfl⟩ | ⟨rfl, rfl⟩ | ⟨rfl, rfl⟩
  ·refine ⟨_, rfl, by simp, fun K hK => ?_⟩
   refine goes_ Try.func77 (by kernel_rfl) rfl #[.agg (blk.map (Value.int .u8)).toArray] (by rfl) rfl rfl (by simp only [zm1, zm2, zm3]; rfl) ?_
   refine (sha_words.calls blk hS.b64 _).mono ?_
   rintro e w2 ⟨rfl, hb⟩
   have hb' := belowTo hb hB.size
   refine ⟨_, rfl, hK _ _ (hS.below hb) ⟨true, c2, b2, b3, b4, x2, x3, x4, _, x17, g2, g3, g4, by simp, by simp at hf ⊢; omega, rfl, rfl, fun h => ⟨(h2 h).1, (h2 h).2.1, (h2 h).2.2.below hb⟩, fun h => ⟨(h3 h).1, (h3 h).2.1, (h3 h).2.2.below hb⟩, fun h => ⟨(h4 h).1, (h4 h).2.1, (h4 h).2.2.below hb⟩, h23, h24, h34, fun _ => rfl, h17, hB.trans hb'⟩⟩
  ·refine ⟨_, rfl, by simp, fun K hK => ?_⟩
   refine goes_ Try.func78 (by kernel_rfl) rfl #[] (by rfl) rfl rfl (by simp) ?_
   refine (sha_factors.calls _).mono ?_
   rintro e w2 ⟨rfl, hb⟩
   have hb' := belowTo hb hB.size
   refine ⟨_, rfl, hK _ _ (hS.below hb) ⟨true, true, b2, b3, b4, x2, x3, x4, x16, _, g2, g3, g4, by simp, by simp at hf ⊢; omega, rfl, rfl, fun h => ⟨(h2 h).1, (h2 h).2.1, (h2 h).2.2.below hb⟩, fun h => ⟨(h3 h).1, (h3 h).2.1, (h3 h).2.2.below hb⟩, fun h => ⟨(h4 h).1, (h4 h).2.1, (h4 h).2.2.below hb⟩, h23, h24, h34, h16, fun _ => rfl, hB.trans hb'⟩⟩
  ·refine ⟨_, rfl, by simp, fun K hK => ?_⟩
   refine alloc_ (cs := ((List.replicate 64 0).map (Value.int .u32)).toArray) (t := 119) (by rfl) rfl (by first | (go_simp; done) | (go_simp; rfl)) ?_
   intro g2' hg w2 hA hb
   have hb' := belowTo hb hB.size
   refine hK _ _ (hS.below hb) ⟨c1, c2, true, b3, b4, _, x3, x4, x16, x17, g2', g3, g4, hc, by simp at hf ⊢; omega, rfl, rfl, fun _ => ⟨rfl, by have := hB.size; omega, hA⟩, fun h => ⟨(h3 h).1, (h3 h).2.1, (h3 h).2.2.below hb⟩, fun h => ⟨(h4 h).1, (h4 h).2.1, (h4 h).2.2.below hb⟩, fun _ h => by have := (h3 h).2.2.lt; omega, fun _ h => by have := (h4 h).2.2.lt; omega, h34, h16, h17, hB.trans hb'⟩
  ·refine ⟨_, rfl, by simp, fun K hK => ?_⟩
   refine alloc_ (cs := ((List.replicate 64 0).map (Value.int .u32)).toArray) (t := 119) (by rfl) rfl (by first | (go_simp; done) | (go_simp; rfl)) ?_
   intro g3' hg w2 hA hb
   have hb' := belowTo hb hB.size
   refine hK _ _ (hS.below hb) ⟨c1, c2, b2, true, b4, x2, _, x4, x16, x17, g2, g3', g4, hc, by simp at hf ⊢; omega, rfl, rfl, fun h => ⟨(h2 h).1, (h2 h).2.1, (h2 h).2.2.below hb⟩, fun _ => ⟨rfl, by have := hB.size; omega, hA⟩, fun h => ⟨(h4 h).1, (h4 h).2.1, (h4 h).2.2.below hb⟩, fun h _ => by have := (h2 h).2.2.lt; omega, h24, fun _ h => by have := (h4 h).2.2.lt; omega, h16, h17, hB.trans hb'⟩
  ·refine ⟨_, rfl, by simp, fun K hK => ?_⟩
   refine alloc_ (cs := ((List.replicate 8 0).map (Value.int .u32)).toArray) (t := 112) (by rfl) rfl (by first | (go_simp; done) | (go_simp; rfl)) ?_
   intro g4' hg w2 hA hb
   have hb' := belowTo hb hB.size
   refine hK _ _ (hS.below hb) ⟨c1, c2, b2, b3, true, x2, x3, _, x16, x17, g2, g3, g4', hc, by simp at hf ⊢; omega, rfl, rfl, fun h => ⟨(h2 h).1, (h2 h).2.1, (h2 h).2.2.below hb⟩, fun h => ⟨(h3 h).1, (h3 h).2.1, (h3 h).2.2.below hb⟩, fun _ => ⟨rfl, by have := hB.size; omega, hA⟩, h23, fun h _ => by have := (h2 h).2.2.lt; omega, fun h _ => by have := (h3 h).2.2.lt; omega, h16, h17, hB.trans hb'⟩
 case fin =>
  clear hHeld
  rintro l a w1 ⟨c1, c2, b2, b3, b4, x2, x3, x4, x16, x17, g2, g3, g4, hc, hf, rfl, rfl, h2, h3, h4, h23, h24, h34, h16, h17, hB⟩ hS
  obtain ⟨rfl, rfl, rfl, rfl, rfl⟩ : c1 = true ∧ c2 = true ∧ b2 = true ∧ b3 = true ∧ b4 = true := by
   cases c1 <;> cases c2 <;> cases b2 <;> cases b3 <;> cases b4 <;> simp at hf ⊢
  obtain ⟨rfl, hg2, hA2⟩ := h2 rfl
  obtain ⟨rfl, hg3, hA3⟩ := h3 rfl
  obtain ⟨rfl, hg4, hA4⟩ := h4 rfl
  obtain rfl := h16 rfl
  obtain rfl := h17 rfl
  have HG := zA (show w.heap.size ≤ g2 ∧ w.heap.size ≤ g3 ∧ w.heap.size ≤ g4 ∧ g2 ≠ g3 ∧ g2 ≠ g4 ∧ g3 ≠ g4 from ⟨hg2, hg3, hg4, h23 rfl rfl, h24 rfl rfl, h34 rfl rfl⟩)
  have HB := zA hB
  have HA2 := zA hA2
  have HA3 := zA hA3
  have HA4 := zA hA4
  obtain ⟨WV, hWV⟩ : ∃ WV, shaWords blk = WV := ⟨_, rfl⟩
  have HWL := zA (show WV.length = 64 by rw [← hWV]; exact shaWords_len blk)
  rw [hWV]
  have HWV := zA hWV
  clear hWV
  have HL := zA hS.h8
  have HN := zA HS.out.lt
  clear hc hf h2 h3 h4 h23 h24 h34 h16 h17 hg2 hg3 hg4 hB hA2 hA3 hA4
  dsimp only [takeL, takeAct]
  refine one_ (i := 13) (N := none) (qq 16 16383) rfl rfl ?_ (by decide) ?_
  ·exact one_of HT_.out (by kernel_rfl)
  intro K hK
  refine store_row_ (by rfl) rfl 119 (.tmp 2) (.tmp 16) rfl (ys := WV) (by rfl) (by rfl) (by rw [HWL.out]; kernel_rfl) HA2.out (by rw [HWL.out]; rfl) ?_
  intro w2 hA hg
  replace HA2 := zA hA
  replace HA3 := zA (HA3.out.grown hg (fun h => (Ne.symm HG.out.2.2.2.1) (Option.some.inj h)))
  replace HA4 := zA (HA4.out.grown hg (fun h => (Ne.symm HG.out.2.2.2.2.1) (Option.some.inj h)))
  replace HB := zA (belowBy HB.out hg HB.out.size (fun k hk => by have := HG.out; have := Option.some.inj hk; omega))
  refine hK.out _ _ (hS.grown hg (fun h => by have := HN.out; have := HG.out; have := Option.some.inj h; omega)) (fun hS => ?_)
  clear hK K hA hg
  refine one_ (i := 14) (N := none) (qq 16 32767) rfl rfl ?_ (by decide) ?_
  ·exact one_of HT_.out (by kernel_rfl)
  intro K hK
  refine store_row_ (by rfl) rfl 119 (.tmp 3) (.tmp 17) rfl (ys := shaKs) (by rfl) (by rfl) (by kernel_rfl) HA3.out (by rfl) ?_
  intro w2 hA hg
  replace HA3 := zA hA
  replace HA2 := zA (HA2.out.grown hg (fun h => HG.out.2.2.2.1 (Option.some.inj h)))
  replace HA4 := zA (HA4.out.grown hg (fun h => (Ne.symm HG.out.2.2.2.2.2) (Option.some.inj h)))
  replace HB := zA (belowBy HB.out hg HB.out.size (fun k hk => by have := HG.out; have := Option.some.inj hk; omega))
  refine hK.out _ _ (hS.grown hg (fun h => by have := HN.out; have := HG.out; have := Option.some.inj h; omega)) (fun hS => ?_)
  clear hK K hA hg
  refine one_ (i := 15) (N := none) (qq 16 65535) rfl rfl ?_ (by decide) ?_
  ·exact one_of HT_.out (by kernel_rfl)
  intro K hK
  refine store_row_ (by rfl) rfl 112 (.tmp 4) (.tmp 21) rfl (ys := hs) (by rfl) (by rfl) (by rw [HL.out]; kernel_rfl) HA4.out (by rw [HL.out]; rfl) ?_
  intro w2 hA hg
  replace HA4 := zA hA
  replace HA2 := zA (HA2.out.grown hg (fun h => HG.out.2.2.2.2.1 (Option.some.inj h)))
  replace HA3 := zA (HA3.out.grown hg (fun h => HG.out.2.2.2.2.2 (Option.some.inj h)))
  replace HB := zA (belowBy HB.out hg HB.out.size (fun k hk => by have := HG.out; have := Option.some.inj hk; omega))
  refine hK.out _ _ (hS.grown hg (fun h => by have := HN.out; have := HG.out; have := Option.some.inj h; omega)) (fun hS => ?_)
  clear hK K hA hg
  refine done_ (done_of HT_.out (by kernel_rfl)) ?_
  clear hS
  try go_wp2
  go_loopg [22] 65 (fun kq v22 w' => ∃ t : Nat, v22 = .int .i64 (t : Int) ∧ Aside0 (t + kq = 65 ∧ t ≤ 64) ∧ Aside0 (Arr w' g2 119 .u32 WV) ∧ Aside0 (Arr w' g3 119 .u32 shaKs) ∧ Aside0 (Arr w' g4 112 .u32 (shV hs WV t)) ∧ Aside0 (Below w.heap.size w w'))
  case atStart => exact ⟨0, rfl, ⟨by omega, by omega⟩, HA2, HA3, HA4, HB⟩
  case round =>
   clear HA2 HA3 HA4 HB
   obtain ⟨t, rfl, hk, HA2, HA3, HA4, HB⟩ := hrel
   by_cases hlt : t < 64
   ·obtain ⟨k1, rfl⟩ : ∃ k1, gk = k1 + 1 := ⟨gk - 1, by have := hk.out; omega⟩
    have HI := zA hlt
    have d1 : decide ((t : Int) < 64) = true := zd1 (by omega)
    have d2 : decide (t < 64) = true := zd1 hlt
    have hw : wrap64 ((t : Int) + 1) = ((t + 1 : Nat) : Int) := by unfold wrap64; omega
    have HW := zA hw
    have p0 := eq_true (show (t : Int) < 64 by omega)
    have o0 := eq_true (show (0 : Int) ≤ (t : Int) by omega)
    obtain ⟨V, hV⟩ : ∃ V, V = shV hs WV t := ⟨_, rfl⟩
    rw [← hV] at HA4
    have HL4 := zA (show V.length = 8 by rw [hV]; exact shV_len hs WV HL.out t)
    have HV := zA hV
    have hx0 := HA4.out.cell 0 (by rw [HL4.out]; omega)
    have hx1 := HA4.out.cell 1 (by rw [HL4.out]; omega)
    have hx2 := HA4.out.cell 2 (by rw [HL4.out]; omega)
    have hx4 := HA4.out.cell 4 (by rw [HL4.out]; omega)
    have hx5 := HA4.out.cell 5 (by rw [HL4.out]; omega)
    have hx6 := HA4.out.cell 6 (by rw [HL4.out]; omega)
    have hx7 := HA4.out.cell 7 (by rw [HL4.out]; omega)
    have hxk := HA3.out.cell t (by have h := HI.out; exact h)
    have hxw := HA2.out.cell t (by rw [HWL.out]; exact HI.out)
    rw [List.getD_eq_getElem?_getD] at hx0 hx1 hx2 hx4 hx5 hx6 hx7 hxk hxw
    clear hlt hV hw
    try go_wp2
    refine start_ (n := 6) (S := fun w' => w'.cell? ⟨g4, 0, none⟩ = some (.int .u32 (V[0]?.getD 0)) ∧ w'.cell? ⟨g4, 4, none⟩ = some (.int .u32 (V[4]?.getD 0))) (ds := []) (qq 6 0) (by kernel_rfl) rfl (by kernel_rfl) ⟨hx0, hx4⟩ (fun hHeld => ?_); refine with_tabW sha_take.tab4 sha_take.bits4 (fun HT_ HW_ => ?_)
    refine ord_ [(0, 0, 1), (0, 2, 5), (1, 1, 7), (0, 4, 23), (1, 3, 31), (0, 5, 63)] ?_
    repeat (first | (refine kk_ 0 ?_; refine oP_ (v := ?_) (a' := ?_) HT_ rfl rfl (by kernel_rfl) (fun _ _ _ h => h) (Or.inl ⟨by rfl, ?_⟩) ?_ ?_; rotate_left; (intro w'; go_simp; with_reducible rfl); rotate_left; (simp only [Act.put, zs1, zs2, zs3, i64_w, i32_w]; rfl)) | (refine kk_ 1 ?_; refine oT_ (v := ?_) (a' := ?_) HT_ HW_ rfl rfl (by kernel_rfl) (fun _ _ _ h => h) (Or.inl ⟨by rfl, ?_⟩) hHeld ?_ ?_; rotate_left; (rintro w' ⟨s0, s1⟩; go_simp; with_reducible rfl); rotate_left; (simp only [Act.put, zs1, zs2, zs3, i64_w, i32_w]; rfl)))
    refine oend_ ?_
    refine done_ (done_of HT_.out (by kernel_rfl)) ?_
    try go_wp2
    refine start_ (n := 31) (S := fun w' => w'.cell? ⟨g4, 7, none⟩ = some (.int .u32 (V[7]?.getD 0)) ∧ w'.cell? ⟨g4, 5, none⟩ = some (.int .u32 (V[5]?.getD 0)) ∧ w'.cell? ⟨g4, 6, none⟩ = some (.int .u32 (V[6]?.getD 0)) ∧ w'.cell? ⟨g3, t, none⟩ = some (.int .u32 (shaKs[t]?.getD 0)) ∧ w'.cell? ⟨g2, t, none⟩ = some (.int .u32 (WV[t]?.getD 0))) (ds := []) (qq 31 0) (by kernel_rfl) rfl (by kernel_rfl) ⟨hx7, hx5, hx6, hxk, hxw⟩ (fun hHeld => ?_); refine with_tabW sha_take.tab5 sha_take.bits5 (fun HT_ HW_ => ?_)
    refine ord_ [(0, 0, 1), (0, 2, 5), (0, 4, 21), (0, 7, 149), (0, 11, 2197), (0, 12, 6293), (0, 15, 39061), (0, 16, 104597), (0, 17, 235669), (0, 22, 4429973), (0, 23, 12818581), (0, 26, 79927445), (0, 27, 214145173), (1, 1, 214145175), (1, 13, 214153367), (0, 14, 214169751), (1, 18, 214431895), (0, 19, 214956183), (0, 20, 216004759), (1, 24, 232781975), (1, 28, 501217431)] ?_
    repeat (first | (refine kk_ 0 ?_; refine oP_ (v := ?_) (a' := ?_) HT_ rfl rfl (by kernel_rfl) (fun _ _ _ h => h) (Or.inl ⟨by rfl, ?_⟩) ?_ ?_; rotate_left; (intro w'; go_simp; with_reducible rfl); rotate_left; (simp only [Act.put, zs1, zs2, zs3, i64_w, i32_w]; rfl)) | (refine kk_ 1 ?_; refine oT_ (v := ?_) (a' := ?_) HT_ HW_ rfl rfl (by kernel_rfl) (fun _ _ _ h => h) (Or.inl ⟨by rfl, ?_⟩) hHeld ?_ ?_; rotate_left; (rintro w' ⟨s0, s1, s2, s3, s4⟩; go_simp; with_reducible rfl); rotate_left; (simp only [Act.put, zs1, zs2, zs3, i64_w, i32_w]; rfl)))
    refine oend_ ?_
    refine one_ (i := 3) (N := some 32) (qq 31 501217439) rfl rfl (one_of HT_.out (by kernel_rfl)) (by decide) (fun K hK => ?_)
    refine goes_ Try.func79 (by kernel_rfl) rfl #[.int .u32 (V[4]?.getD 0), .int .i64 6] (by rfl) rfl rfl (by (try simp only [zm1, zm2, zm3]); first | done | rfl) ?_
    with_reducible refine (sha_turned.calls (V[4]?.getD 0) 6 (tu (V[4]?.getD 0) 6) _ (tu_at (V[4]?.getD 0) 6 _ rfl (by decide))).mono ?_
    rintro e w' ⟨rfl, ⟨nd, rfl⟩⟩
    refine ⟨_, rfl, ?_⟩
    refine hK.out _ _ ⟨hHeld.1, hHeld.2.1, hHeld.2.2.1, hHeld.2.2.2.1, hHeld.2.2.2.2⟩ (fun hHeld => ?_)
    clear hK K
    refine norm_ (a' := ?_) ?_ ?_
    rotate_left
    ·show Act.put _ (some 32) _ = _
     simp only [Act.put, zs1, zs2, zs3, i64_w, i32_w]
     rfl
    refine one_ (i := 5) (N := some 34) (qq 31 501217471) rfl rfl (one_of HT_.out (by kernel_rfl)) (by decide) (fun K hK => ?_)
    refine goes_ Try.func79 (by kernel_rfl) rfl #[.int .u32 (V[4]?.getD 0), .int .i64 11] (by rfl) rfl rfl (by (try simp only [zm1, zm2, zm3]); first | done | rfl) ?_
    with_reducible refine (sha_turned.calls (V[4]?.getD 0) 11 (tu (V[4]?.getD 0) 11) _ (tu_at (V[4]?.getD 0) 11 _ rfl (by decide))).mono ?_
    rintro e w' ⟨rfl, ⟨nd, rfl⟩⟩
    refine ⟨_, rfl, ?_⟩
    refine hK.out _ _ ⟨hHeld.1, hHeld.2.1, hHeld.2.2.1, hHeld.2.2.2.1, hHeld.2.2.2.2⟩ (fun hHeld => ?_)
    clear hK K
    refine norm_ (a' := ?_) ?_ ?_
    rotate_left
    ·show Act.put _ (some 34) _ = _
     simp only [Act.put, zs1, zs2, zs3, i64_w, i32_w]
     rfl
    refine pure_ (i := 6) (N := some 35) (v := ?_) (a' := ?_) (qq 31 501217535) rfl rfl (any_of HT_.out (by kernel_rfl)) (fun _ _ _ h => h) (Or.inl ⟨by rfl, ?_⟩) ?_ ?_
    rotate_left
    ·intro w'
     go_simp
     with_reducible rfl
    rotate_left
    ·simp only [Act.put, zs1, zs2, zs3, i64_w, i32_w]
     rfl
    refine one_ (i := 8) (N := some 37) (qq 31 501217791) rfl rfl (one_of HT_.out (by kernel_rfl)) (by decide) (fun K hK => ?_)
    refine goes_ Try.func79 (by kernel_rfl) rfl #[.int .u32 (V[4]?.getD 0), .int .i64 25] (by rfl) rfl rfl (by (try simp only [zm1, zm2, zm3]); first | done | rfl) ?_
    with_reducible refine (sha_turned.calls (V[4]?.getD 0) 25 (tu (V[4]?.getD 0) 25) _ (tu_at (V[4]?.getD 0) 25 _ rfl (by decide))).mono ?_
    rintro e w' ⟨rfl, ⟨nd, rfl⟩⟩
    refine ⟨_, rfl, ?_⟩
    refine hK.out _ _ ⟨hHeld.1, hHeld.2.1, hHeld.2.2.1, hHeld.2.2.2.1, hHeld.2.2.2.2⟩ (fun hHeld => ?_)
    clear hK K
    refine norm_ (a' := ?_) ?_ ?_
    rotate_left
    ·show Act.put _ (some 37) _ = _
     simp only [Act.put, zs1, zs2, zs3, i64_w, i32_w]
     rfl
    refine ord_ [(0, 9, 501218303), (0, 10, 501219327), (0, 21, 503316479), (0, 25, 536870911), (0, 29, 1073741823), (0, 30, 2147483647)] ?_
    repeat (refine kk_ 0 ?_; refine oP_ (v := ?_) (a' := ?_) HT_ rfl rfl (by kernel_rfl) (fun _ _ _ h => h) (Or.inl ⟨by rfl, ?_⟩) ?_ ?_; rotate_left; (intro w'; go_simp; with_reducible rfl); rotate_left; (simp only [Act.put, zs1, zs2, zs3, i64_w, i32_w]; rfl))
    refine oend_ ?_
    refine done_ (done_of HT_.out (by kernel_rfl)) ?_
    obtain ⟨X, hX⟩ : ∃ X, shX V (shaKs[t]?.getD 0) (WV[t]?.getD 0) = X := ⟨_, rfl⟩
    have HX := zA hX
    unfold shX at hX
    rw [hX]
    clear hX
    try go_wp2
    refine start_ (n := 25) (S := fun w' => w'.cell? ⟨g4, 1, none⟩ = some (.int .u32 (V[1]?.getD 0)) ∧ w'.cell? ⟨g4, 2, none⟩ = some (.int .u32 (V[2]?.getD 0))) (ds := []) (qq 25 0) (by kernel_rfl) rfl (by kernel_rfl) ⟨hx1, hx2⟩ (fun hHeld => ?_); refine with_tabW sha_take.tab6 sha_take.bits6 (fun HT_ HW_ => ?_)
    refine ord_ [(0, 0, 1), (0, 2, 5), (0, 5, 37), (0, 8, 293), (0, 9, 805), (0, 12, 4901), (0, 13, 13093), (0, 17, 144165), (0, 19, 668453), (1, 10, 669477), (0, 11, 671525), (1, 14, 687909), (0, 15, 720677), (0, 16, 786213), (1, 18, 1048357), (1, 20, 2096933), (0, 21, 4194085), (0, 22, 8388389)] ?_
    repeat (first | (refine kk_ 0 ?_; refine oP_ (v := ?_) (a' := ?_) HT_ rfl rfl (by kernel_rfl) (fun _ _ _ h => h) (Or.inl ⟨by rfl, ?_⟩) ?_ ?_; rotate_left; (intro w'; go_simp; with_reducible rfl); rotate_left; (simp only [Act.put, zs1, zs2, zs3, i64_w, i32_w]; rfl)) | (refine kk_ 1 ?_; refine oT_ (v := ?_) (a' := ?_) HT_ HW_ rfl rfl (by kernel_rfl) (fun _ _ _ h => h) (Or.inl ⟨by rfl, ?_⟩) hHeld ?_ ?_; rotate_left; (rintro w' ⟨s0, s1⟩; go_simp; with_reducible rfl); rotate_left; (simp only [Act.put, zs1, zs2, zs3, i64_w, i32_w]; rfl)))
    refine oend_ ?_
    refine one_ (i := 1) (N := some 60) (qq 25 8388391) rfl rfl (one_of HT_.out (by kernel_rfl)) (by decide) (fun K hK => ?_)
    refine goes_ Try.func79 (by kernel_rfl) rfl #[.int .u32 (V[0]?.getD 0), .int .i64 2] (by rfl) rfl rfl (by (try simp only [zm1, zm2, zm3]); first | done | rfl) ?_
    with_reducible refine (sha_turned.calls (V[0]?.getD 0) 2 (tu (V[0]?.getD 0) 2) _ (tu_at (V[0]?.getD 0) 2 _ rfl (by decide))).mono ?_
    rintro e w' ⟨rfl, ⟨nd, rfl⟩⟩
    refine ⟨_, rfl, ?_⟩
    refine hK.out _ _ ⟨hHeld.1, hHeld.2⟩ (fun hHeld => ?_)
    clear hK K
    refine norm_ (a' := ?_) ?_ ?_
    rotate_left
    ·show Act.put _ (some 60) _ = _
     simp only [Act.put, zs1, zs2, zs3, i64_w, i32_w]
     rfl
    refine one_ (i := 3) (N := some 62) (qq 25 8388399) rfl rfl (one_of HT_.out (by kernel_rfl)) (by decide) (fun K hK => ?_)
    refine goes_ Try.func79 (by kernel_rfl) rfl #[.int .u32 (V[0]?.getD 0), .int .i64 13] (by rfl) rfl rfl (by (try simp only [zm1, zm2, zm3]); first | done | rfl) ?_
    with_reducible refine (sha_turned.calls (V[0]?.getD 0) 13 (tu (V[0]?.getD 0) 13) _ (tu_at (V[0]?.getD 0) 13 _ rfl (by decide))).mono ?_
    rintro e w' ⟨rfl, ⟨nd, rfl⟩⟩
    refine ⟨_, rfl, ?_⟩
    refine hK.out _ _ ⟨hHeld.1, hHeld.2⟩ (fun hHeld => ?_)
    clear hK K
    refine norm_ (a' := ?_) ?_ ?_
    rotate_left
    ·show Act.put _ (some 62) _ = _
     simp only [Act.put, zs1, zs2, zs3, i64_w, i32_w]
     rfl
    refine pure_ (i := 4) (N := some 63) (v := ?_) (a' := ?_) (qq 25 8388415) rfl rfl (any_of HT_.out (by kernel_rfl)) (fun _ _ _ h => h) (Or.inl ⟨by rfl, ?_⟩) ?_ ?_
    rotate_left
    ·intro w'
     go_simp
     with_reducible rfl
    rotate_left
    ·simp only [Act.put, zs1, zs2, zs3, i64_w, i32_w]
     rfl
    refine one_ (i := 6) (N := some 65) (qq 25 8388479) rfl rfl (one_of HT_.out (by kernel_rfl)) (by decide) (fun K hK => ?_)
    refine goes_ Try.func79 (by kernel_rfl) rfl #[.int .u32 (V[0]?.getD 0), .int .i64 22] (by rfl) rfl rfl (by (try simp only [zm1, zm2, zm3]); first | done | rfl) ?_
    with_reducible refine (sha_turned.calls (V[0]?.getD 0) 22 (tu (V[0]?.getD 0) 22) _ (tu_at (V[0]?.getD 0) 22 _ rfl (by decide))).mono ?_
    rintro e w' ⟨rfl, ⟨nd, rfl⟩⟩
    refine ⟨_, rfl, ?_⟩
    refine hK.out _ _ ⟨hHeld.1, hHeld.2⟩ (fun hHeld => ?_)
    clear hK K
    refine norm_ (a' := ?_) ?_ ?_
    rotate_left
    ·show Act.put _ (some 65) _ = _
     simp only [Act.put, zs1, zs2, zs3, i64_w, i32_w]
     rfl
    refine ord_ [(0, 7, 8388607), (0, 23, 16777215), (0, 24, 33554431)] ?_
    repeat (refine kk_ 0 ?_; refine oP_ (v := ?_) (a' := ?_) HT_ rfl rfl (by kernel_rfl) (fun _ _ _ h => h) (Or.inl ⟨by rfl, ?_⟩) ?_ ?_; rotate_left; (intro w'; go_simp; with_reducible rfl); rotate_left; (simp only [Act.put, zs1, zs2, zs3, i64_w, i32_w]; rfl))
    refine oend_ ?_
    refine done_ (done_of HT_.out (by kernel_rfl)) ?_
    obtain ⟨Y, hY⟩ : ∃ Y, shY V = Y := ⟨_, rfl⟩
    have HY := zA hY
    unfold shY at hY
    rw [hY]
    clear hY
    clear hx1 hx2 hx4 hx5 hx6 hx7 hx0 hxk hxw d1 d2
    try go_wp2
    refine start_ (n := 3) (S := fun w' => True) (ds := [2]) (qq 3 0) (by kernel_rfl) rfl (by kernel_rfl) trivial (fun hHeld => ?_); refine with_tabW sha_take.tab7 sha_take.bits7 (fun HT_ HW_ => ?_)
    refine ord_ [(0, 0, 1), (0, 1, 3)] ?_
    repeat (refine kk_ 0 ?_; refine oP_ (v := ?_) (a' := ?_) HT_ rfl rfl (by kernel_rfl) (fun _ _ _ h => h) (Or.inl ⟨by rfl, ?_⟩) ?_ ?_; rotate_left; (intro w'; go_simp; with_reducible rfl); rotate_left; (simp only [Act.put, zs1, zs2, zs3, i64_w, i32_w]; rfl))
    refine oend_ ?_
    refine last_ (i := 2) (N := some 85) (qq 3 7) rfl rfl (one_of HT_.out (by kernel_rfl)) (by decide) (fun K hK => ?_)
    refine copy_ (by rfl) rfl (.tmp 83) (.tmp 84) 123 123 rfl 53 Try.underlying123 (by kernel_rfl) g4 1 7 7 ⟨g4, 0, none⟩ 7 8 (by rfl) (by rfl) (V.map (Value.int .u32)) 112 (HA4.out.drew) ((V.take 7).map (Value.int .u32)) (by rw [List.length_map, List.length_take, HL4.out]; rfl) ?_ (by rw [List.length_map, List.length_map, List.length_take, HL4.out]; omega) (by intro q hq; obtain ⟨z, _, rfl⟩ := List.mem_map.1 hq; rfl) ?_
    ·exact copy_src HA4.out.drew HL4.out
    intro w2 hA hg
    replace hA : Arr w2 g4 112 .u32 (shTurn V) := copy_row HL4.out hA
    refine hK.out _ _ ?_
    clear hK K
    refine norm_ (a' := ?_) ?_ ?_
    rotate_left
    ·show Act.put _ (some 85) _ = _
     simp only [Act.put, zs1, zs2, zs3, i64_w, i32_w]
     rfl
    refine done_ (done_of HT_.out (by kernel_rfl)) ?_
    replace HA2 := zA (HA2.out.grown (grown_drew hg rfl rfl rfl rfl) (fun h => HG.out.2.2.2.2.1 (Option.some.inj h)))
    replace HA3 := zA (HA3.out.grown (grown_drew hg rfl rfl rfl rfl) (fun h => HG.out.2.2.2.2.2 (Option.some.inj h)))
    replace HB := zA (belowBy HB.out (grown_drew hg rfl rfl rfl rfl) HB.out.size (fun k hk => by have := HG.out; have := Option.some.inj hk; omega))
    obtain ⟨U, hU⟩ : ∃ U, U = shTurn V := ⟨_, rfl⟩
    rw [← hU] at hA
    have HUL := zA (show U.length = 8 by rw [hU]; exact shTurn_len V HL4.out)
    have HU := zA hU
    replace HA4 := zA hA
    have hx4 := HA4.out.cell 4 (by rw [HUL.out]; omega)
    rw [List.getD_eq_getElem?_getD] at hx4
    clear hU hA hg
    go_wp2_with (first
     | ((with_reducible refine gate_store (t := 53) (p := 93) (v := .tmp 88) rfl ?_); refine store_arr rfl rfl 53 (.tmp 93) (.tmp 88) rfl (g := g4) (k := .u32) rfl rfl (by kernel_rfl) HA4.out (by rw [HUL.out]; omega) ?_; intro w9 hA hg; replace HA4 := zA hA; replace HA2 := zA (HA2.out.grown hg (fun h => HG.out.2.2.2.2.1 (Option.some.inj h))); replace HA3 := zA (HA3.out.grown hg (fun h => HG.out.2.2.2.2.2 (Option.some.inj h))); replace HB := zA (belowBy HB.out hg HB.out.size (fun k hk => by have := HG.out; have := Option.some.inj hk; omega)); clear hA hg)
     | ((with_reducible refine gate_store (t := 53) (p := 94) (v := .tmp 92) rfl ?_); refine store_arr rfl rfl 53 (.tmp 94) (.tmp 92) rfl (g := g4) (k := .u32) rfl rfl (by kernel_rfl) HA4.out (by rw [List.length_set, HUL.out]; omega) ?_; intro w9 hA hg; replace HA4 := zA hA; replace HA2 := zA (HA2.out.grown hg (fun h => HG.out.2.2.2.2.1 (Option.some.inj h))); replace HA3 := zA (HA3.out.grown hg (fun h => HG.out.2.2.2.2.2 (Option.some.inj h))); replace HB := zA (belowBy HB.out hg HB.out.size (fun k hk => by have := HG.out; have := Option.some.inj hk; omega)); clear hA hg))
    go_roundg k1
    case measure => omega
    case rel => exact ⟨t + 1, by rw [HW.out], ⟨by have := hk.out; omega, by have := HI.out; omega⟩, HA2, HA3, ⟨by have h := HA4.out; rw [shV, ← HV.out, shStep, HX.out, HY.out, ← HU.out]; exact h⟩, HB⟩
   ·have hte : t = 64 := by have := hk.out; omega
    have HE := zA hte
    have d1 : decide ((t : Int) < 64) = false := zd2 (by omega)
    have d2 : decide (t < 64) = false := zd2 hlt
    rw [hte] at HA4
    clear hlt hte
    obtain ⟨V, hV⟩ : ∃ V, V = shV hs WV 64 := ⟨_, rfl⟩
    rw [← hV] at HA4
    have HL4 := zA (show V.length = 8 by rw [hV]; exact shV_len hs WV HL.out 64)
    have HV := zA hV
    have HS1 := zA (HS.out.below HB.out)
    have HB1 := zA (grown_below HB.out (some g))
    clear hV
    go_wp2_with (first | ((with_reducible refine gate_dst (N := 96) rfl ?_); refine load_row rfl rfl 112 (.tmp 4) rfl (g := g4) (k := .u32) rfl Try.underlying112 (by rw [HL4.out]; kernel_rfl) HA4.out ?_))
    clear d1 d2 HA2 HA3 HA4 HB
    go_loopg [97] 9 (fun kq v97 w' => ∃ i : Nat, v97 = .int .i64 (i : Int) ∧ Aside0 (i + kq = 9 ∧ i ≤ 8) ∧ Aside0 (Sta w' g (shAdd hs V i) blk hv n) ∧ Aside0 (w.grownBy w' (some g)))
    case atStart => exact ⟨0, rfl, ⟨by omega, by omega⟩, HS1, HB1⟩
    case round =>
     clear HS1 HB1
     obtain ⟨i, rfl, hk, HS1, HB1⟩ := hrel
     by_cases hlt : i < 8
     ·obtain ⟨k1, rfl⟩ : ∃ k1, gk = k1 + 1 := ⟨gk - 1, by have := hk.out; omega⟩
      have HI := zA hlt
      have d1 : decide ((i : Int) < 8) = true := zd1 (by omega)
      have d2 : decide (i < 8) = true := zd1 hlt
      have hw : wrap64 ((i : Int) + 1) = ((i + 1 : Nat) : Int) := by unfold wrap64; omega
      have HW := zA hw
      have p0 := eq_true (show (i : Int) < 8 by omega)
      have o0 := eq_true (show (0 : Int) ≤ (i : Int) by omega)
      obtain ⟨H, hH⟩ : ∃ H, H = shAdd hs V i := ⟨_, rfl⟩
      rw [← hH] at HS1
      have HH := zA hH
      have hxh := HS1.out.h i hlt
      have hf := HS1.out.frozen i
      clear hlt hH hw
      go_wp2_with (first | ((with_reducible refine gate_dst (N := 100) rfl ?_); refine index_arr rfl 112 53 8 (.tmp 96) (.tmp 97) rfl (kk := .u32) V i rfl rfl Try.underlying112 Try.underlying53 rfl (by kernel_rfl) HL4.out HI.out ?_))
      refine start_ (n := 12) (S := fun w' => w'.cell? ⟨g, i, none⟩ = some (.int .u32 (H[i]?.getD 0)) ∧ w'.frozen? ⟨g, i, none⟩ = false) (ds := [11]) (qq 12 0) (by kernel_rfl) rfl (by kernel_rfl) ⟨hxh, hf⟩ (fun hHeld => ?_); refine with_tabW sha_take.tab13 sha_take.bits13 (fun HT_ HW_ => ?_)
      refine ord_ [(0, 0, 1), (0, 1, 3), (0, 2, 7), (0, 3, 15), (0, 4, 31), (0, 6, 95), (0, 8, 351), (0, 9, 863), (1, 5, 895), (0, 7, 1023), (0, 10, 2047)] ?_
      repeat (first | (refine kk_ 0 ?_; refine oP_ (v := ?_) (a' := ?_) HT_ rfl rfl (by kernel_rfl) (fun _ _ _ h => h) (Or.inl ⟨by rfl, ?_⟩) ?_ ?_; rotate_left; (intro w'; go_simp; with_reducible rfl); rotate_left; (simp only [Act.put, zs1, zs2, zs3, i64_w, i32_w]; rfl)) | (refine kk_ 1 ?_; refine oT_ (v := ?_) (a' := ?_) HT_ HW_ rfl rfl (by kernel_rfl) (fun _ _ _ h => h) (Or.inl ⟨by rfl, ?_⟩) hHeld ?_ ?_; rotate_left; (rintro w' ⟨s0, s1⟩; go_simp; with_reducible rfl); rotate_left; (simp only [Act.put, zs1, zs2, zs3, i64_w, i32_w]; rfl)))
      refine oend_ ?_
      refine last_ (i := 11) (N := none) (qq 12 4095) rfl rfl (one_of HT_.out (by kernel_rfl)) (by decide) (fun K hK => ?_)
      refine skip_ (w1 := ?_) (by rfl) rfl ?_ ?_
      rotate_left
      ·go_simp
       rfl
      refine hK.out _ _ ?_
      clear hK K
      refine done_ (done_of HT_.out (by kernel_rfl)) ?_
      have HST : Aside0 (∀ x, Sta (wr.setCell ⟨g, i, none⟩ (.int .u32 x)) g (H.set i x) blk hv n) := ⟨fun x => HS1.out.put_h i HI.out x⟩
      have HGR : Aside0 (∀ v, wr.grownBy (wr.setCell ⟨g, i, none⟩ v) (some g)) := ⟨fun v => grown_cells wr g i [v]⟩
      clear hxh hf p0 o0 d1 d2
      try go_wp2
      go_roundg k1
      case measure => omega
      case rel => exact ⟨i + 1, by rw [HW.out], ⟨by have := hk.out; omega, by have := HI.out; omega⟩, ⟨by rw [shAdd, ← HH.out]; exact (HST.out _).drew⟩, ⟨grown_to_drew (grown_trans HB1.out (HGR.out _))⟩⟩
     ·have hte : i = 8 := by have := hk.out; omega
      have HE8 := zA hte
      have d1 : decide ((i : Int) < 8) = false := zd2 (by omega)
      have d2 : decide (i < 8) = false := zd2 hlt
      rw [hte] at HS1
      clear hlt hte
      go_wp2_with (first | ((with_reducible refine gate_store (t := 3) (p := 115) (v := .const (.int .i64 0)) rfl ?_); refine HS1.out.store_have rfl rfl 3 (.tmp 115) (.const (.int .i64 0)) rfl rfl rfl (by kernel_rfl) ?_; intro w9 hA hg; replace HS1 := zA hA; replace HB1 := zA (grown_trans HB1.out hg); clear hA hg))
      exact bodyPost_end (results_none rfl _ _ _) rfl ⟨rfl, by have h := HS1.out; rw [HV.out, ← HWV.out] at h; exact h, HB1.out⟩

def shFull (bs : List Int) : Nat → List Int
 | 0 => shaFirst
 | k + 1 => shTake (shFull bs k) ((bs.drop (64 * k)).take 64)
theorem shFull_len (bs : List Int) (k : Nat) : (shFull bs k).length = 8 := by
 induction k with
 | zero => rfl
 | succ k ih => rw [shFull, shTake_len _ _ ih]
theorem shFull_more (bs ys : List Int) (q : Nat) (h : 64 * q ≤ bs.length) : shFull (bs ++ ys) q = shFull bs q := by
 induction q with
 | zero => rfl
 | succ q ih =>
  rw [shFull, shFull, ih (by omega), List.drop_append_of_le_length (by omega), List.take_append_of_le_length (by rw [List.length_drop]; omega)]
structure StN (w : World) (g : Nat) (bs : List Int) (N : Int) : Prop where
 at_ : ∃ blk, Sta w g (shFull bs (bs.length / 64)) blk ((bs.length % 64 : Nat) : Int) N ∧ blk.take (bs.length % 64) = bs.drop (64 * (bs.length / 64))
theorem StN.grown {w w1 : World} {g : Nat} {bs : List Int} {N : Int} {row : Option Nat} (h : StN w g bs N) (hg : w.grownBy w1 row) (hne : some g ≠ row) : StN w1 g bs N := by
 obtain ⟨blk, h1, h2⟩ := h.at_
 exact ⟨blk, h1.grown hg hne, h2⟩
theorem StN.below {w w1 : World} {g : Nat} {bs : List Int} {N : Int} (h : StN w g bs N) (hb : Below w.heap.size w w1) : StN w1 g bs N := by
 obtain ⟨blk, h1, h2⟩ := h.at_
 exact ⟨blk, h1.below hb, h2⟩
theorem StN.lt {w : World} {g : Nat} {bs : List Int} {N : Int} (h : StN w g bs N) : g < w.heap.size := by
 obtain ⟨blk, h1, h2⟩ := h.at_
 exact h1.lt
theorem stW_more {bs ys blk : List Int} (hb : blk.take (bs.length % 64) = bs.drop (64 * (bs.length / 64))) (h64 : blk.length = 64) (hk : bs.length % 64 + ys.length < 64) :
    (bs ++ ys).length % 64 = bs.length % 64 + ys.length ∧ shFull (bs ++ ys) ((bs ++ ys).length / 64) = shFull bs (bs.length / 64) ∧ (blk.take (bs.length % 64) ++ ys ++ blk.drop (bs.length % 64 + ys.length)).take ((bs ++ ys).length % 64) = (bs ++ ys).drop (64 * ((bs ++ ys).length / 64)) := by
 have h1 : (bs ++ ys).length % 64 = bs.length % 64 + ys.length := by rw [List.length_append]; omega
 have h2 : (bs ++ ys).length / 64 = bs.length / 64 := by rw [List.length_append]; omega
 refine ⟨h1, by rw [h2]; exact shFull_more bs ys _ (by omega), ?_⟩
 rw [h1, h2, List.drop_append_of_le_length (by omega), ← hb]
 exact List.take_left' (by rw [List.length_append, List.length_take, h64]; omega)
theorem stW_full {bs ys blk : List Int} (hb : blk.take (bs.length % 64) = bs.drop (64 * (bs.length / 64))) (h64 : blk.length = 64) (hk : bs.length % 64 + ys.length = 64) (hp : 0 < ys.length) :
    (bs ++ ys).length % 64 = 0 ∧ shFull (bs ++ ys) ((bs ++ ys).length / 64) = shTake (shFull bs (bs.length / 64)) (blk.take (bs.length % 64) ++ ys ++ blk.drop (bs.length % 64 + ys.length)) := by
 have h1 : (bs ++ ys).length % 64 = 0 := by rw [List.length_append]; omega
 have h2 : (bs ++ ys).length / 64 = bs.length / 64 + 1 := by rw [List.length_append]; omega
 refine ⟨h1, ?_⟩
 rw [h2, shFull, shFull_more bs ys _ (by omega), show blk.drop (bs.length % 64 + ys.length) = [] from List.drop_eq_nil_of_le (by omega), List.append_nil, hb, List.drop_append_of_le_length (by omega), List.take_of_length_le (by rw [List.length_append, List.length_drop]; omega)]
def Rd8 (w : World) (g : Nat) (A : Option Addr) (b : List Int) : Prop := b ≠ [] → ∃ ad : Addr, A = some ad ∧ ad.block ≠ g ∧ ∀ j, j < b.length → w.cell? (ad.add j) = some (.int .u8 (b[j]?.getD 0))
theorem Rd8.grown {w w1 : World} {g : Nat} {A : Option Addr} {b : List Int} (h : Rd8 w g A b) (hg : w.grownBy w1 (some g)) : Rd8 w1 g A b := fun hb => by
 obtain ⟨ad, e, hne, hc⟩ := h hb
 refine ⟨ad, e, hne, fun j hj => hg.cell (hc j hj) ?_⟩
 intro he
 have : (ad.add j).block = ad.block := by unfold Addr.add; split <;> rfl
 exact hne (by rw [← this]; exact Option.some.inj he)
theorem Rd8.drop {w : World} {g : Nat} {ad : Addr} {ys rs : List Int} (h : Rd8 w g (some ad) (ys ++ rs)) (A : Option Addr) (hA : rs ≠ [] → A = some (ad.add ys.length)) : Rd8 w g A rs := fun hb => by
 obtain ⟨ad', e, hne, hc⟩ := h (by intro hn; exact hb (List.append_eq_nil_iff.1 hn).2)
 obtain rfl := Option.some.inj e
 refine ⟨_, hA hb, by have : (ad.add ys.length).block = ad.block := by unfold Addr.add; split <;> rfl
                      rw [this]; exact hne, fun j hj => ?_⟩
 rw [add_add, hc (ys.length + j) (by rw [List.length_append]; omega), List.getElem?_append_right (by omega), show ys.length + j - ys.length = j by omega]
theorem Rd8.of_C {w : World} {g : Nat} {A : Option Addr} {b : List Int} (h : (Kd.int .u8).C w A b.length b) (hne : 0 < b.length → ∀ ad, A = some ad → ad.block ≠ g) : Rd8 w g A b := fun hb => by
 have hp : 0 < b.length := List.length_pos_iff.2 hb
 have hat : ∀ i, i < b.length → ∃ ad, A = some ad ∧ w.cell? (ad.add i) = some (.int .u8 (b[i]?.getD 0)) := fun i hi => by
  obtain ⟨ad, c, e, hs, hK, hc⟩ := Kd.C_get h (0 : Int) (i : Int) (by omega) (by omega)
  have hK' : c = [.int .u8 (b.getD i 0)] := by have := hK; rwa [Int.toNat_natCast] at this
  refine ⟨ad, e, ?_⟩
  have := hc 0 (.int .u8 (b.getD i 0)) (by rw [hK']; rfl)
  rwa [Int.toNat_natCast, show (Kd.int .u8).sz = 1 from rfl, Nat.mul_one, Nat.add_zero, List.getD_eq_getElem?_getD] at this
 obtain ⟨ad, rfl, _⟩ := hat 0 hp
 refine ⟨ad, rfl, hne hp ad rfl, fun j hj => ?_⟩
 obtain ⟨ad', e, hc⟩ := hat j hj
 obtain rfl := Option.some.inj e
 exact hc
theorem st_copy {hs blk ys : List Int} {hv n : Int} {H : Nat} (h8 : hs.length = 8) (h64 : blk.length = 64) (hk : H + ys.length ≤ 64) :
    (stCells hs blk hv n).take (8 + H) ++ ys.map (Value.int .u8) ++ (stCells hs blk hv n).drop (8 + H + (ys.map (Value.int .u8)).length) = stCells hs (blk.take H ++ ys ++ blk.drop (H + ys.length)) hv n := by
 have e1 : (stCells hs blk hv n).take (8 + H) = hs.map (Value.int .u32) ++ (blk.map (Value.int .u8)).take H := by
  unfold stCells
  rw [List.take_append, List.take_of_length_le (by rw [List.length_map]; omega), List.length_map, h8, show 8 + H - 8 = H by omega, List.take_append_of_le_length (by rw [List.length_map]; omega)]
 have e2 : (stCells hs blk hv n).drop (8 + H + (ys.map (Value.int .u8)).length) = (blk.map (Value.int .u8)).drop (H + ys.length) ++ [.int .i64 hv, .int .i64 n] := by
  unfold stCells
  rw [List.length_map, List.drop_append, List.drop_eq_nil_of_le (by rw [List.length_map]; omega), List.nil_append, List.length_map, h8, show 8 + H + ys.length - 8 = H + ys.length by omega, List.drop_append_of_le_length (by rw [List.length_map]; omega)]
 rw [e1, e2]
 simp [stCells]
theorem st_copy_len {blk ys : List Int} {H : Nat} (h64 : blk.length = 64) (hk : H + ys.length ≤ 64) : (blk.take H ++ ys ++ blk.drop (H + ys.length)).length = 64 := by
 simp [h64]
 omega
theorem rd_src {w : World} {ad : Addr} {rs : List Int} (h : ∀ j, j < rs.length → w.cell? (ad.add j) = some (.int .u8 (rs[j]?.getD 0))) {k : Nat} (hk : k ≤ rs.length) (j : Nat) (v : Value) (hj : ((rs.take k).map (Value.int .u8))[j]? = some v) : w.cell? (ad.add j) = some v := by
 have hl : j < k := by
  rcases Nat.lt_or_ge j k with h1 | h1
  ·exact h1
  ·rw [List.getElem?_eq_none (by rw [List.length_map, List.length_take]; omega)] at hj; cases hj
 rw [h j (by omega), ← hj, List.getElem?_map, List.getElem?_take, if_pos hl, List.getElem?_eq_getElem (by omega)]
 rfl
theorem Sta.store_have_ {W : World} {g : Nat} {hs blk : List Int} {hv n : Int} (h : Sta W g hs blk hv n) {P : Program} {ops : Array Oper} {o : Oper} {a : Act} {K : Act → World → Prop} {Q : Exit → Act → World → Prop} (hw : Region.wanted o (yielded ops a.tmps) = true) (hN : o.dst = none) (t : TypeId) (p x : Operand) (ho : o.op = .store t p x) {u : Int} (haddr : a.eval p = .pointer (some ⟨g, 72, none⟩)) (hx : a.eval x = .int .i64 u) (ht : (P.info? t).map (·.size) = some 1)
    (hk : ∀ w1, Sta w1 g hs blk u n → W.grownBy w1 (some g) → K a w1) : if Region.wanted o (yielded ops a.tmps) = true then Oper.wp P o a W K Q else K (a.put none undef) W := by
 have hrun : (Instr.storeAt t (.pointer (some ⟨g, 72, none⟩)) (.int .i64 u)).run P W = .ok () (W.setCells g 72 [.int .i64 u]) :=
  run_store_run t _ [.int .i64 u] h.row rfl ht (by simp only [List.size_toArray, stCells_len h.h8 h.b64, List.length_cons, List.length_nil]; omega) (by simp [Value.oneCell'])
 refine skip_ hw hN ?_ (hk _ ⟨h.h8, h.b64, (h.put_have u).row⟩ (grown_cells W g 72 [.int .i64 u]))
 unfold execOp
 simp only [ho, haddr, hx, Sem.run_bind, Sem.run_pure, Result.andThen_ok, hrun]
 rfl
def sha_Write.T3 : Bool × List (List Nat × List Nat) := (true, [([], []), ([0], [0]), ([1], [1]), ([], []), ([3], [3]), ([4], [4]), ([5], [5]), ([2, 6], [2, 6]), ([], []), ([7, 8], [7, 8]), ([9, 9, 0, 1, 2, 3, 4, 5, 6, 7, 8, 9], [9])])
def sha_Write.B3 : List Nat := [0, 1, 3, 0, 8, 24, 56, 127, 0, 511, 1023]
theorem sha_Write.tab3 : rtab .any (opsOf Try.f70 3) = sha_Write.T3 := by kernel_rfl
theorem sha_Write.bits3 : waitsOk sha_Write.T3.2 sha_Write.B3 = true := by kernel_rfl
def sha_Write.T4 : Bool × List (List Nat × List Nat) := (true, [([], []), ([], []), ([1], [1]), ([2], [2]), ([3], [3]), ([], []), ([4, 5], [4, 5]), ([], []), ([], []), ([7, 8], [7, 8]), ([0, 0, 1, 2, 3, 4, 5, 6], [0]), ([10, 0, 1, 2, 3, 4, 5, 6], [10]), ([11, 6, 0, 1, 2, 3, 4, 5, 6], [6, 11]), ([9, 12, 0, 1, 2, 3, 4, 5, 6, 7, 8, 9, 10, 11, 12], [7, 9])])
def sha_Write.B4 : List Nat := [0, 0, 2, 6, 14, 0, 62, 0, 0, 384, 127, 1151, 3199, 8191]
theorem sha_Write.tab4 : rtab .any (opsOf Try.f70 4) = sha_Write.T4 := by kernel_rfl
theorem sha_Write.bits4 : waitsOk sha_Write.T4.2 sha_Write.B4 = true := by kernel_rfl
set_option maxHeartbeats 8000000 in
set_option maxRecDepth 100000 in
theorem sha_Write.calls (g : Nat) (bs : List Int) (A : Option Addr) (c : Nat) (b : List Int) (w : World) (hS : StN w g bs (bs.length : Int)) (hA : Rd8 w g A b) (hc : b.length ≤ c) (hlen : bs.length + b.length < 9223372036854775808) :
    Calls Try.prog 70 #[.pointer (some ⟨g, 0, none⟩), .slice A b.length c] w fun e w' => e = .returned (.tuple #[]) ∧ StN w' g (bs ++ b) ((bs ++ b).length : Int) ∧ w.grownBy w' (some g) := by
 have HLEN := zA hlen
 have HC := zA hc
 have HR := zA hA
 have HS := zA hS
 obtain ⟨blk, hS1, hbk⟩ := hS.at_
 have HS1 := zA hS1
 have HBK := zA hbk
 have hn := hS1.n_
 obtain ⟨N, hN⟩ : ∃ N : Nat, N = bs.length + b.length := ⟨_, rfl⟩
 have e1 : wrap64 ((bs.length : Int) + (b.length : Int)) = (N : Int) := by unfold wrap64; omega
 have HN := zA hN
 have HE1 := zA e1
 clear hlen hc hA hS hbk hN hS1 e1
 go_enter Try.func70, Try.ntmps70
 go_wp2_with (first | ((with_reducible refine gate_store (t := 3) (p := 15) (v := .tmp 13) rfl ?_); refine HS1.out.store_n rfl rfl 3 (.tmp 15) (.tmp 13) rfl rfl rfl (by kernel_rfl) ?_; intro w1 hA hg; have HST : Aside0 (StN w1 g bs (N : Int)) := ⟨⟨_, by have h := hA; rw [HE1.out] at h; exact h, HBK.out⟩⟩; have HG := zA hg; clear hA hg))
 clear hn HS1 HBK
 replace HR := zA (HR.out.grown HG.out)
 go_loopg [1] (b.length + 1) (fun kq v1 w' => ∃ (ys rs : List Int) (A' : Option Addr) (c' : Nat), v1 = .slice A' rs.length c' ∧ Aside0 (b = ys ++ rs ∧ rs.length ≤ c' ∧ rs.length < kq) ∧ Aside0 (Rd8 w' g A' rs) ∧ Aside0 (StN w' g (bs ++ ys) (N : Int)) ∧ Aside0 (w.grownBy w' (some g)))
 case atStart => exact ⟨[], b, A, c, rfl, ⟨rfl, HC.out, by omega⟩, HR, by rw [List.append_nil]; exact HST, HG⟩
 case round =>
  clear HR HST HG HC HS HE1
  obtain ⟨ys, rs, A', c', rfl, HY, HR, HST, HG⟩ := hrel
  by_cases hlt : 0 < rs.length
  ·obtain ⟨k1, rfl⟩ : ∃ k1, gk = k1 + 1 := ⟨gk - 1, by have := HY.out.2.2; omega⟩
   obtain ⟨ad, rfl, hne, had⟩ := HR.out (List.length_pos_iff.1 hlt)
   obtain ⟨blk, hS1, hbk⟩ := HST.out.at_
   obtain ⟨H, hH⟩ : ∃ H : Nat, H = (bs ++ ys).length % 64 := ⟨_, rfl⟩
   rw [← hH] at hS1 hbk
   have hHL : H < 64 := by omega
   have HAD := zA had
   have HS1 := zA hS1
   have HBK := zA hbk
   have HH := zA (And.intro hH hHL)
   obtain ⟨m, hm⟩ : ∃ m : Nat, m = rs.length := ⟨_, rfl⟩
   have HM := zA hm
   rw [← hm] at hlt ⊢
   obtain ⟨k, hk⟩ : ∃ k : Nat, k = min (64 - H) m := ⟨_, rfl⟩
   have HMK := zA (show k ≤ rs.length ∧ H + k ≤ 64 ∧ 0 < k from ⟨by omega, by omega, by omega⟩)
   have HK := zA (show k = Nat.min m (64 - H) from hk.trans (Nat.min_comm _ _))
   obtain ⟨p, hp⟩ : ∃ p : Nat, p = H + k := ⟨_, rfl⟩
   have HP := zA hp
   have e1 : wrap64 ((H : Int) + (k : Int)) = (p : Int) := by unfold wrap64; omega
   have hh := hS1.have_
   have hf := hS1.frozen 72
   have d1 : decide ((m : Int) > 0) = true := zd1 (by omega)
   have d2 : decide (0 < m) = true := zd1 hlt
   have o1 := eq_true (show (0 : Int) ≤ (H : Int) by omega)
   have o2 := eq_true (show (H : Int) ≤ 64 by omega)
   have o3 := eq_false (show ¬ 64 = H by omega)
   have o4 := eq_true (show (0 : Int) ≤ (k : Int) by omega)
   have o5 := eq_true (show (k : Int) ≤ (m : Int) by omega)
   have HNE := zA hne
   clear hlt hne had hS1 hbk hH hHL hm hk hp
   go_wp2
   refine start_ (n := 11) (S := fun w' => w'.cell? ⟨g, 72, none⟩ = some (.int .i64 (H : Int))) (ds := [9]) (qq 11 0) (by kernel_rfl) rfl (by kernel_rfl) hh (fun hHeld => ?_); refine with_tabW sha_Write.tab3 sha_Write.bits3 (fun HT_ HW_ => ?_)
   refine ord_ [(0, 0, 1), (0, 1, 3), (0, 2, 7), (0, 3, 15), (0, 4, 31), (0, 5, 63), (0, 8, 319), (1, 6, 383), (0, 7, 511)] ?_
   repeat (first | (refine kk_ 0 ?_; refine oP_ (v := ?_) (a' := ?_) HT_ rfl rfl (by kernel_rfl) (fun _ _ _ h => h) (Or.inl ⟨by rfl, ?_⟩) ?_ ?_; rotate_left; (intro w'; go_simp; with_reducible rfl); rotate_left; (simp only [Act.put, zs1, zs2, zs3, i64_w, i32_w]; rfl)) | (refine kk_ 1 ?_; refine oT_ (v := ?_) (a' := ?_) HT_ HW_ rfl rfl (by kernel_rfl) (fun _ _ _ h => h) (Or.inl ⟨by rfl, ?_⟩) hHeld ?_ ?_; rotate_left; (rintro w' s0; go_simp; with_reducible rfl); rotate_left; (simp only [Act.put, zs1, zs2, zs3, i64_w, i32_w]; rfl)))
   refine oend_ ?_
   refine last_ (i := 9) (N := some 28) (qq 11 1023) rfl rfl (one_of HT_.out (by kernel_rfl)) (by decide) (fun K hK => ?_)
   refine copy_ (by rfl) rfl (.tmp 26) (.tmp 27) 33 33 rfl 5 Try.underlying33 (by kernel_rfl) g (8 + H) _ _ ad _ _ (by rfl) (by rfl) (stCells (shFull (bs ++ ys) ((bs ++ ys).length / 64)) blk (H : Int) (N : Int)) 116 HS1.out.row ((rs.take k).map (Value.int .u8)) ?_ ?_ ?_ (by intro q hq; obtain ⟨z, _, rfl⟩ := List.mem_map.1 hq; rfl) ?_
   ·rw [List.length_map, List.length_take, Nat.min_eq_left HMK.out.1]; exact HK.out
   ·exact fun j v hj => rd_src HAD.out HMK.out.1 j v hj
   ·rw [List.length_map, List.length_take, stCells_len HS1.out.h8 HS1.out.b64]; have h1 := HMK.out; omega
   rw [st_copy HS1.out.h8 HS1.out.b64 (by rw [List.length_take]; have h1 := HMK.out; omega), show ((rs.take k).map (Value.int .u8)).length = k by rw [List.length_map, List.length_take]; have h1 := HMK.out; omega]
   intro w2 hA hg
   refine hK.out _ _ ?_
   clear hK K
   refine norm_ (a' := ?_) ?_ ?_
   rotate_left
   ·show Act.put _ (some 28) _ = _
    simp only [Act.put, zs1, zs2, zs3, i64_w, i32_w]
    rfl
   refine pure_ (i := 10) (N := some 4) (v := ?_) (a' := ?_) (qq 11 2047) rfl rfl (any_of HT_.out (by kernel_rfl)) (fun _ _ _ h => h) (Or.inl ⟨by rfl, ?_⟩) ?_ ?_
   rotate_left
   ·intro w'
    go_simp
    with_reducible rfl
   rotate_left
   ·simp only [Act.put, zs1, zs2, zs3, i64_w, i32_w]
    rfl
   refine done_ (done_of HT_.out (by kernel_rfl)) ?_
   obtain ⟨zs, hzs⟩ : ∃ zs, zs = rs.take k := ⟨_, rfl⟩
   have hzl : zs.length = k := by rw [hzs, List.length_take]; have := HMK.out.1; omega
   have HZ := zA (And.intro hzs hzl)
   obtain ⟨blk', hB⟩ : ∃ blk', blk' = blk.take H ++ zs ++ blk.drop (H + zs.length) := ⟨_, rfl⟩
   rw [← hzs, ← hB] at hA
   have HB := zA hB
   have hS2 : Sta w2 g (shFull (bs ++ ys) ((bs ++ ys).length / 64)) blk' (H : Int) (N : Int) := ⟨HS1.out.h8, by rw [hB]; exact st_copy_len HS1.out.b64 (by rw [hzl]; exact HMK.out.2.1), hA⟩
   have HS2 := zA hS2
   replace HR := zA (HR.out.grown (grown_drew hg rfl rfl rfl rfl))
   replace HG := zA (grown_trans HG.out (grown_drew hg rfl rfl rfl rfl))
   have h64 := HS1.out.b64
   have HB64 := zA h64
   clear hh hf HS1 hA hg hzs hzl hB HST HAD h64
   have hh := hS2.have_
   clear hS2
   try go_wp2
   refine start_ (n := 14) (S := fun w' => w'.cell? ⟨g, 72, none⟩ = some (.int .i64 (H : Int))) (ds := [12]) (qq 14 0) (by kernel_rfl) rfl (by kernel_rfl) hh (fun hHeld => ?_); refine with_tabW sha_Write.tab4 sha_Write.bits4 (fun HT_ HW_ => ?_)
   refine ord_ [(0, 0, 1), (0, 1, 3), (0, 2, 7), (0, 3, 15), (0, 5, 47), (0, 7, 175), (0, 8, 431), (0, 9, 943), (1, 4, 959), (0, 6, 1023), (0, 10, 2047), (0, 11, 4095)] ?_
   repeat (first | (refine kk_ 0 ?_; refine oP_ (v := ?_) (a' := ?_) HT_ rfl rfl (by kernel_rfl) (fun _ _ _ h => h) (Or.inl ⟨by rfl, ?_⟩) ?_ ?_; rotate_left; (intro w'; go_simp; with_reducible rfl); rotate_left; (simp only [Act.put, zs1, zs2, zs3, i64_w, i32_w]; rfl)) | (refine kk_ 1 ?_; refine oT_ (v := ?_) (a' := ?_) HT_ HW_ rfl rfl (by kernel_rfl) (fun _ _ _ h => h) (Or.inl ⟨by rfl, ?_⟩) hHeld ?_ ?_; rotate_left; (rintro w' s0; go_simp; with_reducible rfl); rotate_left; (simp only [Act.put, zs1, zs2, zs3, i64_w, i32_w]; rfl)))
   refine oend_ ?_
   refine last_ (i := 12) (N := none) (qq 14 8191) rfl rfl (one_of HT_.out (by kernel_rfl)) (by decide) (fun K hK => ?_)
   refine Sta.store_have_ (h := HS2.out.drew) (by rfl) rfl 3 (.tmp 40) (.tmp 35) rfl (by rfl) (by rfl) (by kernel_rfl) ?_
   intro w3 hA hg
   refine hK.out _ _ ?_
   clear hK K
   refine pure_ (i := 13) (N := some 1) (v := ?_) (a' := ?_) (qq 14 16383) rfl rfl (any_of HT_.out (by kernel_rfl)) (fun _ _ _ h => h) (Or.inl ⟨by rfl, ?_⟩) ?_ ?_
   rotate_left
   ·intro w'
    go_simp
    with_reducible rfl
   rotate_left
   ·simp only [Act.put, zs1, zs2, zs3, i64_w, i32_w]
    rfl
   refine done_ (done_of HT_.out (by kernel_rfl)) ?_
   rw [e1] at hA
   obtain ⟨A2, hA2⟩ : ∃ A2 : Option Addr, (if c' = k then some ad else some (ad.add k)) = A2 := ⟨_, rfl⟩
   obtain ⟨c2, hc2⟩ : ∃ c2 : Nat, c' - k = c2 := ⟨_, rfl⟩
   obtain ⟨vs, hvs⟩ : ∃ vs, vs = rs.drop k := ⟨_, rfl⟩
   have hvl : m - k = vs.length := by rw [hvs, List.length_drop, HM.out]
   have hrs : rs = zs ++ vs := by rw [HZ.out.1, hvs, List.take_append_drop]
   have hR2 : Rd8 w3 g A2 vs := by
    have h0 := HR.out.grown (grown_drew hg rfl rfl rfl rfl)
    rw [hrs] at h0
    refine h0.drop A2 (fun hne => ?_)
    have h1 : 0 < vs.length := List.length_pos_iff.2 hne
    have h2 := HY.out.2.1
    rw [← HM.out] at h2
    rw [← hA2, if_neg (by omega), HZ.out.2]
   have h3 : vs.length ≤ c2 := by have h2 := HY.out.2.1; rw [← HM.out] at h2; omega
   have h4 : b = (ys ++ zs) ++ vs := by rw [HY.out.1, hrs, List.append_assoc]
   have h5 : vs.length < k1 := by have h2 := HY.out.2.2; have h0 := HM.out; have h6 := HMK.out.1; have := HMK.out.2.2; omega
   rw [hA2, hc2, hvl]
   replace HR := zA hR2
   replace HG := zA (grown_trans HG.out (grown_drew hg rfl rfl rfl rfl))
   replace HY := zA (And.intro h4 (And.intro h3 h5))
   have HS3 := zA hA
   clear hh hA2 hc2 hvs hvl hrs hR2 h3 h4 h5 hg
   have hh := hA.have_
   clear hA e1 d1 d2 o1 o2 o3 o4 o5
   by_cases hp : p = 64
   ·have HP64 := zA hp
    have d1 : ((p : Int) == 64) = true := by rw [hp]; rfl
    have d2 : (p : Int) = 64 := by rw [hp]; rfl
    clear hp
    go_wp2_with (first | ((with_reducible refine gate_callee (f := 74) rfl ?_); refine goesL_ (some 47) rfl rfl Try.func74 (by kernel_rfl) rfl #[.pointer (some ⟨g, 0, none⟩)] rfl (by simp only [zm1, zm2, zm3]; rfl) ?_; refine (sha_take.calls g _ _ _ _ _ HS3.out).mono ?_; rintro e w4 ⟨rfl, hS4, hg4⟩; refine ⟨_, rfl, ?_⟩; have HS4 := zA hS4; have HG4 := zA hg4; clear hS4 hg4))
    go_roundg k1
    case measure => omega
    case rel =>
     refine ⟨ys ++ zs, vs, A2, c2, rfl, HY, ⟨HR.out.grown HG4.out⟩, ⟨?_⟩, ⟨grown_trans HG.out HG4.out⟩⟩
     have hfull := stW_full (bs := bs ++ ys) (ys := zs) (blk := blk) (by rw [← HH.out.1]; exact HBK.out) HB64.out (by rw [← HH.out.1, HZ.out.2, ← HP.out]; exact HP64.out) (by rw [HZ.out.2]; exact HMK.out.2.2)
     rw [← HH.out.1, ← HB.out, List.append_assoc] at hfull
     refine ⟨blk', ?_, by rw [hfull.1, List.take_zero, List.drop_eq_nil_of_le (by have := hfull.1; omega)]⟩
     rw [hfull.1, hfull.2]
     exact HS4.out
   ·have HP64 := zA hp
    have d1 : ((p : Int) == 64) = false := by rw [beq_eq_false_iff_ne]; omega
    have d2 : ¬ (p : Int) = 64 := by omega
    clear hp
    go_wp2
    go_roundg k1
    case measure => omega
    case rel =>
     refine ⟨ys ++ zs, vs, A2, c2, rfl, HY, HR, ⟨?_⟩, HG⟩
     have hmore := stW_more (bs := bs ++ ys) (ys := zs) (blk := blk) (by rw [← HH.out.1]; exact HBK.out) HB64.out (by rw [← HH.out.1, HZ.out.2]; have h1 := HMK.out.2.1; have h2 := HP.out; have h3 := HP64.out; omega)
     rw [← HH.out.1, ← HB.out, List.append_assoc] at hmore
     refine ⟨blk', ?_, hmore.2.2⟩
     rw [hmore.2.1, hmore.1, HZ.out.2, ← HP.out]
     exact HS3.out
  ·have hr0 : rs = [] := List.eq_nil_of_length_eq_zero (by omega)
   subst hr0
   clear hlt
   go_wp2
   refine bodyPost_end (results_none rfl _ _ _) rfl ⟨rfl, ?_, HG.out⟩
   have hb := HY.out.1
   rw [List.append_nil] at hb
   have h := HST.out
   rw [← hb] at h
   rw [List.length_append, ← HN.out]
   exact h
def shaTail (n k : Nat) : List Int := (List.range k).map fun i => (shr .u64 (IntKind.u64.wrap ((IntKind.u64.wrap ((n : Nat) : Int)) * 8)) (((56 - 8 * i : Nat)) : Int)) % 256
def shaEnd (n : Nat) : List Int := ([128] ++ List.replicate ((119 - n % 64) % 64) 0) ++ shaTail n 8
theorem end_l1 (n : Nat) (x : List Int) (hx : x.length < 1000) : ∀ (i k : Nat), i ≤ 8 → 9 - i ≤ k → sha_end.l1 k (n : Int) (x ++ shaTail n i) (i : Int) = some (x ++ shaTail n 8)
 | i, 0, h, hk => by omega
 | i, k + 1, h, hk => by
  have hl : (x ++ shaTail n i).length < 140737488355328 := by rw [List.length_append, shaTail, List.length_map, List.length_range]; omega
  unfold sha_end.l1
  by_cases h8 : i < 8
  ·have e1 : wrap64 (8 * (i : Int)) = 8 * (i : Int) := by unfold wrap64; omega
   have e2 : wrap64 (56 - 8 * (i : Int)) = ((56 - 8 * i : Nat) : Int) := by unfold wrap64; omega
   have e3 : wrap64 ((i : Int) + 1) = ((i + 1 : Nat) : Int) := by unfold wrap64; omega
   rw [if_pos (by omega), e1, e2, e3, if_pos (by omega), if_pos hl, List.append_assoc]
   have hs : shaTail n i ++ [(shr .u64 (IntKind.u64.wrap ((IntKind.u64.wrap ((n : Nat) : Int)) * 8)) ((56 - 8 * i : Nat) : Int)) % 256] = shaTail n (i + 1) := by
    rw [shaTail, shaTail, List.range_succ, List.map_append]
    rfl
   rw [hs]
   exact end_l1 n x hx (i + 1) k (by omega) (by omega)
  ·obtain rfl : i = 8 := by omega
   rw [if_neg (by omega)]
theorem end_l0 (n : Nat) (hn : n ≤ 281474976710656) : ∀ (z k : Nat) (x : List Int), x.length < 200 → z < 64 → (n + x.length + z) % 64 = 56 → (∀ y, y < z → (n + x.length + y) % 64 ≠ 56) → z + 12 ≤ k → x.length + z < 200 → sha_end.l0 k (n : Int) x = some ((x ++ List.replicate z 0) ++ shaTail n 8)
 | z, 0, x, _, _, _, _, hk, _ => by omega
 | 0, k + 1, x, hx, _, hz, _, hk, _ => by
  unfold sha_end.l0
  have e1 : Int.tmod (wrap64 ((n : Int) + (x.length : Int))) 64 = (((n + x.length) % 64 : Nat) : Int) := by
   rw [show wrap64 ((n : Int) + (x.length : Int)) = ((n + x.length : Nat) : Int) by unfold wrap64; omega]
   rw [Int.tmod_eq_emod_of_nonneg (by omega)]
   omega
  rw [e1, if_pos (by omega), List.replicate_zero, List.append_nil]
  have h := end_l1 n x (by omega) 0 k (by omega) (by omega)
  rw [show shaTail n 0 = [] from rfl, List.append_nil] at h
  exact h
 | z + 1, k + 1, x, hx, hz6, hz, hy, hk, hl => by
  unfold sha_end.l0
  have e1 : Int.tmod (wrap64 ((n : Int) + (x.length : Int))) 64 = (((n + x.length) % 64 : Nat) : Int) := by
   rw [show wrap64 ((n : Int) + (x.length : Int)) = ((n + x.length : Nat) : Int) by unfold wrap64; omega]
   rw [Int.tmod_eq_emod_of_nonneg (by omega)]
   omega
  have h0 := hy 0 (by omega)
  rw [Nat.add_zero] at h0
  rw [e1, if_neg (by omega), if_pos (by omega)]
  have h := end_l0 n hn z k (x ++ [0]) (by rw [List.length_append, List.length_singleton]; omega) (by omega) (by rw [List.length_append, List.length_singleton, ← hz]; congr 1; omega)
   (fun y hy1 => by have := hy (y + 1) (by omega); rw [List.length_append, List.length_singleton, show n + (x.length + 1) + y = n + x.length + (y + 1) by omega]; exact this) (by omega) (by rw [List.length_append, List.length_singleton]; omega)
  rw [h, show x ++ [0] ++ List.replicate z 0 = x ++ List.replicate (z + 1) 0 by rw [List.append_assoc, List.replicate_succ]; rfl]
theorem end_at (n : Nat) (hn : n ≤ 281474976710656) : sha_end.f 100 (n : Int) = some (shaEnd n) := by
 unfold sha_end.f shaEnd
 have hq : n % 64 < 64 := Nat.mod_lt _ (by decide)
 refine end_l0 n hn ((119 - n % 64) % 64) 100 [128] (by decide) (Nat.mod_lt _ (by decide)) ?_ ?_ ?_ ?_
 ·rw [List.length_singleton]; omega
 ·intro y hy; rw [List.length_singleton]; omega
 ·have := Nat.mod_lt (119 - n % 64) (show 0 < 64 by decide); omega
 ·have := Nat.mod_lt (119 - n % 64) (show 0 < 64 by decide); rw [List.length_singleton]; omega
theorem shaEnd_len (n : Nat) : (n + (shaEnd n).length) % 64 = 0 ∧ (shaEnd n).length ≤ 72 := by
 unfold shaEnd shaTail
 simp only [List.length_append, List.length_replicate, List.length_map, List.length_range, List.length_singleton]
 have := Nat.mod_lt (119 - n % 64) (show 0 < 64 by decide)
 omega
def outK (x : Int) (O : List Int) (i : Nat) : Nat → List Int
 | 0 => O
 | k + 1 => (outK x O i k).set (4 * i + k) ((shr .u32 x ((24 - 8 * k : Nat) : Int)) % 256)
def outT (hs : List Int) : Nat → List Int
 | 0 => List.replicate 32 0
 | i + 1 => outK (hs[i]?.getD 0) (outT hs i) i 4
theorem outK_len (x : Int) (O : List Int) (i k : Nat) : (outK x O i k).length = O.length := by
 induction k with
 | zero => rfl
 | succ k ih => rw [outK, List.length_set, ih]
theorem outT_len (hs : List Int) (i : Nat) : (outT hs i).length = 32 := by
 induction i with
 | zero => simp [outT]
 | succ i ih => rw [outT, outK_len, ih]
def shaSum (bs : List Int) : List Int := outT (shFull (bs ++ shaEnd bs.length) ((bs ++ shaEnd bs.length).length / 64)) 8
theorem shaSum_len (bs : List Int) : (shaSum bs).length = 32 := outT_len _ _
theorem StN.n_ {w : World} {g : Nat} {bs : List Int} {N : Int} (h : StN w g bs N) : w.cell? ⟨g, 73, none⟩ = some (.int .i64 N) := by
 obtain ⟨blk, h1, h2⟩ := h.at_
 exact h1.n_
theorem arr_reads {w : World} {g : Nat} {e : TypeId} {k : IntKind} {xs : List Int} (h : Arr w g e k xs) (hl : xs.length ≤ 9223372036854775807) : ReadsInt w k (some ⟨g, 0, none⟩) xs.length xs := by
 refine ⟨rfl, hl, fun _ => ⟨_, rfl, fun j hj => ?_⟩⟩
 have ha : (⟨g, 0, none⟩ : Addr).add j = ⟨g, j, none⟩ := by unfold Addr.add; split <;> simp_all
 rw [ha]
 exact h.cell j hj
theorem Rd8.of_R {w : World} {g e base : Nat} {ok : Nat → Prop} {v : Value} {r : List Int} (h : Kd.R (Kd.int .u8) e w base ok v r) (hg : g < base) : ∃ (A : Option Addr) (c : Nat), v = .slice A r.length c ∧ r.length ≤ c ∧ Rd8 w g A r := by
 have ho : w.ownsRow base e 1 v r.length (nums .u8 r) := Kd.own_of_R h
 obtain ⟨hl, ⟨rfl, h0⟩ | ⟨b, cap, cur, rfl, hb, hheap, hn, hm, hs, ht⟩⟩ := ho
 ·exact ⟨none, 0, by rw [h0], by omega, fun hne => absurd (List.length_pos_iff.2 hne) (by omega)⟩
 ·refine ⟨_, cap, rfl, hn, fun _ => ⟨_, rfl, fun (he : b = g) => by omega, fun j hj => ?_⟩⟩
  have ha : (⟨b, 0, none⟩ : Addr).add j = ⟨b, j, none⟩ := by unfold Addr.add; split <;> simp_all
  rw [ha, zc1 hheap]
  have h1 : cur[j]? = (nums .u8 r)[j]? := by
   rw [← ht, List.getElem?_take, if_pos (by omega)]
   simp
  rw [h1]
  unfold nums
  rw [List.getElem?_map, List.getElem?_eq_getElem hj]
  rfl
set_option maxHeartbeats 8000000 in
set_option maxRecDepth 100000 in
theorem sha_StateSum.calls (g : Nat) (bs : List Int) (w : World) (hS : StN w g bs (bs.length : Int)) (hlen : bs.length ≤ 281474976710656) :
    Calls Try.prog 71 #[.pointer (some ⟨g, 0, none⟩)] w fun e w' => e = .returned (.string (strOfNums (shaSum bs))) ∧ Below w.heap.size w w' := by
 have HLEN := zA hlen
 have HS := zA hS
 obtain ⟨blk, hS1, hbk⟩ := hS.at_
 have HS1 := zA hS1
 have HBK := zA hbk
 obtain ⟨l, hl⟩ : ∃ l : Nat, l = bs.length := ⟨_, rfl⟩
 have HLL := zA hl
 clear hlen hS hbk hS1 hl
 go_enter Try.func71, Try.ntmps71
 go_wp2_with (first
  | ((with_reducible refine gate_callee (f := 75) rfl ?_); refine goesL_ (some 11) rfl rfl Try.func75 (by kernel_rfl) rfl #[.pointer (some ⟨g, 0, none⟩)] rfl (by simp only [zm1, zm2, zm3]; rfl) ?_; refine (sha_Copy.calls g _ _ _ _ _ HS1.out).mono ?_; rintro e w1 ⟨g1, rfl, hg1, hS1, hb1⟩; refine ⟨_, rfl, ?_⟩; have HC : Aside0 (StN w1 g1 bs (bs.length : Int)) := ⟨⟨_, hS1, HBK.out⟩⟩; have HB := zA hb1; have hn := (HS.out.below hb1).n_; rw [← HLL.out] at hn; have HG1 := zA hg1; clear hS1 hb1 hg1)
  | ((with_reducible refine gate_callee (f := 76) rfl ?_); refine goesL_ (some 17) rfl rfl Try.func76 (by kernel_rfl) rfl #[.int .i64 (l : Int)] rfl (by simp only [zm1, zm2, zm3]; rfl) ?_; refine (sha_end.calls 100 (l : Int) (shaEnd l) _ (end_at l (by have h1 := HLEN.out; have h2 := HLL.out; omega))).mono ?_; rintro e w2 ⟨v0, rfl, hR, hb2⟩; obtain ⟨A, c, rfl, hc, hRd⟩ := Rd8.of_R hR HC.out.lt; refine ⟨_, rfl, ?_⟩; have HRD := zA (And.intro hc hRd); replace HC := zA (HC.out.below hb2); replace HB := zA (HB.out.trans (belowTo hb2 HB.out.size)); clear hn hR hb2 hc hRd)
  | ((with_reducible refine gate_callee (f := 70) rfl ?_); refine goesL_ (some 18) rfl rfl Try.func70 (by kernel_rfl) rfl #[.pointer (some ⟨g1, 0, none⟩), .slice A (shaEnd l).length c] rfl (by simp only [zm1, zm2, zm3]; rfl) ?_; refine (sha_Write.calls g1 bs A c (shaEnd l) _ HC.out HRD.out.2 HRD.out.1 (by have h1 := HLEN.out; have h2 := (shaEnd_len l).2; omega)).mono ?_; rintro e w3 ⟨rfl, hS3, hg3⟩; refine ⟨_, rfl, ?_⟩; replace HB := zA (belowBy HB.out hg3 HB.out.size (fun k hk => by have := HG1.out; have := Option.some.inj hk; omega)); have HC3 := zA hS3; clear hS3 hg3 HC HRD)
  | ((with_reducible refine gate_dst (N := 4) rfl ?_); refine box_event ?hg (N := 4) ?hd (cs := ((List.replicate 32 0).map (Value.int .u8)).toArray) (t := 118) ?hr ?_; (case hd => rfl); (case hg => rfl); (case hr => first | (go_simp; done) | (go_simp; rfl)); intro g2 hg2 w4 hA hq; have HA : Aside0 (Arr w4 g2 118 .u8 (List.replicate 32 0)) := ⟨hA⟩; have HG2 := zA (show w.heap.size ≤ g2 ∧ g1 ≠ g2 from ⟨by have := HB.out.size; omega, by have := HC3.out.lt; omega⟩); replace HC3 := zA (HC3.out.below hq); replace HB := zA (HB.out.trans (belowTo hq HB.out.size)); obtain ⟨blk4, hS4, _⟩ := HC3.out.at_; obtain ⟨V, hV⟩ : ∃ V, V = shFull (bs ++ shaEnd l) ((bs ++ shaEnd l).length / 64) := ⟨_, rfl⟩; rw [← hV] at hS4; have HV := zA hV; have HVL := zA (show V.length = 8 by rw [hV]; exact shFull_len _ _); have HS4 := zA hS4; clear hA hq hg2 hS4 hV)
  | ((with_reducible refine gate_dst (N := 22) rfl ?_); refine Kd.event_run rfl (run_load_of (x := .pointer (some ⟨g1, 0, none⟩)) 112 (.tmp 21) rfl rfl (HS4.out.run_h 112 Try.underlying112 rfl (by kernel_rfl))) ?_))
 clear HC3 HS4
 go_loopg [23] 9 (fun kq v23 w' => ∃ i : Nat, v23 = .int .i64 (i : Int) ∧ Aside0 (i + kq = 9 ∧ i ≤ 8) ∧ Aside0 (Arr w' g2 118 .u8 (outT V i)) ∧ Aside0 (Below w.heap.size w w'))
 case atStart => exact ⟨0, rfl, ⟨by omega, by omega⟩, HA, HB⟩
 case round =>
  clear HA HB
  obtain ⟨i, rfl, hk, HA, HB⟩ := hrel
  by_cases hlt : i < 8
  ·obtain ⟨k1, rfl⟩ : ∃ k1, gk = k1 + 1 := ⟨gk - 1, by have := hk.out; omega⟩
   have HI := zA hlt
   have d1 : decide ((i : Int) < 8) = true := zd1 (by omega)
   have d2 : decide (i < 8) = true := zd1 hlt
   have hw : wrap64 ((i : Int) + 1) = ((i + 1 : Nat) : Int) := by unfold wrap64; omega
   have HW := zA hw
   clear hlt hw
   go_wp2_with (first | ((with_reducible refine gate_dst (N := 26) rfl ?_); refine index_arr rfl 112 53 8 (.tmp 22) (.tmp 23) rfl (kk := .u32) V i rfl rfl Try.underlying112 Try.underlying53 rfl (by kernel_rfl) HVL.out HI.out ?_))
   obtain ⟨X, hX⟩ : ∃ X, X = V[i]?.getD 0 := ⟨_, rfl⟩
   have HX := zA hX
   rw [← hX]
   clear d1 d2 hX
   go_loopg [27] 5 (fun jq v27 w' => ∃ j : Nat, v27 = .int .i64 (j : Int) ∧ Aside0 (j + jq = 5 ∧ j ≤ 4) ∧ Aside0 (Arr w' g2 118 .u8 (outK X (outT V i) i j)) ∧ Aside0 (Below w.heap.size w w'))
   case atStart => exact ⟨0, rfl, ⟨by omega, by omega⟩, HA, HB⟩
   case round =>
    clear HA HB
    obtain ⟨j, rfl, hj, HA, HB⟩ := hrel
    by_cases hlj : j < 4
    ·obtain ⟨j1, rfl⟩ : ∃ j1, gk = j1 + 1 := ⟨gk - 1, by have := hj.out; omega⟩
     have HJ := zA hlj
     have d1 : decide ((j : Int) < 4) = true := zd1 (by omega)
     have d2 : decide (j < 4) = true := zd1 hlj
     obtain ⟨q, hq⟩ : ∃ q : Nat, q = 4 * i + j := ⟨_, rfl⟩
     obtain ⟨s, hs⟩ : ∃ s : Nat, s = 24 - 8 * j := ⟨_, rfl⟩
     have e1 : wrap64 (4 * (i : Int)) = 4 * (i : Int) := by have := HI.out; unfold wrap64; omega
     have e2 : wrap64 (4 * (i : Int) + (j : Int)) = (q : Int) := by have := HI.out; unfold wrap64; omega
     have e3 : wrap64 (8 * (j : Int)) = 8 * (j : Int) := by unfold wrap64; omega
     have e4 : wrap64 (24 - 8 * (j : Int)) = (s : Int) := by unfold wrap64; omega
     have hw : wrap64 ((j : Int) + 1) = ((j + 1 : Nat) : Int) := by unfold wrap64; omega
     have HWJ := zA hw
     have p3 := eq_true (show (0 : Int) ≤ (q : Int) by omega)
     have p4 := eq_true (show (q : Int) < 32 by have := HI.out; omega)
     have p5 := eq_true (show (0 : Int) ≤ (s : Int) by omega)
     have HQ := zA (And.intro hq hs)
     have HQ32 := zA (show q < 32 by have := HI.out; omega)
     clear hw hlj hq hs
     go_wp2_with (first | ((with_reducible refine gate_store (t := 5) (p := 40) (v := .tmp 39) rfl ?_); refine store_arr rfl rfl 5 (.tmp 40) (.tmp 39) rfl (g := g2) (j := q) (k := .u8) rfl rfl (by kernel_rfl) HA.out (by rw [outK_len, outT_len]; exact HQ32.out) ?_; intro w9 hA hg; replace HA := zA hA; replace HB := zA (belowBy HB.out hg HB.out.size (fun k hk => by have := HG2.out.1; have := Option.some.inj hk; omega)); clear hA hg))
     clear p3 p4 p5 e1 e2 e3 e4 d1 d2
     go_roundg j1
     case measure => omega
     case rel => exact ⟨j + 1, by rw [HWJ.out], ⟨by have := hj.out; omega, by have := HJ.out; omega⟩, ⟨by have h1 := HA.out; rw [outK, ← HQ.out.1, ← HQ.out.2]; exact h1⟩, HB⟩
    ·have hje : j = 4 := by have := hj.out; omega
     have d1 : decide ((j : Int) < 4) = false := zd2 (by omega)
     have d2 : decide (j < 4) = false := zd2 hlj
     rw [hje] at HA
     clear hlj hje
     go_wp2
     clear d1 d2
     go_roundg k1
     case measure => omega
     case rel => exact ⟨i + 1, by rw [HW.out], ⟨by have := hk.out; omega, by have := HI.out; omega⟩, ⟨by have h1 := HA.out; rw [outT, ← HX.out]; exact h1⟩, HB⟩
  ·have hie : i = 8 := by have := hk.out; omega
   have d1 : decide ((i : Int) < 8) = false := zd2 (by omega)
   have d2 : decide (i < 8) = false := zd2 hlt
   rw [hie] at HA
   clear hlt hie
   have hsl : (outT V 8).length = 32 := outT_len _ _
   have hcv := string_of_reads (P := Try.prog) (c := 32) Try.underlying33 Try.underlying5 Try.underlying9 (arr_reads HA.out (by rw [hsl]; omega))
   rw [hsl] at hcv
   clear hsl
   go_wp2
   go_ret
   refine ⟨?_, HB.out⟩
   rw [HV.out, HLL.out]
   rfl
theorem StN.new {w : World} {g : Nat} (h : Sta w g shaFirst (List.replicate 64 0) 0 0) : StN w g [] (([] : List Int).length : Int) := ⟨⟨_, h, rfl⟩⟩
def sha_Sum.f (l0 : List Int) : Option ByteArray := if l0.length ≤ 281474976710656 then some (strOfNums (shaSum l0)) else none
set_option maxHeartbeats 8000000 in
set_option maxRecDepth 100000 in
theorem sha_Sum.calls (A0 : Option Addr) (c0 : Nat) (l0 : List Int) (r : ByteArray) (w : World) (hr0 : Kd.C (Kd.int .u8) w A0 l0.length l0) (hc0 : l0.length ≤ c0) (h : sha_Sum.f l0 = some r) :
    Calls Try.prog 64 #[.slice A0 l0.length c0] w fun e w' => e = .returned (.string r) ∧ Below w.heap.size w w' := by
 unfold sha_Sum.f at h
 by_cases hl : l0.length ≤ 281474976710656
 ·rw [if_pos hl] at h
  obtain rfl := Option.some.inj h
  have HL := zA hl
  have HC := zA hc0
  have HR := zA hr0
  clear h hl hc0 hr0
  go_enter Try.func64, Try.ntmps64
  go_wp2_with (first
   | ((with_reducible refine gate_callee (f := 69) rfl ?_); refine goesL_ (some 4) rfl rfl Try.func69 (by kernel_rfl) rfl #[] rfl (by simp) ?_; refine (sha_New.calls _).mono ?_; rintro e w1 ⟨g, rfl, hg, hS1, hb1⟩; refine ⟨_, rfl, ?_⟩; have HS1 := zA (StN.new hS1); have HB := zA hb1; have HG := zA hg; have HRD : Aside0 (Rd8 w1 g A0 l0) := ⟨Rd8.of_C (Kd.C_below HR.out hb1) (fun hp ad e => by have h1 := HR.out; rw [e] at h1; have h2 := Kd.C_lt h1 hp (by decide); omega)⟩; clear hS1 hb1 hg)
   | ((with_reducible refine gate_callee (f := 70) rfl ?_); refine goesL_ (some 7) rfl rfl Try.func70 (by kernel_rfl) rfl #[.pointer (some ⟨g, 0, none⟩), .slice A0 l0.length c0] rfl (by simp only [zm1, zm2, zm3]; rfl) ?_; refine (sha_Write.calls g [] A0 c0 l0 _ HS1.out HRD.out HC.out (by have h1 := HL.out; show 0 + l0.length < _; omega)).mono ?_; rintro e w3 ⟨rfl, hS3, hg3⟩; refine ⟨_, rfl, ?_⟩; replace HB := zA (belowBy HB.out hg3 HB.out.size (fun k hk => by have := HG.out; have := Option.some.inj hk; omega)); have HS3 := zA hS3; clear hS3 hg3 HS1 HRD)
   | ((with_reducible refine gate_callee (f := 71) rfl ?_); refine goesL_ (some 9) rfl rfl Try.func71 (by kernel_rfl) rfl #[.pointer (some ⟨g, 0, none⟩)] rfl (by simp only [zm1, zm2, zm3]; rfl) ?_; refine (sha_StateSum.calls g l0 _ HS3.out HL.out).mono ?_; rintro e w4 ⟨rfl, hb4⟩; refine ⟨_, rfl, ?_⟩; replace HB := zA (HB.out.trans (belowTo hb4 HB.out.size)); clear hb4 HS3))
  go_ret
  exact ⟨rfl, HB.out⟩
 ·rw [if_neg hl] at h
  cases h

end Go.Proofs.Ytkihlcmjjoiccaa.PMatchCosts
