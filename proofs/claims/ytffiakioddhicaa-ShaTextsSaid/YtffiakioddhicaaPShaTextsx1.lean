-- Written by a program of this session (the kit's printer with hand-written contracts among its functions).
import Derived.Test.YtffiakioddhicaaPShaTextsx0
namespace Go.Proofs.Ytffiakioddhicaa.PShaTexts
open Go.RowKit Go.Proofs.YtffiakioddhicaaW.PrintWords Go.Proofs.YtffiakioddhicaaW.PrintLast Go.Proofs.YtffiakioddhicaaW.PrintMore
attribute [local go_sem] max2_int min2_int max_two min_two max_three min_three max_four min_four   -- for this text's walks alone
set_option linter.unusedVariables false
set_option linter.unusedSimpArgs false

/-! ### sha_value: function 11 -/
def sha_value.j0 : Nat → Int → Bool → Option (Int)
  | 0, _, _ => none
  | k + 1, x0, x3 => if x3 = true then (some ((x0 - 48) % 256)) else (if x0 ≥ 97 then (if x0 ≤ 102 then (some ((((x0 - 97) % 256) + 10) % 256)) else (some 16)) else (some 16))
def sha_value.f (k : Nat) (a0 : Int) : Option (Int) := if a0 ≥ 48 then (sha_value.j0 k a0 (decide (a0 ≤ 57))) else (sha_value.j0 k a0 false)
theorem sha_value.mono_l : ∀ k, (∀ y0 y1, LeO (sha_value.j0 k y0 y1) (sha_value.j0 (k + 1) y0 y1))
  | 0 => fun _ _ r h => by simp [sha_value.j0] at h
  | k + 1 => by
    have ih0 := sha_value.mono_l k
    · intro y0 y1
      unfold sha_value.j0
      repeat' first
      | (with_reducible exact ih0 _ _)
      | (with_reducible exact LeO.refl _)
      | (with_reducible exact LeO.none _)
      | (with_reducible refine LeO.ite ?_ ?_)
      | (with_reducible refine LeO.bind ?_ (fun _ => ?_))
      | exact ih0 _ _
      | exact LeO.none _
      | refine LeO.ite ?_ ?_
      | refine LeO.bind ?_ (fun _ => ?_)
theorem sha_value.mono : ∀ a0 k, LeO (sha_value.f k a0) (sha_value.f (k + 1) a0) := by
  intro a0 k
  have ih0 := sha_value.mono_l k
  unfold sha_value.f
  repeat' first
      | (with_reducible exact ih0 _ _)
      | (with_reducible exact LeO.refl _)
      | (with_reducible exact LeO.none _)
      | (with_reducible refine LeO.ite ?_ ?_)
      | (with_reducible refine LeO.bind ?_ (fun _ => ?_))
      | exact ih0 _ _
      | exact LeO.none _
      | refine LeO.ite ?_ ?_
      | refine LeO.bind ?_ (fun _ => ?_)
set_option maxHeartbeats 8000000 in
set_option maxRecDepth 100000 in
theorem sha_value.calls (k : Nat) (a0 : Int) (r : Int) (w : World) (h : sha_value.f k a0 = some r) :
    Calls Try.prog 11 #[.int .u8 a0] w fun e w' => e = .returned (.int .u8 r) ∧ Drawn0 w w' := by
  have H : (if a0 ≥ 48 then (sha_value.j0 k a0 (decide (a0 ≤ 57))) else (sha_value.j0 k a0 false)) = some r := h
  clear h
  have HC2 := Aside0.mk H
  clear H
  go_enter Try.func11, Try.ntmps11
  go_upto_region 1 with (fail)
  go_cut [3] (fun v3 wc => ∃ (kq : Nat) (x3_1 : Bool), v3 = .bool x3_1 ∧ Aside0 (sha_value.j0 kq a0 x3_1 = some r) ∧ Aside0 (kq ≤ k) ∧ Drawn0 w wc)
  case first =>
    have H := HC2.out
    clear HC2
    by_cases c3 : a0 ≥ 48
    · rw [if_pos c3] at H
      have c3b0 : decide (48 ≤ a0) = true := decide_eq_true c3
      clear c3
      (first | rw [c3b0] | (simp only [i64_w, i32_w]; rw [c3b0]) | skip)
      have H' := Aside0.mk H
      clear H
      go_wp2
      go_meet
      case rel => exact ⟨_, (decide (a0 ≤ 57)), (by first | rfl | (simp; done) | (simp [*]; done)), H', ⟨by first | omega | exact Nat.le_refl _⟩, by repeat (first | exact Drawn0.refl _ | apply Drawn0.step)⟩
    · rw [if_neg c3] at H
      have c3b0 : decide (48 ≤ a0) = false := decide_eq_false c3
      clear c3
      (first | rw [c3b0] | (simp only [i64_w, i32_w]; rw [c3b0]) | skip)
      have H' := Aside0.mk H
      clear H
      go_wp2
      go_meet
      case rel => exact ⟨_, (false), (by first | rfl | (simp; done) | (simp [*]; done)), H', ⟨by first | omega | exact Nat.le_refl _⟩, by repeat (first | exact Drawn0.refl _ | apply Drawn0.step)⟩
  case rest =>
    clear HC2
    try clear c1
    try clear p2
    try clear c3
    try clear c3b0
    obtain ⟨kq, x3_1, rfl, HA, HJ1, ⟨mc1, rfl⟩⟩ := hcut
    cases kq with
    | zero => exact absurd HA.out (by simp [sha_value.j0])
    | succ kj1 =>
      have H := HA.out
      clear HA
      simp only [sha_value.j0] at H
      by_cases c4 : x3_1 = true
      · subst c4
        have H1 : (some ((a0 - 48) % 256)) = some r := by rw [if_pos rfl] at H; exact H
        clear H
        have H := H1
        clear H1
        obtain rfl := Option.some.inj H
        go_wp2
        go_ret
        exact ⟨by first | rfl | (simp; done) | (simp [*]; done), by repeat (first | exact Drawn0.refl _ | apply Drawn0.step)⟩
      · replace c4 := Bool.eq_false_iff.mpr c4
        subst c4
        have H1 : (if a0 ≥ 97 then (if a0 ≤ 102 then (some ((((a0 - 97) % 256) + 10) % 256)) else (some 16)) else (some 16)) = some r := by rw [if_neg (show ¬ (false = true) by decide)] at H; exact H
        clear H
        have H := H1
        clear H1
        by_cases c5 : a0 ≥ 97
        · rw [if_pos c5] at H
          have c5b0 : decide (97 ≤ a0) = true := decide_eq_true c5
          clear c5
          by_cases c6 : a0 ≤ 102
          · rw [if_pos c6] at H
            have c6b0 : decide (a0 ≤ 102) = true := decide_eq_true c6
            clear c6
            obtain rfl := Option.some.inj H
            go_wp2
            go_ret
            exact ⟨by first | rfl | (simp; done) | (simp [*]; done), by repeat (first | exact Drawn0.refl _ | apply Drawn0.step)⟩
          · rw [if_neg c6] at H
            have c6b0 : decide (a0 ≤ 102) = false := decide_eq_false c6
            clear c6
            obtain rfl := Option.some.inj H
            go_wp2
            go_ret
            exact ⟨by first | rfl | (simp; done) | (simp [*]; done), by repeat (first | exact Drawn0.refl _ | apply Drawn0.step)⟩
        · rw [if_neg c5] at H
          have c5b0 : decide (97 ≤ a0) = false := decide_eq_false c5
          clear c5
          obtain rfl := Option.some.inj H
          go_wp2
          go_ret
          exact ⟨by first | rfl | (simp; done) | (simp [*]; done), by repeat (first | exact Drawn0.refl _ | apply Drawn0.step)⟩

/-! ### sha_Parse: function 5 -/
/-- A block that holds an array of numbers, and nothing else. -/
def ArrP_ (w : World) (g : Nat) (e : TypeId) (k : IntKind) (xs : List Int) : Prop := w.heap[g]? = some (.cells (xs.map (Value.int k)).toArray e (0, 0))
theorem ArrP_.lt {w : World} {g : Nat} {e : TypeId} {k : IntKind} {xs : List Int} (h : ArrP_ w g e k xs) : g < w.heap.size := blk_lt h
theorem ArrP_.below {w w1 : World} {g : Nat} {e : TypeId} {k : IntKind} {xs : List Int} (h : ArrP_ w g e k xs) (hb : Below w.heap.size w w1) : ArrP_ w1 g e k xs := blk_below h hb
theorem ArrP_.grown {w w1 : World} {g : Nat} {e : TypeId} {k : IntKind} {xs : List Int} {row : Option Nat} (h : ArrP_ w g e k xs) (hg : w.grownBy w1 row) (hne : some g ≠ row) : ArrP_ w1 g e k xs := blk_grown h hg hne
theorem ArrP_.cell {w : World} {g : Nat} {e : TypeId} {k : IntKind} {xs : List Int} (h : ArrP_ w g e k xs) (i : Nat) (hi : i < xs.length) : w.cell? ⟨g, i, none⟩ = some (.int k (xs.getD i 0)) := by
  rw [blk_cell h, List.getElem?_toArray, List.getElem?_map, List.getElem?_eq_getElem hi, List.getD_eq_getElem?_getD, List.getElem?_eq_getElem hi]
  rfl
theorem ArrP_.drew {w : World} {g : Nat} {e : TypeId} {k : IntKind} {xs : List Int} (h : ArrP_ w g e k xs) : ArrP_ w.drew g e k xs := h
theorem ArrP_.frozen {w : World} {g : Nat} {e : TypeId} {k : IntKind} {xs : List Int} (h : ArrP_ w g e k xs) (i : Nat) : w.frozen? ⟨g, i, none⟩ = false := blk_frozen h i
theorem ArrP_.put {w : World} {g : Nat} {e : TypeId} {k : IntKind} {xs : List Int} (h : ArrP_ w g e k xs) (i : Nat) (x : Int) : ArrP_ (w.setCell ⟨g, i, none⟩ (.int k x)) g e k (xs.set i x) := by
  refine blk_put h i _ ?_
  rw [List.map_set, List.setIfInBounds_toArray]
theorem ArrP_.putD {w : World} {g : Nat} {e : TypeId} {k : IntKind} {xs : List Int} (h : ArrP_ w g e k xs) (m i : Nat) (x : Int) : ArrP_ ((w.drewN m).setCell ⟨g, i, none⟩ (.int k x)) g e k (xs.set i x) := ArrP_.put (w := w.drewN m) h i x
theorem belowToP_ {n m : Nat} {w W : World} (h : Below n w W) (hm : m ≤ n) : Below m w W := ⟨h.os, h.tape, h.output, h.size, fun k hk => h.block k (Nat.lt_of_lt_of_le hk hm)⟩
theorem belowByP_ {base : Nat} {w W W1 : World} {row : Option Nat} (h : Below base w W) (hg : W.grownBy W1 row) (hbase : base ≤ W.heap.size) (hr : ∀ k, row = some k → base ≤ k) : Below base w W1 :=
  ⟨hg.os.trans h.os, hg.tape.trans h.tape, hg.output.trans h.output, Nat.le_trans h.size hg.size, fun k hk => (hg.block k (by omega) (fun e => by have := hr k e.symm; omega)).trans (h.block k hk)⟩
theorem grown_cellsP_ (w : World) (g j : Nat) (seg : List Value) : w.grownBy (w.setCells g j seg) (some g) := by
  obtain ⟨h1, h2, h3, h4⟩ := setCells_same g seg j w
  exact ⟨h1, h2, h3, Nat.le_of_eq h4.symm, fun k hk hne => setCells_far seg j k (fun e => hne (by rw [e]))⟩
theorem grown_putDP_ (w : World) (m g j : Nat) (v : Value) : w.grownBy ((w.drewN m).setCell ⟨g, j, none⟩ v) (some g) := by
  have h := grown_cellsP_ (w.drewN m) g j [v]
  exact ⟨h.os, h.tape, h.output, h.size, h.block⟩
/-- Some cells of a block, read at once. -/
theorem run_load_segP_ {P : Program} (w : World) (g o : Nat) (t ty : TypeId) (cs : Array Value) (d : TypeDesc) (seg : List Value) (hg : w.heap[g]? = some (.cells cs t (0, 0)))
    (hu : P.underlying ty = some d) (hd : (match d with | .struct _ | .array _ _ => true | _ => false) = true) (hi : (P.info? ty).map (·.size) = some seg.length) (hs : ∀ j v, seg[j]? = some v → cs[o + j]? = some v) :
    (Instr.loadAt ty (.pointer (some ⟨g, o, none⟩))).run P w = .ok (.agg seg.toArray) w := by
  have hl : (loadCells ⟨g, o, none⟩ seg.length).run P w = .ok seg.toArray w :=
    run_loadCells_list (P := P) w ⟨g, o, none⟩ seg (fun j v hv => by
      have hadd : (⟨g, o, none⟩ : Addr).add j = ⟨g, o + j, none⟩ := by unfold Addr.add; split <;> simp_all
      rw [hadd, cell_of_row w g _ cs t (0, 0) hg]
      exact hs j v hv)
  cases hq : P.info? ty with
  | none => simp [hq] at hi
  | some i =>
    have hz : i.size = seg.length := by simpa [hq] using hi
    have hagg : (isAgg ty).run P w = .ok true w := by
      unfold isAgg
      rw [Sem.run_bind, run_underlying hu w]
      cases d <;> simp_all
    simp [Instr.loadAt, Instr.sureAddr, loadVar, Sem.run_bind, hagg, sizeOf, typeInfo, hq, hz, hl]
section
variable {P : Program} {ops : Array Oper} {rest : List Oper} {o : Oper} {a : Act} {Q : Exit → Act → World → Prop}
/-- A store of some cells into a block that is known. -/
theorem store_segP_ {W : World} (hgd : o.guard = none) (hN : o.dst = none) (t : TypeId) (p x : Operand) (ho : o.op = .store t p x) {g j : Nat} {e : TypeId} {cs cs' : Array Value} {u : Value} (seg : List Value) (haddr : a.eval p = .pointer (some ⟨g, j, none⟩)) (hx : a.eval x = u) (hu : u.cells.toList = seg) (ht : (P.info? t).map (·.size) = some seg.length) (h1 : ∀ q ∈ seg, q.oneCell' = true)
    (hb : W.heap[g]? = some (.cells cs e (0, 0))) (hj : j + seg.length ≤ cs.size) (hcs : (W.setCells g j seg).heap[g]? = some (.cells cs' e (0, 0)))
    (h : ∀ w1, w1.heap[g]? = some (.cells cs' e (0, 0)) → W.grownBy w1 (some g) → wpList P ops Q rest a w1) : wpList P ops Q (o :: rest) a W := by
  refine wpList_plain hgd fun K hK => ?_
  have hrun : (Instr.storeAt t (.pointer (some ⟨g, j, none⟩)) u).run P W = .ok () (W.setCells g j seg) := run_store_run t u seg hb hu ht hj h1
  unfold Oper.wp execOp
  simp only [ho, haddr, hx, Sem.run_bind, Sem.run_pure, Result.andThen_ok, hrun]
  show K (a.put o.dst undef) _
  rw [hN]
  exact hK a _ (h _ hcs (grown_cellsP_ W g j seg))
/-- One number into an array. -/
theorem store_arrP_ {W : World} (hgd : o.guard = none) (hN : o.dst = none) (t : TypeId) (p x : Operand) (ho : o.op = .store t p x) {g j : Nat} {e : TypeId} {k : IntKind} {xs : List Int} {u : Int} (haddr : a.eval p = .pointer (some ⟨g, j, none⟩)) (hx : a.eval x = .int k u) (ht : (P.info? t).map (·.size) = some 1)
    (hb : ArrP_ W g e k xs) (hj : j < xs.length) (h : ∀ w1, ArrP_ w1 g e k (xs.set j u) → W.grownBy w1 (some g) → wpList P ops Q rest a w1) : wpList P ops Q (o :: rest) a W :=
  store_segP_ hgd hN t p x ho [.int k u] haddr hx rfl ht (by simp [Value.oneCell']) hb (by simp; omega) (hb.put j u) h
/-- A whole array into a block. -/
theorem store_rowP_ {W : World} (hgd : o.guard = none) (hN : o.dst = none) (t : TypeId) (p x : Operand) (ho : o.op = .store t p x) {g : Nat} {e : TypeId} {k : IntKind} {xs ys : List Int} (haddr : a.eval p = .pointer (some ⟨g, 0, none⟩)) (hx : a.eval x = .agg (ys.map (Value.int k)).toArray) (ht : (P.info? t).map (·.size) = some ys.length)
    (hb : ArrP_ W g e k xs) (hj : ys.length = xs.length) (h : ∀ w1, ArrP_ w1 g e k ys → W.grownBy w1 (some g) → wpList P ops Q rest a w1) : wpList P ops Q (o :: rest) a W := by
  obtain ⟨cur', h3, h4, h5⟩ := setCells_row (ys.map (Value.int k)) 0 W _ hb (by simp; omega)
  have h6 : cur' = (ys.map (Value.int k)).toArray := by
    apply Array.toList_inj.1
    rw [h5]
    simp [hj]
  subst h6
  exact store_segP_ hgd hN t p x ho (ys.map (Value.int k)) haddr hx (by simp [Value.cells]) (by rw [ht]; simp) (by intro q hq; obtain ⟨z, _, rfl⟩ := List.mem_map.1 hq; rfl) hb (by simp; omega) h3 h
/-- An array read whole. -/
theorem load_rowP_ {W : World} (hgd : o.guard = none) {N : Tmp} (hd : o.dst = some N) (t : TypeId) (p : Operand) (ho : o.op = .load t p) {g : Nat} {e e' : TypeId} {n : Nat} {k : IntKind} {xs : List Int} (haddr : a.eval p = .pointer (some ⟨g, 0, none⟩)) (hu : P.underlying t = some (.array n e')) (ht : (P.info? t).map (·.size) = some xs.length)
    (hb : ArrP_ W g e k xs) (h : wpList P ops Q rest (a.put o.dst (.agg (xs.map (Value.int k)).toArray)) W) : wpList P ops Q (o :: rest) a W := by
  have hr := run_load_segP_ (P := P) W g 0 e t _ _ (xs.map (Value.int k)) hb hu rfl (by rw [ht]; simp) (fun j v hv => by rw [Nat.zero_add, List.getElem?_toArray]; exact hv)
  refine Kd.event_run hgd ?_ h
  unfold execOp
  simp only [ho, haddr, Sem.run_bind, Sem.run_pure, Result.andThen_ok, hr]
/-- An array written out. -/
theorem build_rowP_ {W : World} (hgd : o.guard = none) (t : TypeId) (parts : Array (Nat × Operand)) (ho : o.op = .build t parts) {k : IntKind} (ys : List Int) (hc : P.built t (parts.map fun (i, x) => (i, a.eval x)).toList = some (ys.map (Value.int k)).toArray)
    (h : wpList P ops Q rest (a.put o.dst (.agg (ys.map (Value.int k)).toArray)) W) : wpList P ops Q (o :: rest) a W := by
  refine Kd.event_run hgd ?_ h
  unfold execOp
  simp only [ho, Sem.run_bind, run_build W t _ _ hc, Result.andThen_ok]
  rfl
end
theorem arr_readsP_ {w : World} {g : Nat} {e : TypeId} {k : IntKind} {xs : List Int} (h : ArrP_ w g e k xs) (hl : xs.length ≤ 9223372036854775807) : ReadsInt w k (some ⟨g, 0, none⟩) xs.length xs := by
  refine ⟨rfl, hl, fun _ => ⟨_, rfl, fun j hj => ?_⟩⟩
  have ha : (⟨g, 0, none⟩ : Addr).add j = ⟨g, j, none⟩ := by unfold Addr.add; split <;> simp_all
  rw [ha]
  exact h.cell j hj
/-- A growth ahead of which there were only draws. -/
theorem grown_drewP_ {W W0 W1 : World} {r : Option Nat} (hg : W0.grownBy W1 r) (h1 : W0.heap = W.heap) (h2 : W0.os = W.os) (h3 : W0.tape = W.tape) (h4 : W0.output = W.output) : W.grownBy W1 r :=
  ⟨hg.os.trans h2, hg.tape.trans h3, hg.output.trans h4, by rw [← h1]; exact hg.size, fun k hk hne => (hg.block k (by rw [h1]; exact hk) hne).trans (by rw [h1])⟩
/-- '==' of two arrays of numbers. -/
theorem run_eq_arr {P : Program} (w : World) (d t e n : Nat) {k kk : IntKind} (xs ys : List Int) (ht : P.underlying t = some (.array n e)) (he : P.underlying e = some (.int kk)) (hs : (P.info? e).map (·.size) = some 1) (hx : xs.length = n) (hy : ys.length = n) :
    (Op.equalIn (d + 2) t (.agg (xs.map (Value.int k)).toArray) (.agg (ys.map (Value.int k)).toArray)).run P w = .ok (decide (xs = ys)) w := by
  have hagg : (isAgg e).run P w = .ok false w := by
    unfold isAgg
    rw [Sem.run_bind, run_underlying he w]
    rfl
  obtain ⟨i0, hi, hz⟩ := Option.map_eq_some_iff.1 hs
  have hpart : ∀ (zs : List Int) (i : Nat), i < zs.length → (part e (zs.map (Value.int k)).toArray i).run P w = .ok (.int k (zs[i]?.getD 0)) w := fun zs i hl => by
    have hc : (zs.map (Value.int k)).toArray[i]? = some (.int k (zs[i]?.getD 0)) := by
      rw [List.getElem?_toArray, List.getElem?_map, List.getElem?_eq_getElem hl]
      rfl
    simp only [part, Sem.run_bind, hagg, Result.andThen_ok, hc]
    rfl
  have heq : ∀ a b : Int, (Op.equalIn (d + 1) e (.int k a) (.int k b)).run P w = .ok (a == b) w := fun a b => by
    simp [Op.equalIn, run_underlying he]
  have hsize : (sizeOf e).run P w = .ok 1 w := by simp [sizeOf, typeInfo, hi, hz]
  have hiff : decide (xs = ys) = decide (∀ i ∈ List.range' 0 n, xs[i]?.getD 0 = ys[i]?.getD 0) := by
    refine decide_eq_decide.2 ⟨fun h i _ => by rw [h], fun h => List.ext_getElem (by omega) (fun i h1 h2 => ?_)⟩
    have h3 := h i (List.mem_range'_1.2 ⟨by omega, by omega⟩)
    rw [List.getElem?_eq_getElem h1, List.getElem?_eq_getElem h2] at h3
    exact h3
  have each : ∀ i ∈ List.range' 0 n, i < n := fun i hi => by have := (List.mem_range'_1.1 hi).2; omega
  rw [hiff, show d + 2 = (d + 1) + 1 from rfl, Op.equalIn]
  simp only [Sem.run_bind, run_underlying ht, Result.andThen_ok, hsize]
  simp only [Std.Legacy.Range.forIn_eq_forIn_range', Std.Legacy.Range.size, Nat.sub_zero, Nat.add_sub_cancel, Nat.div_one]
  generalize List.range' 0 n = is at each ⊢
  clear hiff
  induction is with
  | nil => simp
  | cons i is ih =>
    have hi1 : i < n := each i (by simp)
    have p1 := hpart xs i (by omega)
    have p2 := hpart ys i (by omega)
    have ih' := ih (fun y hy => each y (by simp [hy]))
    by_cases h : xs[i]?.getD 0 = ys[i]?.getD 0
    · have hb : (xs[i]?.getD 0 == ys[i]?.getD 0) = true := by simp [h]
      simp only [List.forIn_cons, Sem.run_bind, Nat.mul_one, p1, p2, Result.andThen_ok, heq, hb, Bool.not_true, Bool.false_eq_true, if_false, Sem.run_pure]
      simp only [Nat.mul_one, Sem.run_bind] at ih'
      rw [ih']
      simp [h]
    · have hb : (xs[i]?.getD 0 == ys[i]?.getD 0) = false := by simp [h]
      simp only [List.forIn_cons, Sem.run_bind, Nat.mul_one, p1, p2, Result.andThen_ok, heq, hb, Bool.not_false, if_true, Sem.run_pure]
      simp [h]
/-- What a digit says; 16: it is none. -/
def dv (c : Int) : Int := if 48 ≤ c ∧ c ≤ 57 then c - 48 else if 97 ≤ c ∧ c ≤ 102 then c - 97 + 10 else 16
theorem value_j0 (k : Nat) (c : Int) (x : Bool) : sha_value.j0 (k + 1) c x = if x = true then some ((c - 48) % 256) else (if c ≥ 97 then (if c ≤ 102 then some ((((c - 97) % 256) + 10) % 256) else some 16) else some 16) := rfl
theorem value_at (c : Int) (h : 0 ≤ c ∧ c ≤ 255) : sha_value.f 2 c = some (dv c) := by
  unfold sha_value.f dv
  rw [value_j0 1, value_j0 1]
  by_cases h1 : 48 ≤ c ∧ c ≤ 57
  · have e : decide (c ≤ 57) = true := decide_eq_true h1.2
    rw [if_pos (show c ≥ 48 from h1.1), if_pos h1, e, if_pos rfl]
    congr 1
    omega
  · rw [if_neg h1]
    have hr : (if c ≥ 97 then (if c ≤ 102 then some ((((c - 97) % 256) + 10) % 256) else some 16) else some 16) = some (if 97 ≤ c ∧ c ≤ 102 then c - 97 + 10 else 16) := by
      by_cases h2 : 97 ≤ c
      · by_cases h3 : c ≤ 102
        · rw [if_pos h2, if_pos h3, if_pos ⟨h2, h3⟩]
          congr 1
          omega
        · rw [if_pos h2, if_neg h3, if_neg (fun h => h3 h.2)]
      · rw [if_neg h2, if_neg (fun h => h2 h.1)]
    by_cases h2 : c ≥ 48
    · have e : decide (c ≤ 57) = false := decide_eq_false (fun h => h1 ⟨h2, h⟩)
      rw [if_pos h2, e, if_neg (by simp)]
      exact hr
    · rw [if_neg h2, if_neg (by simp)]
      exact hr
theorem dv_range (c : Int) : 0 ≤ dv c ∧ dv c ≤ 16 := by
  unfold dv
  split
  · omega
  · split <;> omega
def pX (a0 : ByteArray) (i : Nat) : Int := dv (bt a0 ((2 * i : Nat) : Int))
def pY (a0 : ByteArray) (i : Nat) : Int := dv (bt a0 ((2 * i + 1 : Nat) : Int))
def pGood (a0 : ByteArray) (i : Nat) : Bool := (List.range i).all fun j => decide (pX a0 j ≤ 15) && decide (pY a0 j ≤ 15)
theorem pGood_succ (a0 : ByteArray) (i : Nat) : pGood a0 (i + 1) = (pGood a0 i && (decide (pX a0 i ≤ 15) && decide (pY a0 i ≤ 15))) := by
  unfold pGood
  rw [List.range_succ, List.all_append]
  simp
theorem pGood_bad (a0 : ByteArray) (i : Nat) (hi : i < 32) (h : pX a0 i > 15 ∨ pY a0 i > 15) : pGood a0 32 = false := by
  cases hg : pGood a0 32 with
  | false => rfl
  | true =>
    unfold pGood at hg
    have h1 := List.all_eq_true.1 hg i (List.mem_range.2 hi)
    rw [Bool.and_eq_true] at h1
    have h2 := of_decide_eq_true h1.1
    have h3 := of_decide_eq_true h1.2
    omega
def prsN (a0 : ByteArray) : Nat → List Int
  | 0 => List.replicate 32 0
  | i + 1 => (prsN a0 i).set i (16 * pX a0 i + pY a0 i)
theorem prsN_len (a0 : ByteArray) (i : Nat) : (prsN a0 i).length = 32 := by
  induction i with
  | zero => simp [prsN]
  | succ i ih => rw [prsN, List.length_set, ih]
def sha_Parse.f (a0 : ByteArray) : Option (ByteArray × Int) := if (a0.size : Int) = 64 then (if pGood a0 32 = true then some (strOfNums (prsN a0 32), 0) else some ((⟨#[]⟩ : ByteArray), 5)) else some ((⟨#[]⟩ : ByteArray), 5)
def sha_Parse.T7 : Bool × List (List Nat × List Nat) := (true, [([], []), ([], []), ([1], [1]), ([0, 2], [0, 2]), ([3], [3]), ([], []), ([], []), ([6], [6]), ([7], [7]), ([5, 8], [5, 8]), ([9, 4], [9]), ([4, 10, 0, 1, 2, 3, 4], [4]), ([10, 11, 0, 1, 2, 3, 4, 5, 6, 7, 8, 9, 10, 11], [10])])
def sha_Parse.B7 : List Nat := [0, 0, 2, 7, 15, 0, 0, 64, 192, 480, 1023, 2047, 4095]
theorem sha_Parse.tab7 : rtab .any (opsOf Try.f5 7) = sha_Parse.T7 := by kernel_rfl
theorem sha_Parse.bits7 : waitsOk sha_Parse.T7.2 sha_Parse.B7 = true := by kernel_rfl
set_option maxHeartbeats 8000000 in
set_option maxRecDepth 100000 in
theorem sha_Parse.calls (a0 : ByteArray) (r1 : ByteArray) (r2 : Int) (w : World) (h : sha_Parse.f a0 = some (r1, r2)) :
    Calls Try.prog 5 #[.string a0] w fun e w' => e = .returned (.tuple #[.string r1, .int .i64 r2]) ∧ Below w.heap.size w w' := by
  unfold sha_Parse.f at h
  by_cases h64 : (a0.size : Int) = 64
  · rw [if_pos h64] at h
    have HF := Aside0.mk h
    have H64 := Aside0.mk h64
    have hb0 : ((a0.size : Int) != 64) = false := by rw [h64]; rfl
    have hb1 : ¬ a0.size ≠ 64 := by omega
    have hb2 : a0.size = 64 := by omega
    have HB64 := Aside0.mk hb2
    clear h h64 hb1 hb2
    go_enter Try.func5, Try.ntmps5
    go_wp2_with (first
      | ((with_reducible refine gate_dst (N := 4) rfl ?_); refine box_event ?hg (N := 4) ?hd (cs := ((List.replicate 32 0).map (Value.int .u8)).toArray) (t := 31) ?hr ?_; (case hd => rfl); (case hg => rfl); (case hr => first | (go_simp; done) | (go_simp; rfl)); intro g1 hg1 w1 hA hq; have HA1 : Aside0 (ArrP_ w1 g1 31 .u8 (List.replicate 32 0)) := ⟨hA⟩; have HB := Aside0.mk hq; have HG1 := Aside0.mk (show w.heap.size ≤ g1 by omega); clear hA hq hg1;
         refine box_event ?hg (N := 5) ?hd (cs := ((List.replicate 32 0).map (Value.int .u8)).toArray) (t := 31) ?hr ?_; (case hd => rfl); (case hg => rfl); (case hr => first | (go_simp; done) | (go_simp; rfl)); intro g2 hg2 w2 hA hq; have HA2 : Aside0 (ArrP_ w2 g2 31 .u8 (List.replicate 32 0)) := ⟨hA⟩; have HG2 := Aside0.mk (show w.heap.size ≤ g2 ∧ g1 ≠ g2 from ⟨by have := HB.out.size; omega, by have := blk_lt HA1.out; omega⟩); replace HA1 := Aside0.mk (show ArrP_ w2 g1 31 .u8 (List.replicate 32 0) from blk_below HA1.out hq); replace HB := Aside0.mk (HB.out.trans (belowToP_ hq HB.out.size)); clear hA hq hg2))
    clear hb0
    go_loopg [12] 33 (fun kq v12 w' => ∃ i : Nat, v12 = .int .i64 (i : Int) ∧ Aside0 (i + kq = 33 ∧ i ≤ 32 ∧ pGood a0 i = true) ∧ Aside0 (ArrP_ w' g1 31 .u8 (prsN a0 i)) ∧ Aside0 (ArrP_ w' g2 31 .u8 (List.replicate 32 0)) ∧ Aside0 (Below w.heap.size w w'))
    case atStart => exact ⟨0, rfl, ⟨by omega, by omega, rfl⟩, HA1, HA2, HB⟩
    case round =>
      clear HA1 HA2 HB
      obtain ⟨i, rfl, hk, HA1, HA2, HB⟩ := hrel
      by_cases hlt : i < 32
      · obtain ⟨k1, rfl⟩ : ∃ k1, gk = k1 + 1 := ⟨gk - 1, by have := hk.out.1; omega⟩
        have HI := Aside0.mk hlt
        have d1 : decide ((i : Int) < 32) = true := decide_eq_true (by omega)
        have d2 : decide (i < 32) = true := decide_eq_true hlt
        have hw : wrap64 ((i : Int) + 1) = ((i + 1 : Nat) : Int) := by unfold wrap64; omega
        have HW := Aside0.mk hw
        obtain ⟨j1, hj1⟩ : ∃ j1 : Nat, j1 = 2 * i := ⟨_, rfl⟩
        obtain ⟨j2, hj2⟩ : ∃ j2 : Nat, j2 = 2 * i + 1 := ⟨_, rfl⟩
        have e1 : wrap64 (2 * (i : Int)) = (j1 : Int) := by unfold wrap64; omega
        have e2 : wrap64 ((j1 : Int) + 1) = (j2 : Int) := by unfold wrap64; omega
        have q0 := HB64.out
        have p1 := eq_true (show (0 : Int) ≤ (j1 : Int) by omega)
        have p2 := eq_true (show (j1 : Int) < (a0.size : Int) by omega)
        have p3 := eq_true (show (0 : Int) ≤ (j2 : Int) by omega)
        have p4 := eq_true (show (j2 : Int) < (a0.size : Int) by omega)
        have o0 := eq_true (show (0 : Int) ≤ (i : Int) by omega)
        have o1 := eq_true (show (i : Int) < 32 by omega)
        obtain ⟨b1, hb1⟩ : ∃ b1, bt a0 (j1 : Int) = b1 := ⟨_, rfl⟩
        obtain ⟨b2, hb2⟩ : ∃ b2, bt a0 (j2 : Int) = b2 := ⟨_, rfl⟩
        have hx1 : ∀ h : j1 < a0.size, ((a0[j1]'h).toNat : Int) = b1 := fun h => (bt_at a0 (j1 : Int) h).trans hb1
        have hx2 : ∀ h : j2 < a0.size, ((a0[j2]'h).toNat : Int) = b2 := fun h => (bt_at a0 (j2 : Int) h).trans hb2
        obtain ⟨X, hX⟩ : ∃ X, X = dv b1 := ⟨_, rfl⟩
        obtain ⟨Y, hY⟩ : ∃ Y, Y = dv b2 := ⟨_, rfl⟩
        have HX := Aside0.mk (show sha_value.f 2 b1 = some X by rw [hX]; exact value_at b1 (by rw [← hb1]; exact bt_range _ _))
        have HY := Aside0.mk (show sha_value.f 2 b2 = some Y by rw [hY]; exact value_at b2 (by rw [← hb2]; exact bt_range _ _))
        have HXR := Aside0.mk (show 0 ≤ X ∧ X ≤ 16 by rw [hX]; exact dv_range _)
        have HYR := Aside0.mk (show 0 ≤ Y ∧ Y ≤ 16 by rw [hY]; exact dv_range _)
        have HP := Aside0.mk (show pX a0 i = X ∧ pY a0 i = Y from ⟨by rw [pX, hX, ← hb1, hj1], by rw [pY, hY, ← hb2, hj2]⟩)
        clear hlt hw hj1 hj2 q0 hb1 hb2 hX hY
        go_wp2
        refine start_ (n := 13) (S := fun w' => True) (ds := []) #[false, false, false, false, false, false, false, false, false, false, false, false, false] (by kernel_rfl) rfl rfl trivial (fun hHeld => ?_); refine with_tabW sha_Parse.tab7 sha_Parse.bits7 (fun HT_ HW_ => ?_)
        refine pure_ (i := 0) (N := some 15) (v := ?_) (a' := ?_) #[true, false, false, false, false, false, false, false, false, false, false, false, false] rfl rfl (any_of HT_.out (by kernel_rfl)) (fun _ _ _ h => h) (Or.inl ⟨by rfl, ?_⟩) ?_ ?_
        rotate_left
        · intro w'
          go_simp
          with_reducible rfl
        rotate_left
        · simp only [Act.put, List.setIfInBounds_toArray, List.set_cons_zero, List.set_cons_succ, i64_w, i32_w]
          rfl
        refine pure_ (i := 1) (N := some 16) (v := ?_) (a' := ?_) #[true, true, false, false, false, false, false, false, false, false, false, false, false] rfl rfl (any_of HT_.out (by kernel_rfl)) (fun _ _ _ h => h) (Or.inl ⟨by rfl, ?_⟩) ?_ ?_
        rotate_left
        · intro w'
          go_simp
          with_reducible rfl
        rotate_left
        · simp only [Act.put, List.setIfInBounds_toArray, List.set_cons_zero, List.set_cons_succ, i64_w, i32_w]
          rfl
        refine pure_ (i := 2) (N := some 17) (v := ?_) (a' := ?_) #[true, true, true, false, false, false, false, false, false, false, false, false, false] rfl rfl (any_of HT_.out (by kernel_rfl)) (fun _ _ _ h => h) (Or.inl ⟨by rfl, ?_⟩) ?_ ?_
        rotate_left
        · intro w'
          go_simp
          with_reducible rfl
        rotate_left
        · simp only [Act.put, List.setIfInBounds_toArray, List.set_cons_zero, List.set_cons_succ, i64_w, i32_w]
          rfl
        refine pure_ (i := 3) (N := some 18) (v := ?_) (a' := ?_) #[true, true, true, true, false, false, false, false, false, false, false, false, false] rfl rfl (any_of HT_.out (by kernel_rfl)) (fun _ _ _ h => h) (Or.inl ⟨by rfl, ?_⟩) ?_ ?_
        rotate_left
        · intro w'
          go_simp
          with_reducible rfl
        rotate_left
        · simp only [Act.put, List.setIfInBounds_toArray, List.set_cons_zero, List.set_cons_succ, i64_w, i32_w]
          rfl
        refine pure_ (i := 5) (N := some 20) (v := ?_) (a' := ?_) #[true, true, true, true, false, true, false, false, false, false, false, false, false] rfl rfl (any_of HT_.out (by kernel_rfl)) (fun _ _ _ h => h) (Or.inl ⟨by rfl, ?_⟩) ?_ ?_
        rotate_left
        · intro w'
          go_simp
          with_reducible rfl
        rotate_left
        · simp only [Act.put, List.setIfInBounds_toArray, List.set_cons_zero, List.set_cons_succ, i64_w, i32_w]
          rfl
        refine pure_ (i := 6) (N := some 21) (v := ?_) (a' := ?_) #[true, true, true, true, false, true, true, false, false, false, false, false, false] rfl rfl (any_of HT_.out (by kernel_rfl)) (fun _ _ _ h => h) (Or.inl ⟨by rfl, ?_⟩) ?_ ?_
        rotate_left
        · intro w'
          go_simp
          with_reducible rfl
        rotate_left
        · simp only [Act.put, List.setIfInBounds_toArray, List.set_cons_zero, List.set_cons_succ, i64_w, i32_w]
          rfl
        refine pure_ (i := 7) (N := some 22) (v := ?_) (a' := ?_) #[true, true, true, true, false, true, true, true, false, false, false, false, false] rfl rfl (any_of HT_.out (by kernel_rfl)) (fun _ _ _ h => h) (Or.inl ⟨by rfl, ?_⟩) ?_ ?_
        rotate_left
        · intro w'
          go_simp
          with_reducible rfl
        rotate_left
        · simp only [Act.put, List.setIfInBounds_toArray, List.set_cons_zero, List.set_cons_succ, i64_w, i32_w]
          rfl
        refine pure_ (i := 8) (N := some 23) (v := ?_) (a' := ?_) #[true, true, true, true, false, true, true, true, true, false, false, false, false] rfl rfl (any_of HT_.out (by kernel_rfl)) (fun _ _ _ h => h) (Or.inl ⟨by rfl, ?_⟩) ?_ ?_
        rotate_left
        · intro w'
          go_simp
          with_reducible rfl
        rotate_left
        · simp only [Act.put, List.setIfInBounds_toArray, List.set_cons_zero, List.set_cons_succ, i64_w, i32_w]
          rfl
        refine pure_ (i := 9) (N := some 24) (v := ?_) (a' := ?_) #[true, true, true, true, false, true, true, true, true, true, false, false, false] rfl rfl (any_of HT_.out (by kernel_rfl)) (fun _ _ _ h => h) (Or.inl ⟨by rfl, ?_⟩) ?_ ?_
        rotate_left
        · intro w'
          go_simp
          with_reducible rfl
        rotate_left
        · simp only [Act.put, List.setIfInBounds_toArray, List.set_cons_zero, List.set_cons_succ, i64_w, i32_w]
          rfl
        refine one_ (i := 4) (N := some 19) #[true, true, true, true, true, true, true, true, true, true, false, false, false] rfl rfl (one_of HT_.out (by kernel_rfl)) (by decide) (fun K hK => ?_)
        refine goes_ Try.func11 (by kernel_rfl) rfl #[.int .u8 b1] (by rfl) rfl rfl (by (try simp only [List.map_toArray, List.map_cons, List.map_nil]); first | done | rfl) ?_
        with_reducible refine (sha_value.calls 2 b1 X _ HX.out).mono ?_
        rintro e w' ⟨rfl, ⟨nd, rfl⟩⟩
        refine ⟨_, rfl, ?_⟩
        refine hK.out _ _ trivial (fun hHeld => ?_)
        clear hK K
        refine norm_ (a' := ?_) ?_ ?_
        rotate_left
        · show Act.put _ (some 19) _ = _
          simp only [Act.put, List.setIfInBounds_toArray, List.set_cons_zero, List.set_cons_succ, i64_w, i32_w]
          rfl
        refine one_ (i := 10) (N := some 25) #[true, true, true, true, true, true, true, true, true, true, true, false, false] rfl rfl (one_of HT_.out (by kernel_rfl)) (by decide) (fun K hK => ?_)
        refine goes_ Try.func11 (by kernel_rfl) rfl #[.int .u8 b2] (by rfl) rfl rfl (by (try simp only [List.map_toArray, List.map_cons, List.map_nil]); first | done | rfl) ?_
        with_reducible refine (sha_value.calls 2 b2 Y _ HY.out).mono ?_
        rintro e w' ⟨rfl, ⟨nd, rfl⟩⟩
        refine ⟨_, rfl, ?_⟩
        refine hK.out _ _ trivial (fun hHeld => ?_)
        clear hK K
        refine norm_ (a' := ?_) ?_ ?_
        rotate_left
        · show Act.put _ (some 25) _ = _
          simp only [Act.put, List.setIfInBounds_toArray, List.set_cons_zero, List.set_cons_succ, i64_w, i32_w]
          rfl
        refine pure_ (i := 11) (N := some 7) (v := ?_) (a' := ?_) #[true, true, true, true, true, true, true, true, true, true, true, true, false] rfl rfl (any_of HT_.out (by kernel_rfl)) (fun _ _ _ h => h) (Or.inl ⟨by rfl, ?_⟩) ?_ ?_
        rotate_left
        · intro w'
          go_simp
          with_reducible rfl
        rotate_left
        · simp only [Act.put, List.setIfInBounds_toArray, List.set_cons_zero, List.set_cons_succ, i64_w, i32_w]
          rfl
        refine pure_ (i := 12) (N := some 8) (v := ?_) (a' := ?_) #[true, true, true, true, true, true, true, true, true, true, true, true, true] rfl rfl (any_of HT_.out (by kernel_rfl)) (fun _ _ _ h => h) (Or.inl ⟨by rfl, ?_⟩) ?_ ?_
        rotate_left
        · intro w'
          go_simp
          with_reducible rfl
        rotate_left
        · simp only [Act.put, List.setIfInBounds_toArray, List.set_cons_zero, List.set_cons_succ, i64_w, i32_w]
          rfl
        refine done_ (done_of HT_.out (by kernel_rfl)) ?_
        clear hx1 hx2 p1 p2 p3 p4 e1 e2
        by_cases hbad : X > 15 ∨ Y > 15
        · have hg : pGood a0 32 = false := pGood_bad a0 i HI.out (by rw [HP.out.1, HP.out.2]; exact hbad)
          have hF := HF.out
          rw [hg, if_neg (by simp)] at hF
          obtain ⟨rfl, rfl⟩ := Prod.mk.inj (Option.some.inj hF)
          have HB3 := Aside0.mk (pw_below_drewN HB.out 1)
          by_cases hx : X > 15
          · have f1 : decide (X > 15) = true := decide_eq_true hx
            have f2 : decide (15 < X) = true := decide_eq_true hx
            clear hbad hx hF hg
            go_wp2
            refine bodyPost_ret (results_tmp2 rfl _ _ _) rfl ⟨rfl, by repeat (first | exact HB.out | apply below_drew1 | apply pw_below_drewN)⟩
          · have hy : Y > 15 := by omega
            have f1 : decide (X > 15) = false := decide_eq_false hx
            have f2 : decide (15 < X) = false := decide_eq_false hx
            have f3 : decide (Y > 15) = true := decide_eq_true hy
            have f4 : decide (15 < Y) = true := decide_eq_true hy
            clear hbad hx hy hF hg
            go_wp2
            refine bodyPost_ret (results_tmp2 rfl _ _ _) rfl ⟨rfl, by repeat (first | exact HB.out | apply below_drew1 | apply pw_below_drewN)⟩
        · have f1 : decide (X > 15) = false := decide_eq_false (fun h => hbad (Or.inl h))
          have f2 : decide (15 < X) = false := decide_eq_false (fun h => hbad (Or.inl h))
          have f3 : decide (Y > 15) = false := decide_eq_false (fun h => hbad (Or.inr h))
          have f4 : decide (15 < Y) = false := decide_eq_false (fun h => hbad (Or.inr h))
          have hgood : pGood a0 (i + 1) = true := by
            rw [pGood_succ, hk.out.2.2, HP.out.1, HP.out.2, decide_eq_true (show X ≤ 15 by omega), decide_eq_true (show Y ≤ 15 by omega)]
            rfl
          have HGD := Aside0.mk hgood
          have HXY := Aside0.mk (show X ≤ 15 ∧ Y ≤ 15 by omega)
          clear hbad hgood
          go_wp2_with (first | ((with_reducible refine gate_store (t := 5) (p := 37) (v := .tmp 36) rfl ?_); refine store_arrP_ rfl rfl 5 (.tmp 37) (.tmp 36) rfl (g := g1) (j := i) (k := .u8) rfl rfl (by kernel_rfl) HA1.out (by rw [prsN_len]; exact HI.out) ?_; intro w9 hA hg; have HA3 := Aside0.mk hA; have HA4 := Aside0.mk (HA2.out.grown (grown_drewP_ hg rfl rfl rfl rfl) (fun h => HG2.out.2 (Option.some.inj h).symm)); have HB4 := Aside0.mk (belowByP_ HB.out (grown_drewP_ hg rfl rfl rfl rfl) HB.out.size (fun k hk => by have := HG1.out; have := Option.some.inj hk; omega)); clear hA hg))
          go_roundg k1
          case measure => omega
          case rel =>
            refine ⟨i + 1, by rw [HW.out], ⟨by have := hk.out.1; omega, by have := HI.out; omega, HGD.out⟩, ⟨?_⟩, HA4, HB4⟩
            have h1 := HA3.out
            have h2 := HXY.out
            have h3 := HXR.out
            have h4 := HYR.out
            rw [show (16 * X % 256 + Y) % 256 = 16 * X + Y by omega] at h1
            rw [prsN, HP.out.1, HP.out.2]
            exact h1
      · have hie : i = 32 := by have := hk.out.2.1; omega
        have d1 : decide ((i : Int) < 32) = false := decide_eq_false (by omega)
        have d2 : decide (i < 32) = false := decide_eq_false hlt
        have hg32 : pGood a0 32 = true := by have h1 := hk.out.2.2; rw [hie] at h1; exact h1
        rw [hie] at HA1
        have hF := HF.out
        rw [if_pos hg32] at hF
        obtain ⟨rfl, rfl⟩ := Prod.mk.inj (Option.some.inj hF)
        have hl1 := prsN_len a0 32
        have hcv1 := string_of_reads (P := Try.prog) (c := 32) Try.underlying28 Try.underlying5 Try.underlying9 (arr_readsP_ HA1.out (by rw [hl1]; omega))
        have hcv2 := string_of_reads (P := Try.prog) (c := 32) Try.underlying28 Try.underlying5 Try.underlying9 (arr_readsP_ HA2.out (by rw [List.length_replicate]; omega))
        rw [hl1] at hcv1
        rw [List.length_replicate] at hcv2
        have heq := run_eq_arr (P := Try.prog) (k := .u8) wr 9998 31 5 32 (prsN a0 32) (List.replicate 32 0) Try.underlying31 Try.underlying5 (by kernel_rfl) hl1 (by rw [List.length_replicate])
        obtain ⟨O, hO⟩ : ∃ O, O = prsN a0 32 := ⟨_, rfl⟩
        obtain ⟨Z, hZ⟩ : ∃ Z, Z = List.replicate 32 (0 : Int) := ⟨_, rfl⟩
        rw [← hO] at hcv1 HA1 hl1
        rw [← hZ] at hcv2 HA2
        rw [← hO, ← hZ] at heq
        have HO := Aside0.mk hO
        have HZL := Aside0.mk (show Z.length = 32 by rw [hZ, List.length_replicate])
        have HOL := Aside0.mk hl1
        clear hlt hie hg32 hF hl1 hO hZ
        by_cases hoz : O = Z
        · have hoz' : decide (O = Z) = true := decide_eq_true hoz
          rw [hoz'] at heq
          have HOZ := Aside0.mk hoz
          clear hoz hoz'
          go_wp2_with (first
            | ((with_reducible refine gate_dst (N := 39) rfl ?_); refine load_rowP_ rfl rfl 31 (.tmp 4) rfl (g := g1) (k := .u8) rfl Try.underlying31 (by rw [HOL.out]; kernel_rfl) HA1.out ?_)
            | ((with_reducible refine gate_dst (N := 40) rfl ?_); refine load_rowP_ rfl rfl 31 (.tmp 5) rfl (g := g2) (k := .u8) rfl Try.underlying31 (by rw [HZL.out]; kernel_rfl) HA2.out ?_))
          refine bodyPost_ret (results_tmp2 rfl _ _ _) rfl ⟨by rw [← HO.out, HOZ.out]; rfl, HB.out⟩
        · have hoz' : decide (O = Z) = false := decide_eq_false hoz
          rw [hoz'] at heq
          clear hoz hoz'
          go_wp2_with (first
            | ((with_reducible refine gate_dst (N := 39) rfl ?_); refine load_rowP_ rfl rfl 31 (.tmp 4) rfl (g := g1) (k := .u8) rfl Try.underlying31 (by rw [HOL.out]; kernel_rfl) HA1.out ?_)
            | ((with_reducible refine gate_dst (N := 40) rfl ?_); refine load_rowP_ rfl rfl 31 (.tmp 5) rfl (g := g2) (k := .u8) rfl Try.underlying31 (by rw [HZL.out]; kernel_rfl) HA2.out ?_))
          refine bodyPost_ret (results_tmp2 rfl _ _ _) rfl ⟨by rw [← HO.out]; rfl, HB.out⟩
  · rw [if_neg h64] at h
    obtain ⟨rfl, rfl⟩ := Prod.mk.inj (Option.some.inj h)
    have hb0 : ((a0.size : Int) != 64) = true := by simpa using h64
    have hb1 : a0.size ≠ 64 := by omega
    clear h
    go_enter Try.func5, Try.ntmps5
    go_wp2
    refine bodyPost_ret (results_tmp2 rfl _ _ _) rfl ⟨rfl, by repeat (first | exact Below.refl _ _ | apply below_drew1 | apply pw_below_drewN)⟩


/-! ### remoraref03_digit: function 12 -/
def remoraref03_digit.j0 : Nat → Int → Bool → Option (Int)
  | 0, _, _ => none
  | k + 1, x0, x8 => if x8 = true then (some (wrap64 ((wrap64 (x0)) - 48))) else (if x0 ≥ 97 then (if x0 ≤ 102 then (some (wrap64 ((wrap64 ((wrap64 (x0)) - 97)) + 10))) else (some (-1))) else (some (-1)))
def remoraref03_digit.f (k : Nat) (a0 : Int) : Option (Int) := if a0 ≥ 48 then (remoraref03_digit.j0 k a0 (decide (a0 ≤ 57))) else (remoraref03_digit.j0 k a0 false)
theorem remoraref03_digit.mono_l : ∀ k, (∀ y0 y1, LeO (remoraref03_digit.j0 k y0 y1) (remoraref03_digit.j0 (k + 1) y0 y1))
  | 0 => fun _ _ r h => by simp [remoraref03_digit.j0] at h
  | k + 1 => by
    have ih0 := remoraref03_digit.mono_l k
    · intro y0 y1
      unfold remoraref03_digit.j0
      repeat' first
      | (with_reducible exact ih0 _ _)
      | (with_reducible exact LeO.refl _)
      | (with_reducible exact LeO.none _)
      | (with_reducible refine LeO.ite ?_ ?_)
      | (with_reducible refine LeO.bind ?_ (fun _ => ?_))
      | exact ih0 _ _
      | exact LeO.none _
      | refine LeO.ite ?_ ?_
      | refine LeO.bind ?_ (fun _ => ?_)
theorem remoraref03_digit.mono : ∀ a0 k, LeO (remoraref03_digit.f k a0) (remoraref03_digit.f (k + 1) a0) := by
  intro a0 k
  have ih0 := remoraref03_digit.mono_l k
  unfold remoraref03_digit.f
  repeat' first
      | (with_reducible exact ih0 _ _)
      | (with_reducible exact LeO.refl _)
      | (with_reducible exact LeO.none _)
      | (with_reducible refine LeO.ite ?_ ?_)
      | (with_reducible refine LeO.bind ?_ (fun _ => ?_))
      | exact ih0 _ _
      | exact LeO.none _
      | refine LeO.ite ?_ ?_
      | refine LeO.bind ?_ (fun _ => ?_)
set_option maxHeartbeats 8000000 in
set_option maxRecDepth 100000 in
theorem remoraref03_digit.calls (k : Nat) (a0 : Int) (r : Int) (w : World) (h : remoraref03_digit.f k a0 = some r) :
    Calls Try.prog 12 #[.int .u8 a0] w fun e w' => e = .returned (.int .i64 r) ∧ Drawn0 w w' := by
  have H : (if a0 ≥ 48 then (remoraref03_digit.j0 k a0 (decide (a0 ≤ 57))) else (remoraref03_digit.j0 k a0 false)) = some r := h
  clear h
  have HC2 := Aside0.mk H
  clear H
  go_enter Try.func12, Try.ntmps12
  go_upto_region 1 with (fail)
  go_cut [8] (fun v8 wc => ∃ (kq : Nat) (x8_1 : Bool), v8 = .bool x8_1 ∧ Aside0 (remoraref03_digit.j0 kq a0 x8_1 = some r) ∧ Aside0 (kq ≤ k) ∧ Drawn0 w wc)
  case first =>
    have H := HC2.out
    clear HC2
    by_cases c3 : a0 ≥ 48
    · rw [if_pos c3] at H
      have c3b0 : decide (48 ≤ a0) = true := decide_eq_true c3
      clear c3
      (first | rw [c3b0] | (simp only [i64_w, i32_w]; rw [c3b0]) | skip)
      have H' := Aside0.mk H
      clear H
      go_wp2
      go_meet
      case rel => exact ⟨_, (decide (a0 ≤ 57)), (by first | rfl | (simp; done) | (simp [*]; done)), H', ⟨by first | omega | exact Nat.le_refl _⟩, by repeat (first | exact Drawn0.refl _ | apply Drawn0.step)⟩
    · rw [if_neg c3] at H
      have c3b0 : decide (48 ≤ a0) = false := decide_eq_false c3
      clear c3
      (first | rw [c3b0] | (simp only [i64_w, i32_w]; rw [c3b0]) | skip)
      have H' := Aside0.mk H
      clear H
      go_wp2
      go_meet
      case rel => exact ⟨_, (false), (by first | rfl | (simp; done) | (simp [*]; done)), H', ⟨by first | omega | exact Nat.le_refl _⟩, by repeat (first | exact Drawn0.refl _ | apply Drawn0.step)⟩
  case rest =>
    clear HC2
    try clear c1
    try clear p2
    try clear c3
    try clear c3b0
    obtain ⟨kq, x8_1, rfl, HA, HJ1, ⟨mc1, rfl⟩⟩ := hcut
    cases kq with
    | zero => exact absurd HA.out (by simp [remoraref03_digit.j0])
    | succ kj1 =>
      have H := HA.out
      clear HA
      simp only [remoraref03_digit.j0] at H
      by_cases c4 : x8_1 = true
      · subst c4
        have H1 : (some (wrap64 ((wrap64 (a0)) - 48))) = some r := by rw [if_pos rfl] at H; exact H
        clear H
        have H := H1
        clear H1
        obtain rfl := Option.some.inj H
        go_wp2
        go_ret
        exact ⟨by first | rfl | (simp; done) | (simp [*]; done), by repeat (first | exact Drawn0.refl _ | apply Drawn0.step)⟩
      · replace c4 := Bool.eq_false_iff.mpr c4
        subst c4
        have H1 : (if a0 ≥ 97 then (if a0 ≤ 102 then (some (wrap64 ((wrap64 ((wrap64 (a0)) - 97)) + 10))) else (some (-1))) else (some (-1))) = some r := by rw [if_neg (show ¬ (false = true) by decide)] at H; exact H
        clear H
        have H := H1
        clear H1
        by_cases c5 : a0 ≥ 97
        · rw [if_pos c5] at H
          have c5b0 : decide (97 ≤ a0) = true := decide_eq_true c5
          clear c5
          by_cases c6 : a0 ≤ 102
          · rw [if_pos c6] at H
            have c6b0 : decide (a0 ≤ 102) = true := decide_eq_true c6
            clear c6
            obtain rfl := Option.some.inj H
            go_wp2
            go_ret
            exact ⟨by first | rfl | (simp; done) | (simp [*]; done), by repeat (first | exact Drawn0.refl _ | apply Drawn0.step)⟩
          · rw [if_neg c6] at H
            have c6b0 : decide (a0 ≤ 102) = false := decide_eq_false c6
            clear c6
            obtain rfl := Option.some.inj H
            go_wp2
            go_ret
            exact ⟨by first | rfl | (simp; done) | (simp [*]; done), by repeat (first | exact Drawn0.refl _ | apply Drawn0.step)⟩
        · rw [if_neg c5] at H
          have c5b0 : decide (97 ≤ a0) = false := decide_eq_false c5
          clear c5
          obtain rfl := Option.some.inj H
          go_wp2
          go_ret
          exact ⟨by first | rfl | (simp; done) | (simp [*]; done), by repeat (first | exact Drawn0.refl _ | apply Drawn0.step)⟩

end Go.Proofs.Ytffiakioddhicaa.PShaTexts
