/- The joiner's state: a row of ops whose last op's bytes may be appended to. -/
import Derived.Test.YtkihlcmjjoiccaaJn0
namespace Go.Proofs.Ytkihlcmjjoiccaa.Jn
open Go.RowKit Go.Proofs.YtkihlcmjjoiccaaW.PrintWords Go.Proofs.YtkihlcmjjoiccaaW.PrintLast Go.Proofs.YtkihlcmjjoiccaaW.PrintMore
set_option linter.unusedVariables false
set_option linter.unusedSimpArgs false
theorem s1 {α : Type} (l : List α) (i : Nat) (a : α) : l.toArray.setIfInBounds i a = (l.set i a).toArray := by simp
theorem s2 {α : Type} (l : List α) (a b : α) : (a :: l).set 0 b = b :: l := rfl
theorem s3 {α : Type} (l : List α) (a b : α) (n : Nat) : (a :: l).set (n + 1) b = a :: l.set n b := rfl
/-- An op: its offset, its length, its bytes. -/
abbrev T3 := Int × Int × List Int
/-- No bytes, wherever the slice points to. -/
def nul : Kd (List Int) where
 sz := 1
 E := []
 K := fun _ x cs => x = [] ∧ ∃ A c, cs = [.slice A 0 c]
 M := fun _ _ _ x cs => x = [] ∧ ∃ A c, cs = [.slice A 0 c]
 K_len := by
  rintro w x cs ⟨_, A, c, rfl⟩
  rfl
 K_one := by
  rintro w x cs ⟨_, A, c, rfl⟩ u hu
  rw [List.mem_singleton.1 hu]
  rfl
 K_below := fun _ h => h
 K_of_M := fun h => h
 M_mono := fun _ h => h
 M_bound := fun h => h
 M_move := fun _ h => h
 M_lower := fun _ h => h
def dat : Kd (List Int) := Kd.or_ (Kd.slice 5 (Kd.int .u8)) nul rfl
def kJ : Kd T3 := Kd.pair (Kd.int .i64) (Kd.pair (Kd.int .i64) dat)
def kP : Kd T3 := Kd.pair (Kd.int .i64) (Kd.pair (Kd.int .i64) (Kd.slice 5 (Kd.int .u8)))
theorem C_zero {α : Type} (d : Kd α) (w : World) (A : Option Addr) : d.C w A ([] : List α).length [] := ⟨rfl, by simp, fun h => absurd h (by simp)⟩
theorem kJ_open {w : World} {x : T3} {cs : List Value} (h : kJ.K w x cs) : ∃ A c, cs = [.int .i64 x.1, .int .i64 x.2.1, .slice A x.2.2.length c] ∧ x.2.2.length ≤ c ∧ (Kd.int .u8).C w A x.2.2.length x.2.2 := by
 obtain ⟨_, _, rfl, rfl, ⟨_, _, rfl, rfl, h2⟩⟩ := h
 rcases h2 with ⟨A, c, rfl, l, g⟩ | ⟨e, A, c, rfl⟩
 ·exact ⟨A, c, rfl, l, g⟩
 ·rw [e]
  exact ⟨A, c, rfl, Nat.zero_le _, C_zero _ _ _⟩
theorem kJ_openM {w : World} {base : Nat} {ok : Nat → Prop} {x : T3} {cs : List Value} (h : kJ.M w base ok x cs) : ∃ v, cs = [.int .i64 x.1, .int .i64 x.2.1, v] ∧ ((Kd.int .u8).R 5 w base ok v x.2.2 ∨ x.2.2 = [] ∧ ∃ A c, v = .slice A 0 c) := by
 obtain ⟨_, _, rfl, rfl, ⟨_, _, rfl, rfl, h2⟩⟩ := h
 rcases h2 with ⟨v, rfl, g⟩ | ⟨e, A, c, rfl⟩
 ·exact ⟨v, rfl, .inl g⟩
 ·exact ⟨_, rfl, .inr ⟨e, A, c, rfl⟩⟩
theorem kJ_mkR (w : World) (base : Nat) (ok : Nat → Prop) (x : T3) {v : Value} (g : (Kd.int .u8).R 5 w base ok v x.2.2) : kJ.M w base ok x [.int .i64 x.1, .int .i64 x.2.1, v] := ⟨[.int .i64 x.1], [.int .i64 x.2.1, v], rfl, rfl, ⟨[.int .i64 x.2.1], [v], rfl, rfl, .inl ⟨v, rfl, g⟩⟩⟩
theorem kJ_mk0 (w : World) (base : Nat) (ok : Nat → Prop) (a b : Int) (A : Option Addr) (c : Nat) : kJ.M w base ok (a, b, []) [.int .i64 a, .int .i64 b, .slice A 0 c] := ⟨[.int .i64 a], [.int .i64 b, .slice A 0 c], rfl, rfl, ⟨[.int .i64 b], [.slice A 0 c], rfl, rfl, .inr ⟨rfl, A, c, rfl⟩⟩⟩
theorem kJ_kP {w : World} {x : T3} {cs : List Value} (h : kJ.K w x cs) : kP.K w x cs := by
 obtain ⟨A, c, rfl, l, g⟩ := kJ_open h
 exact ⟨[.int .i64 x.1], [.int .i64 x.2.1, .slice A x.2.2.length c], rfl, rfl, ⟨[.int .i64 x.2.1], [.slice A x.2.2.length c], rfl, rfl, ⟨A, c, rfl, l, g⟩⟩⟩
/-- What is handed back: a row of one's own whose elements share. -/
theorem N_of_S {w : World} {base : Nat} {ok : Nat → Prop} {v : Value} {xs : List T3} (h : Kd.S kJ 47 w base ok v xs) : Kd.N kP 47 w base ok v xs := by
 obtain ⟨h0, rows, hl, hR, hf⟩ := Kd.S_N h
 exact ⟨h0, rows, hl, hR, fun j x c hx hc W' hW => kJ_kP (hf j x c hx hc W' hW)⟩
theorem C_of_S {w : World} {base : Nat} {ok : Nat → Prop} {A : Option Addr} {n c : Nat} {xs : List T3} (h : Kd.S kJ 47 w base ok (.slice A n c) xs) : n = xs.length ∧ n ≤ c ∧ kP.C w A xs.length xs := by
 obtain ⟨h1, h2, h3⟩ := Kd.N_reads' (N_of_S h)
 exact ⟨h1, h2, h3⟩
theorem cellB {w w1 : World} (hb : Below w.heap.size w w1) {a : Addr} {v : Value} (h : w.cell? a = some v) : w1.cell? a = some v := (hb.cell (World.block_lt_of_cell? w a h)).trans h
theorem cellG {w w1 : World} {g : Nat} (hg : w.grownBy w1 (some g)) {a : Addr} {v : Value} (h : w.cell? a = some v) (hne : a.block ≠ g) : w1.cell? a = some v := cell_grown hg h (fun e => hne (by injection e))
theorem inf34 : (Try.prog.info? 34).map (·.size) = some 1 := by kernel_rfl
theorem inf33 : (Try.prog.info? 33).map (·.size) = some 1 := by kernel_rfl
theorem inf47 : (Try.prog.info? 47).map (·.size) = some 3 := by kernel_rfl
theorem inf3 : (Try.prog.info? 3).map (·.size) = some 1 := by kernel_rfl
/-- The box of the row. -/
structure Box (base : Nat) (ok : Nat → Prop) (g : Nat) (w : World) (xs : List T3) : Prop where
 row : ∃ v, w.heap[g]? = some (.cells #[v] 34 (0, 0)) ∧ Kd.S kJ 47 w base ok v xs ∧ (xs = [] → v = .slice none 0 0)
theorem setCells_heap {g : Nat} : ∀ (seg : List Value) (j : Nat) {w : World} {cs : Array Value} {e : TypeId}, w.heap[g]? = some (.cells cs e (0, 0)) → ∃ cs', (w.setCells g j seg).heap[g]? = some (.cells cs' e (0, 0))
 | [], _, _, cs, _, h => ⟨cs, h⟩
 | u :: seg, j, w, cs, e, h => setCells_heap seg (j + 1) (w := w.setCell ⟨g, j, none⟩ u) (blk_set h j u)
theorem grown_setCells (w : World) (g j : Nat) (seg : List Value) : w.grownBy (w.setCells g j seg) (some g) := by
 have hrest : ∀ (seg : List Value) (j : Nat) (w : World), (w.setCells g j seg).os = w.os ∧ (w.setCells g j seg).tape = w.tape ∧ (w.setCells g j seg).output = w.output ∧ (w.setCells g j seg).heap.size = w.heap.size := by
  intro seg
  induction seg with
  | nil => intro j w; exact ⟨rfl, rfl, rfl, rfl⟩
  | cons u seg ih =>
   intro j w
   obtain ⟨h1, h2, h3, h4⟩ := ih (j + 1) (w.setCell ⟨g, j, none⟩ u)
   exact ⟨h1, h2, h3, h4.trans (by simp [World.setCell])⟩
 obtain ⟨h1, h2, h3, h4⟩ := hrest seg j w
 exact ⟨h1, h2, h3, Nat.le_of_eq h4.symm, fun k hk hne => setCells_far seg j k (fun e => hne (by rw [e]))⟩
theorem kJ_mk0' {l : List Int} (hl : l = []) (w : World) (base : Nat) (ok : Nat → Prop) (a b : Int) (A : Option Addr) (c : Nat) : kJ.M w base ok (a, b, l) [.int .i64 a, .int .i64 b, .slice A l.length c] := by
 subst hl
 exact kJ_mk0 w base ok a b A c
theorem kJ_len2 {w : World} {base : Nat} {ok : Nat → Prop} {p : T3} {x y z : Value} (h : kJ.M w base ok p [x, y, z]) {n : Int} : kJ.M w base ok (p.1, n, p.2.2) ([x, y, z].take 1 ++ [.int .i64 n] ++ [x, y, z].drop (1 + 1)) := by
 obtain ⟨v, he, h2⟩ := kJ_openM h
 simp only [List.cons.injEq, and_true] at he
 obtain ⟨rfl, rfl, rfl⟩ := he
 rcases h2 with h2 | ⟨h2, A, c, rfl⟩
 ·exact kJ_mkR w base ok (p.1, n, p.2.2) h2
 ·show kJ.M w base ok (p.1, n, p.2.2) [.int .i64 p.1, .int .i64 n, .slice A 0 c]
  rw [h2]
  exact kJ_mk0 w base ok p.1 n A c
theorem kJ_C {w : World} {base : Nat} {ok : Nat → Prop} {p : T3} {x y : Value} {A : Option Addr} {c : Nat} (h : kJ.M w base ok p [x, y, .slice A p.2.2.length c]) : (Kd.int .u8).C w A p.2.2.length p.2.2 := by
 obtain ⟨A_, c_, he, _, h2⟩ := kJ_open (kJ.K_of_M h)
 injection he with _ he
 injection he with _ he
 injection he with he _
 injection he with he _ _
 rw [he]
 exact h2
theorem kJ_R {w : World} {base : Nat} {ok : Nat → Prop} {p : T3} {x y v : Value} (h : kJ.M w base ok p [x, y, v]) (hne : p.2.2 ≠ []) : (Kd.int .u8).R 5 w base ok v p.2.2 := by
 obtain ⟨v_, he, h2⟩ := kJ_openM h
 injection he with _ he
 injection he with _ he
 injection he with he _
 subst he
 exact h2.elim (fun h => h) (fun h => absurd h.1 hne)
theorem kJM_below {w w1 : World} {base : Nat} {ok : Nat → Prop} {x : T3} {cs : List Value} (h : kJ.M w base ok x cs) (hb : Below w.heap.size w w1) : kJ.M w1 base ok x cs := Kd.M_step h (fun k _ hk => hb.block k hk)
theorem belowLe {n m : Nat} {w W : World} (h : Below n w W) (hm : m ≤ n) : Below m w W := ⟨h.os, h.tape, h.output, h.size, fun k hk => h.block k (Nat.lt_of_lt_of_le hk hm)⟩
theorem belowG {base : Nat} {w W W1 : World} {row : Option Nat} (h : Below base w W) (hg : W.grownBy W1 row) (hbase : base ≤ W.heap.size) (hr : ∀ k, row = some k → base ≤ k) : Below base w W1 :=
 ⟨hg.os.trans h.os, hg.tape.trans h.tape, hg.output.trans h.output, Nat.le_trans h.size hg.size, fun k hk => (hg.block k (by omega) (fun e => by have := hr k e.symm; omega)).trans (h.block k hk)⟩
/-- A store into an element that is lent: what it runs to. -/
theorem H_run {P : Program} {α : Type} (d : Kd α) {e g n cap base : Nat} {W : World} {ok oki okp : Nat → Prop} {xs : List α} {i : Int} {j : Nat} {c seg : List Value} (t : TypeId) (u : Value) {x' : α} (hu : u.cells.toList = seg) (ht : (P.info? t).map (·.size) = some seg.length) (hone : ∀ q ∈ seg, q.oneCell' = true)
  (HO : Kd.H d e W base ok (.slice (some ⟨g, 0, none⟩) n cap) xs i oki c) (h0 : 0 ≤ i) (hi : i < n) (hj : j + seg.length ≤ d.sz) (hM : d.M W base okp x' (c.take j ++ seg ++ c.drop (j + seg.length))) (hokp : ∀ k, okp k → oki k) :
  ∃ W1, (Instr.storeAt t (.pointer (some ⟨g, i.toNat * d.sz + j, none⟩)) u).run P W = .ok () W1 ∧ Kd.S d e W1 base ok (.slice (some ⟨g, 0, none⟩) n cap) (xs.set i.toNat x') ∧ W.grownBy W1 (some g) := by
 obtain ⟨h2, h3⟩ := Kd.S_seg0 HO h0 hi hj hM hokp
 refine ⟨_, ?_, h2, h3⟩
 obtain ⟨rows, _, hraw, _, _, _, _⟩ := Kd.H_raw HO h0 hi
 have hnx : n = rows.length := (Kd.R_reads' hraw).1
 obtain ⟨_, inner, hown, hr⟩ := hraw
 have hil : i.toNat < n := by omega
 rcases hown.2 with ⟨hv, _⟩ | ⟨g', cap', cur, hv, hb, hh, hnc, hcm, hcs, _⟩
 ·cases hv
 injection hv with ha _ hc
 injection ha with ha
 injection ha with hg'
 subst hg'; subst hc
 refine run_store_run t u seg hh hu ht ?_ hone
 have h4 : i.toNat * d.sz + d.sz ≤ n * d.sz := by rw [← Nat.succ_mul]; exact Nat.mul_le_mul_right _ hil
 have h5 : n * d.sz ≤ cap * d.sz := Nat.mul_le_mul_right _ (by omega)
 have h6 : cur.size = cap * d.sz := hcs
 omega
section
variable {P : Program} {ops : Array Oper} {o : Oper} {a : Act} {Q : Exit → Act → World → Prop}
/-- A store in a region that draws. -/
theorem store_skip {w w1 : World} {K : Act → World → Prop} (hw : Region.wanted o (yielded ops a.tmps) = true) (hN : o.dst = none) (t : TypeId) (p x : Operand) (ho : o.op = .store t p x) {ptr u : Value} (haddr : a.eval p = ptr) (hx : a.eval x = u) (hrun : (Instr.storeAt t ptr u).run P w = .ok () w1) (h : K a w1) :
  if Region.wanted o (yielded ops a.tmps) = true then Oper.wp P o a w K Q else K (a.put none undef) w := by
 refine skip_ hw hN ?_ h
 unfold execOp
 simp only [ho, haddr, hx, Sem.run_bind, Sem.run_pure, Result.andThen_ok, hrun]
end
section
variable {P : Program} {ops : Array Oper} {rest : List Oper} {o : Oper} {a : Act} {Q : Exit → Act → World → Prop}
/-- A store into a block that is known. -/
theorem store_event {W : World} (hgd : o.guard = none) (hN : o.dst = none) (t : TypeId) (p x : Operand) (ho : o.op = .store t p x) {g j : Nat} {e : TypeId} {cs cs' : Array Value} {u : Value} {seg : List Value} (haddr : a.eval p = .pointer (some ⟨g, j, none⟩)) (hx : a.eval x = u) (hu : u.cells.toList = seg) (ht : (P.info? t).map (·.size) = some seg.length) (h1 : ∀ q ∈ seg, q.oneCell' = true)
  (hb : W.heap[g]? = some (.cells cs e (0, 0))) (hj : j + seg.length ≤ cs.size) (hcs : (W.setCells g j seg).heap[g]? = some (.cells cs' e (0, 0)))
  (h : ∀ w1, w1.heap[g]? = some (.cells cs' e (0, 0)) → W.grownBy w1 (some g) → wpList P ops Q rest a w1) : wpList P ops Q (o :: rest) a W := by
 refine wpList_plain hgd fun K hK => ?_
 have hrun : (Instr.storeAt t (.pointer (some ⟨g, j, none⟩)) u).run P W = .ok () (W.setCells g j seg) := run_store_run t u seg hb hu ht hj h1
 unfold Oper.wp execOp
 simp only [ho, haddr, hx, Sem.run_bind, Sem.run_pure, Result.andThen_ok, hrun]
 show K (a.put o.dst undef) _
 rw [hN]
 exact hK a _ (h _ hcs (grown_setCells W g j seg))
end
def add.T9 : Bool × List (List Nat × List Nat) := (true, [([], []), ([0], [0]), ([1], [1]), ([2], [2]), ([3], [3]), ([4, 3], [4]), ([5], [5]), ([6, 5, 5], [5, 6]), ([7, 5], [5, 7]), ([5, 8], [5, 8]), ([9, 7], [9]), ([10], [10]), ([11, 10], [10, 11]), ([12, 10], [10, 12]), ([10, 13], [10, 13]), ([14, 10], [14]), ([15], [15]), ([16, 15], [15, 16]), ([17, 15], [15, 17]), ([18, 15], [15, 18]), ([19, 15], [15, 19]), ([15, 20], [15, 20]), ([21, 15], [21]), ([22], [22]), ([23, 22], [22, 23]), ([24, 22], [22, 24]), ([25, 22], [22, 25]), ([26, 22], [22, 26]), ([22, 27], [22, 27]), ([28, 22], [28]), ([29], [29]), ([30, 29], [29, 30]), ([31, 29], [29, 31]), ([32, 29], [29, 32]), ([29], [29]), ([34, 29], [29, 34]), ([35, 29], [29, 35]), ([36, 29], [29, 36]), ([37, 29], [29, 37]), ([33, 38, 29], [29, 33, 38]), ([29, 39], [29, 39]), ([40, 29], [40]), ([41], [41]), ([42, 41], [41, 42]), ([43, 41], [41, 43]), ([44, 41], [41, 44]), ([41], [41]), ([46, 41], [41, 46]), ([47, 41], [41, 47]), ([48, 41], [41, 48]), ([45, 49, 41], [41, 45, 49]), ([41], [41]), ([51, 41], [41, 51]), ([50, 52, 41], [41, 50, 52]), ([41, 53], [41, 53])])
def add.B9 : List Nat := [0, 1, 3, 7, 15, 31, 63, 127, 255, 511, 1023, 2047, 4095, 8191, 16383, 32767, 65535, 131071, 262143, 524287, 1048575, 2097151, 4194303, 8388607, 16777215, 33554431, 67108863, 134217727, 268435455, 536870911, 1073741823, 2147483647, 4294967295, 8589934591, 1073741823, 18253611007, 52613349375, 121332826111, 258771779583, 549755813887, 1099511627775, 2199023255551, 4398046511103, 8796093022207, 17592186044415, 35184372088831, 4398046511103, 74766790688767, 215504279044095, 496979255754751, 1125899906842623, 4398046511103, 2256197860196351, 9007199254740991, 18014398509481983]
theorem add.tab9 : rtab .any (opsOf Try.f52 9) = add.T9 := by kernel_rfl
theorem add.bits9 : waitsOk add.T9.2 add.B9 = true := by kernel_rfl
def add.T10 : Bool × List (List Nat × List Nat) := (true, [([], []), ([0], [0]), ([1], [1]), ([2], [2]), ([], []), ([4], [4]), ([3, 5], [3, 5]), ([0, 0, 1, 2, 3, 4, 5, 6], [0]), ([7, 0, 1, 2, 3, 4, 5, 6], [7]), ([8, 6, 0, 1, 2, 3, 4, 5, 6], [6, 8])])
def add.B10 : List Nat := [0, 1, 3, 7, 0, 16, 63, 127, 255, 511]
theorem add.tab10 : rtab .any (opsOf Try.f52 10) = add.T10 := by kernel_rfl
theorem add.bits10 : waitsOk add.T10.2 add.B10 = true := by kernel_rfl
def add.T8 : Bool × List (List Nat × List Nat) := (true, [([], []), ([], []), ([1], [1]), ([2], [2]), ([3], [3]), ([], []), ([5], [5]), ([4, 6], [4, 6]), ([0, 0, 1, 2, 3, 4, 5, 6, 7], [0]), ([8, 0, 1, 2, 3, 4, 5, 6, 7], [8]), ([9, 7, 7, 0, 1, 2, 3, 4, 5, 6, 7], [7, 9])])
def add.B8 : List Nat := [0, 0, 2, 6, 14, 0, 32, 126, 255, 511, 1023]
theorem add.tab8 : rtab .any (opsOf Try.f52 8) = add.T8 := by kernel_rfl
theorem add.bits8 : waitsOk add.T8.2 add.B8 = true := by kernel_rfl

end Go.Proofs.Ytkihlcmjjoiccaa.Jn
