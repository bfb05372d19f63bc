-- Written by a program of this session (the kit's printer with hand-written contracts among its functions).
-- squeezed
import Derived.Test.YtkihlcmjjoiccaaPMatchCostsx0
import Derived.Test.YtkihlcmjjoiccaaPMatchCostsx1
import Derived.Test.YtkihlcmjjoiccaaPMatchCostsx2
import Derived.Test.YtkihlcmjjoiccaaPMatchCostsx3
import Derived.Test.YtkihlcmjjoiccaaPMatchCostsx5
import Derived.Test.YtkihlcmjjoiccaaPMatchCostsx6
import Derived.Test.YtkihlcmjjoiccaaRq
namespace Go.Proofs.Ytkihlcmjjoiccaa.PMatchCosts
open Go.RowKit Go.Proofs.YtkihlcmjjoiccaaW.PrintWords Go.Proofs.YtkihlcmjjoiccaaW.PrintLast Go.Proofs.YtkihlcmjjoiccaaW.PrintMore
attribute [local go_sem] max2_int min2_int max_two min_two max_three min_three max_four min_four   -- for this text's walks alone
set_option linter.unusedVariables false
set_option linter.unusedSimpArgs false

theorem infoSc : (Try.prog.info? 47).map (fun i => (i.zero, i.size, i.bytes)) = some (some (.agg #[(.int .i64 0), (.int .i64 0), (.slice none 0 0)]), 3, 40) := by kernel_rfl
structure Fr where
 w1 : World
 w0 : World
 S : Nat → Prop
def Fr.ok (F : Fr) (k : Nat) : Prop := F.S k ∨ F.w0.heap.size ≤ k
theorem kset {F : Fr} {w : World} {g j : Nat} (h : Kept F.w0 w F.S) (hg : F.ok g) (u : Value) : Kept F.w0 (w.setCell ⟨g, j, none⟩ u) F.S := Kept.setCell (p := ⟨g, j, none⟩) h hg u
structure Sc (F : Fr) (w : World) (g gi : Nat) (s b n : Int) (A : Option Addr) (c m : Nat) (weak want seen : Int) (left told : List Int) (out : List S47) (over : Bool) (vl vt vo : Value) : Prop where
 bx : w.heap[g]? = some (.cells #[vl, .int .u32 weak, .int .i64 s, .int .i64 b, .int .i64 n, .slice A m c, .pointer (some ⟨gi, 0, none⟩), .int .i64 want, .int .i64 seen, vt, vo, .bool over] 62 (0, 0))
 ql : (Kd.int .u8).Q 5 w F.w1.heap.size F.ok vl left
 qt : (Kd.int .u8).R 5 w F.w1.heap.size (fun k => F.ok k ∧ some k ≠ vl.ownBlock) vt told
 qo : k47.R 47 w F.w1.heap.size (fun k => (F.ok k ∧ some k ≠ vt.ownBlock) ∧ some k ≠ vl.ownBlock) vo out
 bl : Below F.w1.heap.size F.w1 w
 lo : F.w1.heap.size ≤ g
 kp : Kept F.w0 w F.S
 gk : F.ok g
section
variable {F : Fr} {w w2 : World} {g gi : Nat} {s b n : Int} {A : Option Addr} {c m : Nat} {weak want seen : Int} {left told : List Int} {out : List S47} {over : Bool} {vl vt vo : Value}
theorem Sc.step (h : Sc F w g gi s b n A c m weak want seen left told out over vl vt vo) (hb : Below w.heap.size w w2) : Sc F w2 g gi s b n A c m weak want seen left told out over vl vt vo :=
 ⟨zc6 h.bx hb, Kd.Q_below h.ql hb, Kd.R_below h.qt hb, Kd.R_below h.qo hb, zb5 h.bl hb, h.lo, h.kp.below hb, h.gk⟩
theorem Sc.fresh (h : Sc F w g gi s b n A c m weak want seen left told out over vl vt vo) : ∀ k, w.heap.size ≤ k → F.ok k := fun _ hk => Or.inr (Nat.le_trans h.kp.1 hk)
theorem Sc.drew (h : Sc F w g gi s b n A c m weak want seen left told out over vl vt vo) : Sc F w.drew g gi s b n A c m weak want seen left told out over vl vt vo := h.step (zb2 (Below.refl _ _))
theorem Sc.put_weak (h : Sc F w g gi s b n A c m weak want seen left told out over vl vt vo) (x : Int) : Sc F (w.setCell ⟨g, 1, none⟩ (.int .u32 x)) g gi s b n A c m x want seen left told out over vl vt vo :=
 ⟨blk_put h.bx 1 _ rfl, Kd.Q_set h.ql h.bx (by decide) _ _, Kd.R_set h.qt h.bx (by decide) _ _, Kd.R_set h.qo h.bx (by decide) _ _, h.bl.setCell h.lo _, h.lo, kset h.kp h.gk _, h.gk⟩
theorem Sc.put_want (h : Sc F w g gi s b n A c m weak want seen left told out over vl vt vo) (x : Int) : Sc F (w.setCell ⟨g, 7, none⟩ (.int .i64 x)) g gi s b n A c m weak x seen left told out over vl vt vo :=
 ⟨blk_put h.bx 7 _ rfl, Kd.Q_set h.ql h.bx (by decide) _ _, Kd.R_set h.qt h.bx (by decide) _ _, Kd.R_set h.qo h.bx (by decide) _ _, h.bl.setCell h.lo _, h.lo, kset h.kp h.gk _, h.gk⟩
theorem Sc.put_seen (h : Sc F w g gi s b n A c m weak want seen left told out over vl vt vo) (x : Int) : Sc F (w.setCell ⟨g, 8, none⟩ (.int .i64 x)) g gi s b n A c m weak want x left told out over vl vt vo :=
 ⟨blk_put h.bx 8 _ rfl, Kd.Q_set h.ql h.bx (by decide) _ _, Kd.R_set h.qt h.bx (by decide) _ _, Kd.R_set h.qo h.bx (by decide) _ _, h.bl.setCell h.lo _, h.lo, kset h.kp h.gk _, h.gk⟩
theorem Sc.put_over (h : Sc F w g gi s b n A c m weak want seen left told out over vl vt vo) (x : Bool) : Sc F (w.setCell ⟨g, 11, none⟩ (.bool x)) g gi s b n A c m weak want seen left told out x vl vt vo :=
 ⟨blk_put h.bx 11 _ rfl, Kd.Q_set h.ql h.bx (by decide) _ _, Kd.R_set h.qt h.bx (by decide) _ _, Kd.R_set h.qo h.bx (by decide) _ _, h.bl.setCell h.lo _, h.lo, kset h.kp h.gk _, h.gk⟩
theorem swap_ok {o p q : Nat → Prop} {α : Type} {d : Kd α} {e base : Nat} {v : Value} {xs : List α} (h : d.R e w base (fun k => (o k ∧ p k) ∧ q k) v xs) : d.R e w base (fun k => (o k ∧ q k) ∧ p k) v xs := Kd.R_mono h (fun _ hk => ⟨⟨hk.1.1, hk.2⟩, hk.1.2⟩)
theorem Sc.put_left (h : Sc F w g gi s b n A c m weak want seen left told out over vl vt vo) {vl1 : Value} {left1 : List Int} (hq : (Kd.int .u8).Q 5 w2 F.w1.heap.size F.ok vl1 left1) (hb : Below F.w1.heap.size F.w1 w2) (hg : w.grownBy w2 vl.ownBlock)
    (hat : vl1.ownBlock = vl.ownBlock ∨ ∃ b, vl1.ownBlock = some b ∧ w.heap.size ≤ b) : Sc F (w2.setCell ⟨g, 0, none⟩ vl1) g gi s b n A c m weak want seen left1 told out over vl1 vt vo := by
 have hx := blk_grown h.bx hg (Kd.Q_ne h.ql h.bx (by decide))
 have ht := Kd.R_after h.qt hg hat
 have ho := Kd.R_after h.qo hg hat
 exact ⟨blk_put hx 0 _ rfl, Kd.Q_set hq hx (by decide) _ _, Kd.R_set ht hx (by decide) _ _, Kd.R_set ho hx (by decide) _ _, hb.setCell h.lo _, h.lo, kset (Kept.of_grown hg h.kp (fun k hk => h.ql.1 k hk)) h.gk _, h.gk⟩
theorem Sc.cut_left (h : Sc F w g gi s b n A c m weak want seen left told out over vl vt vo) {vl1 : Value} {left1 : List Int} (hq : (Kd.int .u8).Q 5 w F.w1.heap.size F.ok vl1 left1) (hat : ∀ k, some k = vl1.ownBlock → some k = vl.ownBlock) :
    Sc F (w.setCell ⟨g, 0, none⟩ vl1) g gi s b n A c m weak want seen left1 told out over vl1 vt vo :=
 ⟨blk_put h.bx 0 _ rfl, Kd.Q_set hq h.bx (by decide) _ _, Kd.R_set (Kd.R_mono h.qt (fun k hk => ⟨hk.1, fun e => hk.2 (hat k e)⟩)) h.bx (by decide) _ _, Kd.R_set (Kd.R_mono h.qo (fun k hk => ⟨hk.1, fun e => hk.2 (hat k e)⟩)) h.bx (by decide) _ _, h.bl.setCell h.lo _, h.lo, kset h.kp h.gk _, h.gk⟩
theorem Sc.put_told (h : Sc F w g gi s b n A c m weak want seen left told out over vl vt vo) {vt1 : Value} {told1 : List Int} (hq : (Kd.int .u8).R 5 w2 F.w1.heap.size (fun k => F.ok k ∧ some k ≠ vl.ownBlock) vt1 told1) (hb : Below F.w1.heap.size F.w1 w2) (hg : w.grownBy w2 vt.ownBlock)
    (hat : vt1.ownBlock = vt.ownBlock ∨ ∃ b, vt1.ownBlock = some b ∧ w.heap.size ≤ b) : Sc F (w2.setCell ⟨g, 9, none⟩ vt1) g gi s b n A c m weak want seen left told1 out over vl vt1 vo := by
 have hx := blk_grown h.bx hg (Kd.R_ne h.qt h.bx (by decide))
 have hl : (Kd.int .u8).Q 5 w2 F.w1.heap.size F.ok vl left := Kd.Q_mono (Kd.Q_grown (Kd.Q_tight rfl h.ql) hg (fun k hk he => (h.qt.1 k he.symm).2 hk)) (fun k hk => h.ql.1 k hk.symm)
 have ho := swap_ok (Kd.R_after (swap_ok h.qo) hg hat)
 exact ⟨blk_put hx 9 _ rfl, Kd.Q_set hl hx (by decide) _ _, Kd.R_set hq hx (by decide) _ _, Kd.R_set ho hx (by decide) _ _, hb.setCell h.lo _, h.lo, kset (Kept.of_grown hg h.kp (fun k hk => (h.qt.1 k hk).1)) h.gk _, h.gk⟩
theorem Sc.put_out (h : Sc F w g gi s b n A c m weak want seen left told out over vl vt vo) {vo1 : Value} {out1 : List S47} (hq : k47.R 47 w2 F.w1.heap.size (fun k => (F.ok k ∧ some k ≠ vt.ownBlock) ∧ some k ≠ vl.ownBlock) vo1 out1) (hb : Below F.w1.heap.size F.w1 w2) (hg : w.grownBy w2 vo.ownBlock) :
    Sc F (w2.setCell ⟨g, 10, none⟩ vo1) g gi s b n A c m weak want seen left told out1 over vl vt vo1 := by
 have hx := blk_grown h.bx hg (Kd.R_ne h.qo h.bx (by decide))
 have hl : (Kd.int .u8).Q 5 w2 F.w1.heap.size F.ok vl left := Kd.Q_mono (Kd.Q_grown (Kd.Q_tight rfl h.ql) hg (fun k hk he => (h.qo.1 k he.symm).2 hk)) (fun k hk => h.ql.1 k hk.symm)
 have ht : (Kd.int .u8).R 5 w2 F.w1.heap.size (fun k => F.ok k ∧ some k ≠ vl.ownBlock) vt told := Kd.R_mono (Kd.R_grown (Kd.R_tight2 rfl h.qt) hg (fun k hk he => (h.qo.1 k he.symm).1.2 hk.1)) (fun _ hk => hk.2)
 exact ⟨blk_put hx 10 _ rfl, Kd.Q_set hl hx (by decide) _ _, Kd.R_set ht hx (by decide) _ _, Kd.R_set hq hx (by decide) _ _, hb.setCell h.lo _, h.lo, kset (Kept.of_grown hg h.kp (fun k hk => (h.qo.1 k hk).1.1)) h.gk _, h.gk⟩
theorem Sc.put_tell (h : Sc F w g gi s b n A c m weak want seen left told out over vl vt vo) {vo1 : Value} {out1 : List S47} (hq : k47.R 47 w2 F.w1.heap.size (fun k => F.ok k ∧ some k ≠ vl.ownBlock) vo1 out1) (hb : Below F.w1.heap.size F.w1 w2) (hg : w.grownBy w2 vo.ownBlock) :
    Sc F ((w2.setCell ⟨g, 10, none⟩ vo1).setCell ⟨g, 9, none⟩ (.slice none 0 0)) g gi s b n A c m weak want seen left [] out1 over vl (.slice none 0 0) vo1 := by
 have hx := blk_grown h.bx hg (Kd.R_ne h.qo h.bx (by decide))
 have hl : (Kd.int .u8).Q 5 w2 F.w1.heap.size F.ok vl left := Kd.Q_mono (Kd.Q_grown (Kd.Q_tight rfl h.ql) hg (fun k hk he => (h.qo.1 k he.symm).2 hk)) (fun k hk => h.ql.1 k hk.symm)
 have hx2 := blk_put hx 10 vo1 rfl
 have ho : k47.R 47 (w2.setCell ⟨g, 10, none⟩ vo1) F.w1.heap.size (fun k => (F.ok k ∧ some k ≠ (Value.slice none 0 0).ownBlock) ∧ some k ≠ vl.ownBlock) vo1 out1 := Kd.R_mono (Kd.R_set hq hx (by decide) _ _) (fun k hk => ⟨⟨hk.1, by simp [Value.ownBlock]⟩, hk.2⟩)
 exact ⟨blk_put hx2 9 _ rfl, Kd.Q_set (Kd.Q_set hl hx (by decide) _ _) hx2 (by decide) _ _, Kd.R_nil _ _ _ _ _, Kd.R_set ho hx2 (by decide) _ _, (hb.setCell h.lo _).setCell h.lo _, h.lo, kset (kset (Kept.of_grown hg h.kp (fun k hk => (h.qo.1 k hk).1.1)) h.gk _) h.gk _, h.gk⟩
theorem Sc.hand (h : Sc F w g gi s b n A c m weak want seen left told out over vl vt vo) : Sc F (w.setCell ⟨g, 10, none⟩ (.slice none 0 0)) g gi s b n A c m weak want seen left told [] over vl vt (.slice none 0 0) :=
 ⟨blk_put h.bx 10 _ rfl, Kd.Q_set h.ql h.bx (by decide) _ _, Kd.R_set h.qt h.bx (by decide) _ _, Kd.R_nil _ _ _ _ _, h.bl.setCell h.lo _, h.lo, kset h.kp h.gk _, h.gk⟩
theorem Sc.cell (h : Sc F w g gi s b n A c m weak want seen left told out over vl vt vo) (j : Nat) : w.cell? ⟨g, j, none⟩ = #[vl, .int .u32 weak, .int .i64 s, .int .i64 b, .int .i64 n, .slice A m c, .pointer (some ⟨gi, 0, none⟩), .int .i64 want, .int .i64 seen, vt, vo, .bool over][j]? := zc1 h.bx j
end
def match_push.T0 : Bool × List (List Nat × List Nat) := (true, [([], []), ([], []), ([1], [1]), ([2], [2]), ([3], [3]), ([], []), ([5], [5]), ([6], [6]), ([7], [7]), ([8], [8]), ([], []), ([4, 9, 10], [4, 9, 10]), ([0, 0, 1, 2, 3, 4, 5, 6, 7, 8, 9, 10, 11], [0]), ([12, 0, 1, 2, 3, 4, 5, 6, 7, 8, 9, 10, 11], [12]), ([13, 11, 11, 0, 1, 2, 3, 4, 5, 6, 7, 8, 9, 10, 11], [11, 13])])
def match_push.B0 : List Nat := [0, 0, 2, 6, 14, 0, 32, 96, 224, 480, 0, 2046, 4095, 8191, 16383]
theorem match_push.tab0 : rtab .any (opsOf Try.f25 0) = match_push.T0 := by kernel_rfl
theorem match_push.bits0 : waitsOk match_push.T0.2 match_push.B0 = true := by kernel_rfl
def match_shift.T2 : Bool × List (List Nat × List Nat) := (true, [([], []), ([], []), ([1], [1]), ([2], [2]), ([3], [3]), ([], []), ([5], [5]), ([6], [6]), ([7], [7]), ([8], [8]), ([], []), ([4, 9, 10], [4, 9, 10]), ([0, 0, 1, 2, 3, 4, 5, 6, 7, 8, 9, 10, 11], [0]), ([12, 0, 1, 2, 3, 4, 5, 6, 7, 8, 9, 10, 11], [12]), ([13, 11, 11, 0, 1, 2, 3, 4, 5, 6, 7, 8, 9, 10, 11], [11, 13])])
def match_shift.B2 : List Nat := [0, 0, 2, 6, 14, 0, 32, 96, 224, 480, 0, 2046, 4095, 8191, 16383]
theorem match_shift.tab2 : rtab .any (opsOf Try.f27 2) = match_shift.T2 := by kernel_rfl
theorem match_shift.bits2 : waitsOk match_shift.T2.2 match_shift.B2 = true := by kernel_rfl
def match_tell.T1 : Bool × List (List Nat × List Nat) := (true, [([], []), ([], []), ([1], [1]), ([2], [2]), ([3], [3]), ([], []), ([5], [5]), ([6], [6]), ([7], [7]), ([8], [8]), ([9], [9]), ([4, 10], [4, 10]), ([0, 0, 1, 2, 3, 4, 5, 6, 7, 8, 9, 10, 11], [0]), ([12, 0, 1, 2, 3, 4, 5, 6, 7, 8, 9, 10, 11], [12]), ([13, 11, 11, 0, 1, 2, 3, 4, 5, 6, 7, 8, 9, 10, 11], [11, 13])])
def match_tell.B1 : List Nat := [0, 0, 2, 6, 14, 0, 32, 96, 224, 480, 992, 2046, 4095, 8191, 16383]
theorem match_tell.tab1 : rtab .any (opsOf Try.f49 1) = match_tell.T1 := by kernel_rfl
theorem match_tell.bits1 : waitsOk match_tell.T1.2 match_tell.B1 = true := by kernel_rfl
def match_last.T1 : Bool × List (List Nat × List Nat) := (true, [([], []), ([0], [0]), ([1], [1]), ([2], [2]), ([3], [3]), ([], []), ([5], [5]), ([6], [6]), ([7], [7]), ([8], [8]), ([], []), ([10], [10]), ([11], [11]), ([12], [12]), ([13], [13]), ([14], [14]), ([15], [15]), ([4, 9, 16], [4, 9, 16]), ([17], [17]), ([18], [18]), ([18], [18]), ([18], [18]), ([19, 17, 0, 1, 2, 3, 4, 5, 6, 7, 8, 9, 10, 11, 12, 13, 14, 15, 16, 17, 18, 19], [19]), ([20, 22, 0, 1, 2, 3, 4, 5, 6, 7, 8, 9, 10, 11, 12, 13, 14, 15, 16, 17, 18, 19, 20, 22], [20]), ([21, 23, 0, 1, 2, 3, 4, 5, 6, 7, 8, 9, 10, 11, 12, 13, 14, 15, 16, 17, 18, 19, 20, 21, 22, 23], [21])])
def match_last.B1 : List Nat := [0, 1, 3, 7, 15, 0, 32, 96, 224, 480, 0, 1024, 3072, 7168, 15360, 31744, 64512, 131071, 262143, 524287, 524287, 524287, 1048575, 6291455, 16777215]
theorem match_last.tab1 : rtab .any (opsOf Try.f30 1) = match_last.T1 := by kernel_rfl
theorem match_last.bits1 : waitsOk match_last.T1.2 match_last.B1 = true := by kernel_rfl
def match_take.T1 : Bool × List (List Nat × List Nat) := (true, [([], []), ([0], [0]), ([1], [1]), ([2], [2]), ([], []), ([4], [4]), ([5], [5]), ([6], [6]), ([7], [7]), ([3, 8], [3, 8]), ([9], [9]), ([10], [10])])
def match_take.B1 : List Nat := [0, 1, 3, 7, 0, 16, 48, 112, 240, 511, 1023, 2047]
theorem match_take.tab1 : rtab .any (opsOf Try.f26 1) = match_take.T1 := by kernel_rfl
theorem match_take.bits1 : waitsOk match_take.T1.2 match_take.B1 = true := by kernel_rfl
def match_take.T3 : Bool × List (List Nat × List Nat) := (true, [([], []), ([0], [0]), ([1], [1]), ([2], [2]), ([3], [3]), ([], []), ([5], [5]), ([6], [6]), ([7], [7]), ([8], [8]), ([4, 9], [4, 9]), ([10], [10]), ([11], [11]), ([11], [11]), ([12, 10, 0, 1, 2, 3, 4, 5, 6, 7, 8, 9, 10, 11, 12], [12]), ([13, 14, 0, 1, 2, 3, 4, 5, 6, 7, 8, 9, 10, 11, 12, 13, 14], [13])])
def match_take.B3 : List Nat := [0, 1, 3, 7, 15, 0, 32, 96, 224, 480, 1023, 2047, 4095, 4095, 8191, 32767]
theorem match_take.tab3 : rtab .any (opsOf Try.f26 3) = match_take.T3 := by kernel_rfl
theorem match_take.bits3 : waitsOk match_take.T3.2 match_take.B3 = true := by kernel_rfl
def match_take.T4 : Bool × List (List Nat × List Nat) := (true, [([], []), ([0], [0]), ([1], [1]), ([2], [2]), ([], []), ([4], [4]), ([5], [5]), ([6], [6]), ([7], [7]), ([], []), ([], []), ([10], [10]), ([11], [11]), ([12], [12]), ([13], [13]), ([14], [14]), ([], []), ([16], [16]), ([17], [17]), ([18], [18]), ([3, 8, 9, 15, 19], [3, 8, 9, 15, 19]), ([20], [20]), ([21], [21]), ([21], [21]), ([22, 20, 0, 1, 2, 3, 4, 5, 6, 7, 8, 9, 10, 11, 12, 13, 14, 15, 16, 17, 18, 19, 20, 21, 22], [22]), ([23, 24, 0, 1, 2, 3, 4, 5, 6, 7, 8, 9, 10, 11, 12, 13, 14, 15, 16, 17, 18, 19, 20, 21, 22, 23, 24], [23])])
def match_take.B4 : List Nat := [0, 1, 3, 7, 0, 16, 48, 112, 240, 0, 0, 1024, 3072, 7168, 15360, 31744, 0, 65536, 196608, 458752, 1048575, 2097151, 4194303, 4194303, 8388607, 33554431]
theorem match_take.tab4 : rtab .any (opsOf Try.f26 4) = match_take.T4 := by kernel_rfl
theorem match_take.bits4 : waitsOk match_take.T4.2 match_take.B4 = true := by kernel_rfl
def match_take.T7 : Bool × List (List Nat × List Nat) := (true, [([], []), ([0], [0]), ([1], [1]), ([2], [2]), ([3], [3]), ([], []), ([5], [5]), ([6], [6]), ([7], [7]), ([8], [8]), ([], []), ([4, 9, 10], [4, 9, 10]), ([11], [11]), ([12], [12]), ([12], [12]), ([12], [12]), ([13, 11, 0, 1, 2, 3, 4, 5, 6, 7, 8, 9, 10, 11, 12, 13], [13]), ([14, 16, 0, 1, 2, 3, 4, 5, 6, 7, 8, 9, 10, 11, 12, 13, 14, 16], [14]), ([15, 17, 0, 1, 2, 3, 4, 5, 6, 7, 8, 9, 10, 11, 12, 13, 14, 15, 16, 17], [15])])
def match_take.B7 : List Nat := [0, 1, 3, 7, 15, 0, 32, 96, 224, 480, 0, 2047, 4095, 8191, 8191, 8191, 16383, 98303, 262143]
theorem match_take.tab7 : rtab .any (opsOf Try.f26 7) = match_take.T7 := by kernel_rfl
theorem match_take.bits7 : waitsOk match_take.T7.2 match_take.B7 = true := by kernel_rfl
set_option maxHeartbeats 8000000 in
set_option maxRecDepth 100000 in
theorem match_push.calls {F : Fr} {w : World} {g gi : Nat} {s b n : Int} {A : Option Addr} {c m : Nat} {weak want seen : Int} {left told : List Int} {out : List S47} {over : Bool} {vl vt vo : Value} (hS : Sc F w g gi s b n A c m weak want seen left told out over vl vt vo) (hl : left.length ≤ 1000000) (x r : Int) (h : roll_In.f weak (left.length : Int) x = some r) :
    Calls Try.prog 25 #[.pointer (some ⟨g, 0, none⟩), .int .u8 x] w fun e w' => ∃ vl1, e = .returned (.tuple #[]) ∧ Sc F w' g gi s b n A c m r want seen (left ++ [x]) told out over vl1 vt vo := by
 have hu := Try.underlying60
 obtain ⟨Al, cl, hv, hlc⟩ := Kd.Q_slice hS.ql
 obtain ⟨ln, hln⟩ : ∃ ln : Nat, ln = left.length := ⟨_, rfl⟩
 rw [← hln] at hv
 have HL := zA (show ln ≤ 1000000 by omega)
 have HLN := zA hln
 have HI : Aside0 (roll_In.f weak (ln : Int) x = some r) := ⟨by rw [hln]; exact h⟩
 have HS := zA hS
 have hc0 : w.cell? ⟨g, 0, none⟩ = some (.slice Al ln cl) := by rw [hS.cell 0, hv]; rfl
 have hc1 : w.cell? ⟨g, 1, none⟩ = some (.int .u32 weak) := (hS.cell 1).trans rfl
 have hf1 := zc5 hS.bx 1
 clear hln h hl hS hlc
 go_enter Try.func25, Try.ntmps25
 go_wp2_with fail
 refine start_ (n := 15) (S := fun w' => w'.cell? ⟨g, 0, none⟩ = some (.slice Al ln cl) ∧ w'.cell? ⟨g, 1, none⟩ = some (.int .u32 weak)) (ds := [14]) (qq 15 0) (by kernel_rfl) rfl (by kernel_rfl) ⟨hc0, hc1⟩ (fun hHeld => ?_); refine with_tabW match_push.tab0 match_push.bits0 (fun HT_ HW_ => ?_)
 refine ord_ [(0, 0, 1), (0, 1, 3), (0, 2, 7), (0, 3, 15), (0, 5, 47), (0, 6, 111), (0, 7, 239), (0, 10, 1263), (1, 4, 1279), (1, 8, 1535), (0, 9, 2047)] ?_
 repeat (first | (refine kk_ 0 ?_; refine oP_ (v := ?_) (a' := ?_) HT_ rfl rfl (by kernel_rfl) (fun _ _ _ h => h) (Or.inl ⟨by rfl, ?_⟩) ?_ ?_; rotate_left; (intro w'; go_simp; with_reducible rfl); rotate_left; (simp only [Act.put, zs1, zs2, zs3, i64_w, i32_w]; rfl)) | (refine kk_ 1 ?_; refine oT_ (v := ?_) (a' := ?_) HT_ HW_ rfl rfl (by kernel_rfl) (fun _ _ _ h => h) (Or.inl ⟨by rfl, ?_⟩) hHeld ?_ ?_; rotate_left; (rintro w' ⟨s0, s1⟩; go_simp; with_reducible rfl); rotate_left; (simp only [Act.put, zs1, zs2, zs3, i64_w, i32_w]; rfl)))
 refine oend_ ?_
 refine one_ (i := 11) (N := some 15) (qq 15 4095) rfl rfl (one_of HT_.out (by kernel_rfl)) (by decide) (fun K hK => ?_)
 refine goes_ Try.func44 (by kernel_rfl) rfl #[.int .u32 weak, .int .i64 (ln : Int), .int .u8 x] (by rfl) rfl rfl (by (try simp only [zm1, zm2, zm3]); first | done | rfl) ?_
 refine (roll_In.calls weak (ln : Int) x r _ HI.out).mono ?_
 rintro e w2 ⟨rfl, hb⟩
 replace HS := zA (HS.out.drew.step (by first | exact hb.below | exact hb))
 have hc0 : w2.cell? ⟨g, 0, none⟩ = some (.slice Al ln cl) := by rw [HS.out.cell 0, hv]; rfl
 have hc1 : w2.cell? ⟨g, 1, none⟩ = some (.int .u32 weak) := (HS.out.cell 1).trans rfl
 have hf1 := zc5 HS.out.bx 1
 refine ⟨_, rfl, ?_⟩
 refine hK.out _ _ ⟨hc0, hc1⟩ (fun hHeld => ?_)
 clear hK K
 refine norm_ (a' := ?_) ?_ ?_
 rotate_left
 ·show Act.put _ (some 15) _ = _
  simp only [Act.put, zs1, zs2, zs3, i64_w, i32_w]
  rfl
 refine ord_ [(0, 12, 8191), (0, 13, 16383)] ?_
 repeat (refine kk_ 0 ?_; refine oP_ (v := ?_) (a' := ?_) HT_ rfl rfl (by kernel_rfl) (fun _ _ _ h => h) (Or.inl ⟨by rfl, ?_⟩) ?_ ?_; rotate_left; (intro w'; go_simp; with_reducible rfl); rotate_left; (simp only [Act.put, zs1, zs2, zs3, i64_w, i32_w]; rfl))
 refine oend_ ?_
 refine last_ (i := 14) (N := none) (qq 15 32767) rfl rfl (one_of HT_.out (by kernel_rfl)) (by decide) (fun K hK => ?_)
 go_simp
 refine hK.out _ _ ?_
 clear hK K
 refine done_ (done_of HT_.out (by kernel_rfl)) ?_
 clear HT_ HW_ hHeld
 have hc0 : (w2.setCell ⟨g, 1, none⟩ (.int .u32 r)).cell? ⟨g, 0, none⟩ = some (.slice Al ln cl) := by rw [(HS.out.put_weak r).cell 0, hv]; rfl
 have hf0 := zc5 (HS.out.put_weak r).bx 0
 replace HS := zA (HS.out.put_weak r)
 obtain ⟨W, hW⟩ : ∃ W, W = w2.setCell ⟨g, 1, none⟩ (.int .u32 r) := ⟨_, rfl⟩
 rw [← hW] at HS hc0 hf0 ⊢
 clear hW hc1 hf1
 go_wp2_with (first
  | ((with_reducible refine gate_dst (N := 25) rfl ?_); refine Kd.Q_append (Kd.int .u8) (w0 := F.w1) F.w1.heap.size rfl (.tmp 22) (.tmp 24) 33 5 (.int .u8 0) 1 rfl Try.underlying33 info5 rfl (by decide) (by decide) (.slice Al ln cl) left x [.int .u8 x] F.ok (fun _ => False) rfl rfl rfl (fun _ hk => hk.elim) HS.out.fresh (by rw [← hv]; exact HS.out.ql) HS.out.bl HS.out.bl.size (by rw [← HLN.out]; have := HL.out; omega) ?_; intro vl1 w3 hq hb hg hat; obtain ⟨A3, c3, e3, _⟩ := Kd.Q_slice hq; obtain ⟨n3, hn3⟩ : ∃ n3 : Nat, n3 = (left ++ [x]).length := ⟨_, rfl⟩; rw [← hn3] at e3; subst e3; rw [← hv] at hg hat; have hx3 := blk_grown HS.out.bx hg (Kd.Q_ne HS.out.ql HS.out.bx (by decide)); have hc0 := zc1 hx3 0; have hf0 := zc5 hx3 0; have HP := zA (HS.out.put_left hq hb hg hat); clear hq hb hg hat hx3 hn3))
 exact bodyPost_end (results_none rfl _ _ _) rfl ⟨_, rfl, HP.out⟩
set_option maxHeartbeats 8000000 in
set_option maxRecDepth 100000 in
theorem match_shift.calls {F : Fr} {w : World} {g gi : Nat} {s b n : Int} {A : Option Addr} {c m : Nat} {weak want seen : Int} {x : Int} {rest told : List Int} {out : List S47} {over : Bool} {vl vt vo : Value} (hS : Sc F w g gi s b n A c m weak want seen (x :: rest) told out over vl vt vo) (hl : (x :: rest).length ≤ 1000000) (r : Int) (h : roll_Out.f weak ((x :: rest).length : Int) x = some r) :
    Calls Try.prog 27 #[.pointer (some ⟨g, 0, none⟩)] w fun e w' => ∃ vl1, e = .returned (.int .u8 x) ∧ Sc F w' g gi s b n A c m r want seen rest told out over vl1 vt vo := by
 have hu := Try.underlying60
 obtain ⟨Al, cl, hv, hlc⟩ := Kd.Q_slice hS.ql
 obtain ⟨ln, hln⟩ : ∃ ln : Nat, ln = (x :: rest).length := ⟨_, rfl⟩
 have hl1 : 1 ≤ ln := by rw [hln]; simp
 rw [← hln] at hv hlc
 have HL := zA (show ln ≤ 1000000 by omega)
 have HLN := zA hln
 have HI : Aside0 (roll_Out.f weak (ln : Int) x = some r) := ⟨by rw [hln]; exact h⟩
 have HS := zA hS
 have hq := hS.ql
 rw [hv] at hq
 obtain ⟨ad, ead, hx0⟩ := Kd.at_int (Kd.Q_reads' hq).2.2 0 (by omega) (by simp)
 subst ead
 have HLC := zA hlc
 have hx1 : w.cell? ad = some (.int .u8 x) := hx0
 have hx2 : w.cell? (ad.add 0) = some (.int .u8 x) := hx0
 have hc0 : w.cell? ⟨g, 0, none⟩ = some (.slice (some ad) ln cl) := by rw [hS.cell 0, hv]; rfl
 have hc1 : w.cell? ⟨g, 1, none⟩ = some (.int .u32 weak) := (hS.cell 1).trans rfl
 have hf1 := zc5 hS.bx 1
 have p0 := eq_true (show (0 : Int) < (ln : Int) by omega)
 have p1 := eq_true (show 0 < ln by omega)
 have p2 := eq_true (show (1 : Int) ≤ (ln : Int) by omega)
 have p3 := eq_true hl1
 clear hln h hl hS hlc hq hx0 hl1
 go_enter Try.func27, Try.ntmps27
 go_wp2_with fail
 refine start_ (n := 15) (S := fun w' => w'.cell? ⟨g, 0, none⟩ = some (.slice (some ad) ln cl) ∧ w'.cell? ⟨g, 1, none⟩ = some (.int .u32 weak)) (ds := [14]) (qq 15 0) (by kernel_rfl) rfl (by kernel_rfl) ⟨hc0, hc1⟩ (fun hHeld => ?_); refine with_tabW match_shift.tab2 match_shift.bits2 (fun HT_ HW_ => ?_)
 refine ord_ [(0, 0, 1), (0, 1, 3), (0, 2, 7), (0, 3, 15), (0, 5, 47), (0, 6, 111), (0, 7, 239), (0, 10, 1263), (1, 4, 1279), (1, 8, 1535), (0, 9, 2047)] ?_
 repeat (first | (refine kk_ 0 ?_; refine oP_ (v := ?_) (a' := ?_) HT_ rfl rfl (by kernel_rfl) (fun _ _ _ h => h) (Or.inl ⟨by rfl, ?_⟩) ?_ ?_; rotate_left; (intro w'; go_simp; with_reducible rfl); rotate_left; (simp only [Act.put, zs1, zs2, zs3, i64_w, i32_w]; rfl)) | (refine kk_ 1 ?_; refine oT_ (v := ?_) (a' := ?_) HT_ HW_ rfl rfl (by kernel_rfl) (fun _ _ _ h => h) (Or.inl ⟨by rfl, ?_⟩) hHeld ?_ ?_; rotate_left; (rintro w' ⟨s0, s1⟩; go_simp; with_reducible rfl); rotate_left; (simp only [Act.put, zs1, zs2, zs3, i64_w, i32_w]; rfl)))
 refine oend_ ?_
 refine one_ (i := 11) (N := some 21) (qq 15 4095) rfl rfl (one_of HT_.out (by kernel_rfl)) (by decide) (fun K hK => ?_)
 refine goes_ Try.func51 (by kernel_rfl) rfl #[.int .u32 weak, .int .i64 (ln : Int), .int .u8 x] (by rfl) rfl rfl (by (try simp only [zm1, zm2, zm3]); first | done | rfl) ?_
 refine (roll_Out.calls weak (ln : Int) x r _ HI.out).mono ?_
 rintro e w2 ⟨rfl, hb⟩
 replace HS := zA (HS.out.drew.step (by first | exact hb.below | exact hb))
 have hc0 : w2.cell? ⟨g, 0, none⟩ = some (.slice (some ad) ln cl) := by rw [HS.out.cell 0, hv]; rfl
 have hc1 : w2.cell? ⟨g, 1, none⟩ = some (.int .u32 weak) := (HS.out.cell 1).trans rfl
 have hf1 := zc5 HS.out.bx 1
 refine ⟨_, rfl, ?_⟩
 refine hK.out _ _ ⟨hc0, hc1⟩ (fun hHeld => ?_)
 clear hK K
 refine norm_ (a' := ?_) ?_ ?_
 rotate_left
 ·show Act.put _ (some 21) _ = _
  simp only [Act.put, zs1, zs2, zs3, i64_w, i32_w]
  rfl
 refine ord_ [(0, 12, 8191), (0, 13, 16383)] ?_
 repeat (refine kk_ 0 ?_; refine oP_ (v := ?_) (a' := ?_) HT_ rfl rfl (by kernel_rfl) (fun _ _ _ h => h) (Or.inl ⟨by rfl, ?_⟩) ?_ ?_; rotate_left; (intro w'; go_simp; with_reducible rfl); rotate_left; (simp only [Act.put, zs1, zs2, zs3, i64_w, i32_w]; rfl))
 refine oend_ ?_
 refine last_ (i := 14) (N := none) (qq 15 32767) rfl rfl (one_of HT_.out (by kernel_rfl)) (by decide) (fun K hK => ?_)
 go_simp
 refine hK.out _ _ ?_
 clear hK K
 refine done_ (done_of HT_.out (by kernel_rfl)) ?_
 clear HT_ HW_ hHeld
 have hc0 : (w2.setCell ⟨g, 1, none⟩ (.int .u32 r)).cell? ⟨g, 0, none⟩ = some (.slice (some ad) ln cl) := by rw [(HS.out.put_weak r).cell 0, hv]; rfl
 have hf0 := zc5 (HS.out.put_weak r).bx 0
 replace HS := zA (HS.out.put_weak r)
 obtain ⟨W, hW⟩ : ∃ W, W = w2.setCell ⟨g, 1, none⟩ (.int .u32 r) := ⟨_, rfl⟩
 rw [← hW] at HS hc0 hf0 ⊢
 clear hW hc1 hf1 hx1 hx2
 have hq := HS.out.ql
 rw [hv] at hq
 have hd := Kd.Q_drop hq (k := 1) (by simp)
 have HV := zA hv
 have HD := zA hd
 clear hq hd hv
 by_cases e : cl = 1
 ·subst e
  go_wp2_with fail
  go_ret
  have hX := HS.out.cut_left (left1 := rest) HD.out (fun k hk => by rw [HV.out, hk]; rfl)
  first | exact ⟨rfl, _, hX⟩ | exact ⟨_, rfl, hX⟩
 ·have e1 := eq_false e
  go_wp2_with fail
  go_ret
  have hd := HD.out
  rw [if_neg e] at hd
  have hX := HS.out.cut_left (left1 := rest) hd (fun k hk => by rw [HV.out, hk]; rfl)
  first | exact ⟨rfl, _, hX⟩ | exact ⟨_, rfl, hX⟩
set_option maxHeartbeats 8000000 in
set_option maxRecDepth 100000 in
theorem match_empty.calls {F : Fr} {w : World} {g gi : Nat} {s b n : Int} {A : Option Addr} {c m : Nat} {weak want seen : Int} {left told : List Int} {out : List S47} {over : Bool} {vl vt vo : Value} (hS : Sc F w g gi s b n A c m weak want seen left told out over vl vt vo) :
    Calls Try.prog 50 #[.pointer (some ⟨g, 0, none⟩)] w fun e w' => e = .returned (.tuple #[]) ∧ Sc F w' g gi s b n A c m 0 want seen [] told out over (.slice none 0 0) vt vo := by
 have hu := Try.underlying60
 have HS := zA hS
 have hc0 : w.cell? ⟨g, 0, none⟩ = some vl := (hS.cell 0).trans rfl
 have hc1 : w.cell? ⟨g, 1, none⟩ = some (.int .u32 weak) := (hS.cell 1).trans rfl
 have hf0 := zc5 hS.bx 0
 have hf1 := zc5 hS.bx 1
 clear hS
 go_enter Try.func50, Try.ntmps50
 go_wp2_with fail
 exact bodyPost_end (results_none rfl _ _ _) rfl ⟨rfl, (HS.out.cut_left (vl1 := .slice none 0 0) (left1 := []) (Kd.Q_nil _ _ _ _ _) (fun k hk => by simp [Value.ownBlock] at hk)).put_weak 0⟩
def tl (told : List Int) (out : List S47) : List S47 := if told = [] then out else out ++ [⟨0, 0, told⟩]
set_option maxHeartbeats 8000000 in
set_option maxRecDepth 100000 in
theorem match_tell.calls {F : Fr} {w : World} {g gi : Nat} {s b n : Int} {A : Option Addr} {c m : Nat} {weak want seen : Int} {left told : List Int} {out : List S47} {over : Bool} {vl vt vo : Value} (hS : Sc F w g gi s b n A c m weak want seen left told out over vl vt vo) (ho : out.length ≤ 1000000) :
    Calls Try.prog 49 #[.pointer (some ⟨g, 0, none⟩)] w fun e w' => ∃ vt1 vo1, e = .returned (.tuple #[]) ∧ Sc F w' g gi s b n A c m weak want seen left [] (tl told out) over vl vt1 vo1 := by
 have hu := Try.underlying62
 have hu2 := Try.underlying47
 obtain ⟨At, ct, hv, hlt, _⟩ := Kd.R_reads hS.qt
 obtain ⟨Ao, co, hvo, _⟩ := Kd.R_reads hS.qo
 obtain ⟨tn, htn⟩ : ∃ tn : Nat, tn = told.length := ⟨_, rfl⟩
 obtain ⟨on, hon⟩ : ∃ on : Nat, on = out.length := ⟨_, rfl⟩
 rw [← htn] at hv
 rw [← hon] at hvo
 have HS := zA hS
 have HO := zA (And.intro hon (show on ≤ 1000000 by omega))
 have hc9 : w.cell? ⟨g, 9, none⟩ = some (.slice At tn ct) := by rw [hS.cell 9, hv]; rfl
 have hc10 : w.cell? ⟨g, 10, none⟩ = some (.slice Ao on co) := by rw [hS.cell 10, hvo]; rfl
 go_enter Try.func49, Try.ntmps49
 by_cases h0 : tn = 0
 ·have e0 : told = [] := List.eq_nil_of_length_eq_zero (by omega)
  subst e0
  subst h0
  clear hS htn hon
  go_wp2_with fail
  exact bodyPost_end (results_none rfl _ _ _) rfl ⟨_, _, rfl, HS.out⟩
 ·have hne : told ≠ [] := fun e => h0 (by rw [htn, e]; rfl)
  have d1 : decide ((0 : Int) < (tn : Int)) = true := zd1 (by omega)
  have d2 : decide (0 < tn) = true := zd1 (by omega)
  have HN := zA hne
  have HV := zA (And.intro hv hvo)
  have hf10 := zc5 hS.bx 10
  have etl : tl told out = out ++ [(⟨0, 0, told⟩ : S47)] := if_neg hne
  have HTL := zA etl
  have HTN := zA htn
  have HSD := zA HS.out.drew
  clear hS hon hne h0 hv hvo hlt etl htn ho
  go_wp2_with fail
  refine start_ (n := 15) (S := fun w' => w'.cell? ⟨g, 9, none⟩ = some (.slice At tn ct) ∧ w'.cell? ⟨g, 10, none⟩ = some (.slice Ao on co)) (ds := [14]) (qq 15 0) (by kernel_rfl) rfl (by kernel_rfl) ⟨hc9, hc10⟩ (fun hHeld => ?_); refine with_tabW match_tell.tab1 match_tell.bits1 (fun HT_ HW_ => ?_)
  generalize w.drew = wd at HSD hHeld ⊢
  refine ord_ [(0, 0, 1), (0, 1, 3), (0, 2, 7), (0, 3, 15), (0, 5, 47), (0, 6, 111), (0, 7, 239), (1, 4, 255), (1, 8, 511)] ?_
  repeat (first | (refine kk_ 0 ?_; refine oP_ (v := ?_) (a' := ?_) HT_ rfl rfl (by kernel_rfl) (fun _ _ _ h => h) (Or.inl ⟨by rfl, ?_⟩) ?_ ?_; rotate_left; (intro w'; go_simp; with_reducible rfl); rotate_left; (simp only [Act.put, zs1, zs2, zs3, i64_w, i32_w]; rfl)) | (refine kk_ 1 ?_; refine oT_ (v := ?_) (a' := ?_) HT_ HW_ rfl rfl (by kernel_rfl) (fun _ _ _ h => h) (Or.inl ⟨by rfl, ?_⟩) hHeld ?_ ?_; rotate_left; (rintro w' ⟨s0, s1⟩; go_simp; with_reducible rfl); rotate_left; (simp only [Act.put, zs1, zs2, zs3, i64_w, i32_w]; rfl)))
  refine oend_ ?_
  refine one_ (i := 9) (N := some 17) (qq 15 1023) rfl rfl (one_of HT_.out (by kernel_rfl)) (by decide) (fun K hK => ?_)
  refine value_ (w1 := ?_) (v := ?_) (by rfl) rfl ?_ ?_
  rotate_left 2
  ·go_simp
   constructor
   ·rfl
   ·rfl
  refine hK.out _ _ hHeld (fun hHeld => ?_)
  clear hK K
  refine norm_ (a' := ?_) ?_ ?_
  rotate_left
  ·show Act.put _ (some 17) _ = _
   simp only [Act.put, zs1, zs2, zs3, i64_w, i32_w]
   rfl
  refine one_ (i := 10) (N := some 18) (qq 15 2047) rfl rfl (one_of HT_.out (by kernel_rfl)) (by decide) (fun K hK => ?_)
  refine value_ (w1 := ?_) (v := ?_) (by rfl) rfl ?_ ?_
  rotate_left 2
  ·go_simp
   constructor
   ·rfl
   ·rfl
  refine hK.out _ _ ⟨(Below.cell (zb3 (Below.refl _ _) _) (World.block_lt_of_cell? _ _ hHeld.1)).trans hHeld.1, (Below.cell (zb3 (Below.refl _ _) _) (World.block_lt_of_cell? _ _ hHeld.2)).trans hHeld.2⟩ (fun hHeld => ?_)
  clear hK K
  refine norm_ (a' := ?_) ?_ ?_
  rotate_left
  ·show Act.put _ (some 18) _ = _
   simp only [Act.put, zs1, zs2, zs3, i64_w, i32_w]
   rfl
  refine one_ (i := 11) (N := some 19) (qq 15 4095) rfl rfl (one_of HT_.out (by kernel_rfl)) (by decide) (fun K hK => ?_)
  refine Kd.R_append_step k47 (w0 := F.w1) F.w1.heap.size (by rfl) (.tmp 12) (.tmp 18) 34 47 (.agg #[(.int .i64 0), (.int .i64 0), (.slice none 0 0)]) 40 rfl Try.underlying34 infoSc rfl (by decide) (by decide) (.slice Ao on co) out (⟨0, 0, told⟩ : S47) [.int .i64 0, .int .i64 0, .slice At tn ct] (fun k => F.ok k ∧ some k ≠ vl.ownBlock) (fun k => some k = (Value.slice At tn ct).ownBlock) rfl rfl (k47_mkM _ _ _ (⟨0, 0, told⟩ : S47) (by rw [← HV.out.1]; exact Kd.R_tight rfl HSD.out.qt)) (fun k hk => ⟨⟨(HSD.out.qt.1 k (by rw [HV.out.1]; exact hk.symm)).1, (HSD.out.qt.1 k (by rw [HV.out.1]; exact hk.symm)).2⟩, fun e => (HSD.out.qo.1 k (by rw [HV.out.2]; exact e.symm)).1.2 (by rw [HV.out.1]; exact hk)⟩) (fun k hk => ⟨HSD.out.fresh k hk, fun e => by have := Kd.Q_lt HSD.out.ql k e.symm; omega⟩) (by rw [← HV.out.2]; exact Kd.R_mono HSD.out.qo (fun k hk => ⟨hk.1.1, hk.2⟩)) HSD.out.bl HSD.out.bl.size (by rw [← HO.out.1]; have := HO.out.2; omega) ?_
  intro vo1 w3 hq hb hg hat
  obtain ⟨Ao1, co1, e3⟩ := Kd.R_slice hq
  obtain ⟨n3, hn3⟩ : ∃ n3 : Nat, n3 = (out ++ [(⟨0, 0, told⟩ : S47)]).length := ⟨_, rfl⟩
  rw [← hn3] at e3
  subst e3
  clear hn3
  have hg2 := hg
  rw [← HV.out.2] at hg2
  have hx3 := blk_grown HSD.out.bx hg2 (Kd.R_ne HSD.out.qo HSD.out.bx (by decide))
  have hc9 : w3.cell? ⟨g, 9, none⟩ = some (.slice At tn ct) := by rw [zc1 hx3 9, HV.out.1]; rfl
  have hc10 : w3.cell? ⟨g, 10, none⟩ = some (.slice Ao on co) := by rw [zc1 hx3 10, HV.out.2]; rfl
  refine hK.out _ _ ⟨hc9, hc10⟩ (fun hHeld => ?_)
  clear hK K
  refine norm_ (a' := ?_) ?_ ?_
  rotate_left
  ·show Act.put _ (some 19) _ = _
   simp only [Act.put, zs1, zs2, zs3, i64_w, i32_w]
   rfl
  refine ord_ [(0, 12, 8191), (0, 13, 16383)] ?_
  repeat (refine kk_ 0 ?_; refine oP_ (v := ?_) (a' := ?_) HT_ rfl rfl (by kernel_rfl) (fun _ _ _ h => h) (Or.inl ⟨by rfl, ?_⟩) ?_ ?_; rotate_left; (intro w'; go_simp; with_reducible rfl); rotate_left; (simp only [Act.put, zs1, zs2, zs3, i64_w, i32_w]; rfl))
  refine oend_ ?_
  refine last_ (i := 14) (N := none) (qq 15 32767) rfl rfl (one_of HT_.out (by kernel_rfl)) (by decide) (fun K hK => ?_)
  have hfz := zc5 hx3 10
  go_simp
  refine hK.out _ _ ?_
  clear hK K
  refine done_ (done_of HT_.out (by kernel_rfl)) ?_
  clear HT_ HW_ hHeld
  have HP := zA (HSD.out.put_tell hq hb hg2)
  have hf9 := zc5 hx3 9
  rw [← HTL.out] at HP
  clear hq hb hg hg2 hat hx3 hc10 hf10
  go_wp2_with fail
  exact bodyPost_end (results_none rfl _ _ _) rfl ⟨_, _, rfl, HP.out⟩
set_option maxHeartbeats 8000000 in
set_option maxRecDepth 100000 in
theorem match_ops.calls {F : Fr} {w : World} {g gi : Nat} {s b n : Int} {A : Option Addr} {c m : Nat} {weak want seen : Int} {left told : List Int} {out : List S47} {over : Bool} {vl vt vo : Value} (hS : Sc F w g gi s b n A c m weak want seen left told out over vl vt vo) (ho : out.length ≤ 1000000) :
    Calls Try.prog 28 #[.pointer (some ⟨g, 0, none⟩)] w fun e w' => ∃ vt1 vr, e = .returned vr ∧ Sc F w' g gi s b n A c m weak want seen left [] [] over vl vt1 (.slice none 0 0) ∧ k47.R 47 w' F.w1.heap.size (fun k => k ≠ g ∧ (F.ok k ∧ some k ≠ vt1.ownBlock) ∧ some k ≠ vl.ownBlock) vr (tl told out) := by
 have hu := Try.underlying62
 have HS := zA hS
 have HO := zA ho
 clear hS ho
 go_enter Try.func28, Try.ntmps28
 go_wp2_with fail
 refine (match_tell.calls HS.out HO.out).mono ?_
 rintro e w2 ⟨vt1, vo1, rfl, hS⟩
 have HS2 := zA hS
 have hc10 := (hS.cell 10).trans rfl
 have hf10 := zc5 hS.bx 10
 clear hS HS
 go_wp2_with fail
 go_ret
 have hR := Kd.R_set (Kd.R_types HS2.out.qo HS2.out.bx (by decide)) HS2.out.bx (by decide) 10 (.slice none 0 0)
 have hR2 := Kd.R_mono hR (ok' := fun k => k ≠ g ∧ (F.ok k ∧ some k ≠ vt1.ownBlock) ∧ some k ≠ vl.ownBlock) (fun k hk => ⟨hk.2, hk.1⟩)
 exact ⟨vt1, vo1, rfl, HS2.out.hand, hR2⟩
def IxIs (w : World) (g : Nat) (l : List S55) (s b : Int) : Prop := ∃ (A0 : Option Addr) (c0 : Nat) (A3 : Option Addr) (c3 : Nat),
 w.heap[g]? = some (.cells #[.slice A0 l.length c0, .int .i64 s, .int .i64 b, .slice A3 (ixChains l).length c3] 81 (0, 0)) ∧ Kd.C k55 w A0 l.length l ∧ l.length ≤ c0 ∧ Kd.C (Kd.slice 3 (Kd.int .i64)) w A3 (ixChains l).length (ixChains l) ∧ (ixChains l).length ≤ c3
theorem IxIs.below {w w1 : World} {g : Nat} {l : List S55} {s b : Int} (h : IxIs w g l s b) (hb : Below w.heap.size w w1) : IxIs w1 g l s b := by
 obtain ⟨A0, c0, A3, c3, h1, h2, h3, h4, h5⟩ := h
 exact ⟨A0, c0, A3, c3, zc6 h1 hb, Kd.C_below h2 hb, h3, Kd.C_below h4 hb, h5⟩
theorem ixis_new (a0_0 : Int) (a0_1 : Int) (a0_2 : Int) (A0_3 : Option Addr) (c0_3 : Nat) (l0_3 : List S55) (w : World) {n : Nat} (hn : n = l0_3.length) (hr0_3 : Kd.C k55 w A0_3 l0_3.length l0_3) (hc0_3 : l0_3.length ≤ c0_3) (h : sig_Check.f a0_0 a0_1 a0_2 l0_3 = some 0) (hlen : l0_3.length ≤ 1000000) :
    Calls Try.prog 22 #[.agg #[.int .i64 a0_0, .int .i64 a0_1, .int .i64 a0_2, .slice A0_3 n c0_3]] w fun e w' => ∃ g : Nat, e = .returned (.tuple #[.pointer (some ⟨g, 0, none⟩), .int .i64 0]) ∧ IxIs w' g l0_3 a0_0 a0_1 ∧ Below w.heap.size w w' := by
 subst hn
 refine (index_New.calls_ok a0_0 a0_1 a0_2 A0_3 c0_3 l0_3 w hr0_3 hc0_3 h hlen).mono ?_
 rintro e w' ⟨g, A0, c0, A3, c3, rfl, _, h1, h2, h3, h4, h5, hb⟩
 exact ⟨g, rfl, ⟨A0, c0, A3, c3, h1, h2, h3, h4, h5⟩, hb⟩
theorem ixis_find {g : Nat} {l : List S55} {s b : Int} {w : World} (hx : IxIs w g l s b) {k : Nat} {a1 : Int} {r : List Int} (h : index_Index_Find.f k l s b (ixChains l) a1 = some r) :
    Calls Try.prog 45 #[.pointer (some ⟨g, 0, none⟩), .int .u32 a1] w fun e w' => ∃ (A : Option Addr) (c : Nat), e = .returned (.slice A r.length c) ∧ Kd.C (Kd.int .i64) w' A r.length r ∧ r.length ≤ c ∧ Below w.heap.size w w' := by
 obtain ⟨A0, c0, A3, c3, h1, h2, h3, h4, h5⟩ := hx
 refine (index_Index_Find.calls g k A0 c0 l s b A3 c3 (ixChains l) a1 r w h2 h3 h4 h5 h1 h).mono ?_
 rintro e w' ⟨v, rfl, hR, hb⟩
 obtain ⟨A, c, rfl, hl, hr⟩ := Kd.R_reads hR
 exact ⟨A, c, rfl, hr, hl, hb⟩
theorem ixis_pick {g : Nat} {l : List S55} {s b : Int} {w : World} (hx : IxIs w g l s b) {k : Nat} {a1 : Int} {a2 : ByteArray} {a3 a4 : Int} {r1 : Int} {r2 : Bool} (h : index_Index_Pick.f k l s b (ixChains l) a1 a2 a3 a4 = some (r1, r2)) :
    Calls Try.prog 47 #[.pointer (some ⟨g, 0, none⟩), .int .u32 a1, .string a2, .int .i64 a3, .int .i64 a4] w fun e w' => e = .returned (.tuple #[.int .i64 r1, .bool r2]) ∧ Below w.heap.size w w' := by
 obtain ⟨A0, c0, A3, c3, h1, h2, h3, h4, h5⟩ := hx
 exact index_Index_Pick.calls g k A0 c0 l s b A3 c3 (ixChains l) a1 a2 a3 a4 r1 r2 w h2 h3 h4 h5 h1 h
theorem ob_ {α β : Type} {o : Option α} {f : α → Option β} {r : β} (h : o.bind f = some r) : ∃ a, o = some a ∧ f a = some r := Option.bind_eq_some_iff.mp h
theorem oi_ {α : Type} {c : Prop} [Decidable c] {x : Option α} {r : α} (h : (if c then x else none) = some r) : c ∧ x = some r := by
 by_cases hc : c
 ·rw [if_pos hc] at h
  exact ⟨hc, h⟩
 ·rw [if_neg hc] at h
  cases h
structure Mst where
 weak : Int
 left : List Int
 want : Int
 told : List Int
 out : List S47
def takeF (k : Nat) (l : List S55) (s b n : Int) (x : Mst) : Option (Option Mst) :=
 if x.out.length ≤ 900000 ∧ x.left.length ≤ 1000000 then (index_Index_Find.f k l s b (ixChains l) x.weak).bind fun L => if L.length = 0 then some none else
  (sha_Cut.f x.left n).bind fun c => (index_Index_Pick.f k l s b (ixChains l) x.weak c.1 (x.left.length : Int) x.want).bind fun p => if p.2 = false then some none else
   (blocks_Range.f s b p.1).bind fun q => if (0 ≤ p.1 ∧ p.1 ≤ 1000000) ∧ (-1000000000 ≤ q.1 ∧ q.1 ≤ 1000000000 ∧ -1000000000 ≤ q.2.1 ∧ q.2.1 ≤ 1000000000) then
    some (some ⟨0, [], p.1 + 1, [], tl x.told x.out ++ [⟨q.1, q.2.1 - q.1, []⟩]⟩) else none
 else none
theorem takeF_mono (l : List S55) (s b n : Int) (x : Mst) (k : Nat) : LeO (takeF k l s b n x) (takeF (k + 1) l s b n x) := by
 unfold takeF
 exact LeO.ite (LeO.bind (index_Index_Find.mono _ _ _ _ _ _) fun _ => LeO.ite (LeO.refl _) (LeO.bind (LeO.refl _) fun _ => LeO.bind (index_Index_Pick.mono _ _ _ _ _ _ _ _ _) fun _ => LeO.refl _)) (LeO.none _)
def shiftF (x : Mst) : Option Mst :=
 match x.left with
 | [] => none
 | c :: rest => if (c :: rest).length ≤ 1000000 ∧ x.told.length ≤ 1000000 then (roll_Out.f x.weak ((c :: rest).length : Int) c).bind fun r => some ⟨r, rest, x.want, x.told ++ [c], x.out⟩ else none
def stepF (k : Nat) (l : List S55) (s b n : Int) (x : Mst) (c : Int) : Option Mst :=
 if x.left.length ≤ 900000 then (roll_In.f x.weak (x.left.length : Int) c).bind fun r =>
  if (((x.left ++ [c]).length : Nat) : Int) = b then (takeF k l s b n ⟨r, x.left ++ [c], x.want, x.told, x.out⟩).bind fun o =>
   match o with
   | some y => some y
   | none => shiftF ⟨r, x.left ++ [c], x.want, x.told, x.out⟩
  else some ⟨r, x.left ++ [c], x.want, x.told, x.out⟩
 else none
theorem stepF_mono (l : List S55) (s b n : Int) (x : Mst) (c : Int) (k : Nat) : LeO (stepF k l s b n x c) (stepF (k + 1) l s b n x c) := by
 unfold stepF
 exact LeO.ite (LeO.bind (LeO.refl _) fun _ => LeO.ite (LeO.bind (takeF_mono _ _ _ _ _ _) fun _ => LeO.refl _) (LeO.refl _)) (LeO.none _)
def feedF (k : Nat) (l : List S55) (s b n : Int) : Mst → List Int → Option Mst
 | x, [] => some x
 | x, c :: cs => (stepF k l s b n x c).bind fun y => feedF k l s b n y cs
theorem feedF_mono (l : List S55) (s b n : Int) (k : Nat) : ∀ (cs : List Int) (x : Mst), LeO (feedF k l s b n x cs) (feedF (k + 1) l s b n x cs)
 | [], _ => LeO.refl _
 | _ :: cs, _ => LeO.bind (stepF_mono _ _ _ _ _ _ _) fun _ => feedF_mono l s b n k cs _
def doneF (k : Nat) (l : List S55) (s b n : Int) (q : Int) : Nat → Mst → Option Mst
 | 0, x => if x.left.length = 0 then some x else none
 | j + 1, x => if x.left.length = 0 then some x else
     if (x.left.length : Int) = q then (takeF k l s b n x).bind fun o =>
      match o with
      | some y => some y
      | none => (shiftF x).bind fun y => doneF k l s b n q j y
     else (shiftF x).bind fun y => doneF k l s b n q j y
theorem doneF_mono (l : List S55) (s b n q : Int) (k : Nat) : ∀ (j : Nat) (x : Mst), LeO (doneF k l s b n q j x) (doneF (k + 1) l s b n q j x)
 | 0, _ => LeO.refl _
 | j + 1, x => by
  unfold doneF
  refine LeO.ite (LeO.refl _) (LeO.ite (LeO.bind (takeF_mono _ _ _ _ _ _) fun o => ?_) (LeO.bind (LeO.refl _) fun _ => doneF_mono l s b n q k j _))
  cases o with
  | some y => exact LeO.refl _
  | none => exact LeO.bind (LeO.refl _) fun _ => doneF_mono l s b n q k j _
set_option maxHeartbeats 16000000 in
set_option maxRecDepth 100000 in
theorem match_last.calls {F : Fr} {w : World} {g gi : Nat} {s b n : Int} {A : Option Addr} {c m : Nat} {weak want seen : Int} {left told : List Int} {out : List S47} {over : Bool} {vl vt vo : Value} (hS : Sc F w g gi s b n A c m weak want seen left told out over vl vt vo) (hm : m ≤ 1000000) (q1 q2 : Int) (q3 : Bool) (h : blocks_Range.f s b ((m : Int) - 1) = some (q1, q2, q3)) :
    Calls Try.prog 30 #[.pointer (some ⟨g, 0, none⟩)] w fun e w' => e = .returned (.int .i64 (wrap64 (q2 - q1))) ∧ Sc F w' g gi s b n A c m weak want seen left told out over vl vt vo := by
 have hu := Try.underlying62
 have hu2 := Try.underlying24
 have HS := zA hS
 have HR := zA h
 have e1 : wrap64 ((m : Int) - 1) = (m : Int) - 1 := by unfold wrap64; omega
 clear hS h hm
 go_enter Try.func30, Try.ntmps30
 go_wp2_with fail
 refine start_ (n := 25) (S := fun w' => w'.cell? ⟨g, 2, none⟩ = some (.int .i64 s) ∧ w'.cell? ⟨g, 3, none⟩ = some (.int .i64 b) ∧ w'.cell? ⟨g, 5, none⟩ = some (.slice A m c)) (ds := []) (qq 25 0) (by kernel_rfl) rfl (by kernel_rfl) ⟨((HS.out.drew.cell 2).trans rfl), ((HS.out.drew.cell 3).trans rfl), ((HS.out.drew.cell 5).trans rfl)⟩ (fun hHeld => ?_); refine with_tabW match_last.tab1 match_last.bits1 (fun HT_ HW_ => ?_)
 refine ord_ [(0, 0, 1), (0, 1, 3), (0, 2, 7), (0, 3, 15), (0, 5, 47), (0, 6, 111), (0, 7, 239), (0, 8, 495), (0, 10, 1519), (0, 11, 3567), (0, 12, 7663), (0, 13, 15855), (1, 4, 15871), (1, 9, 16383), (1, 14, 32767), (0, 15, 65535), (0, 16, 131071)] ?_
 repeat (first | (refine kk_ 0 ?_; refine oP_ (v := ?_) (a' := ?_) HT_ rfl rfl (by kernel_rfl) (fun _ _ _ h => h) (Or.inl ⟨by rfl, ?_⟩) ?_ ?_; rotate_left; (intro w'; go_simp; with_reducible rfl); rotate_left; (simp only [Act.put, zs1, zs2, zs3, i64_w, i32_w]; rfl)) | (refine kk_ 1 ?_; refine oT_ (v := ?_) (a' := ?_) HT_ HW_ rfl rfl (by kernel_rfl) (fun _ _ _ h => h) (Or.inl ⟨by rfl, ?_⟩) hHeld ?_ ?_; rotate_left; (rintro w' ⟨s0, s1, s2⟩; go_simp; with_reducible rfl); rotate_left; (simp only [Act.put, zs1, zs2, zs3, i64_w, i32_w]; rfl)))
 refine oend_ ?_
 refine one_ (i := 17) (N := some 24) (qq 25 262143) rfl rfl (one_of HT_.out (by kernel_rfl)) (by decide) (fun K hK => ?_)
 refine goes_ Try.func48 (by kernel_rfl) rfl #[.int .i64 s, .int .i64 b, .int .i64 (wrap64 ((m : Int) - 1))] (by rfl) rfl rfl (by (try simp only [zm1, zm2, zm3]); first | done | rfl) ?_
 refine (blocks_Range.calls s b (wrap64 ((m : Int) - 1)) q1 q2 q3 _ (by rw [e1]; exact HR.out)).mono ?_
 rintro e w2 ⟨rfl, hb⟩
 replace HS := zA (HS.out.drew.step (by first | exact hb | exact hb.below))
 refine ⟨_, rfl, ?_⟩
 refine hK.out _ _ ⟨((HS.out.cell 2).trans rfl), ((HS.out.cell 3).trans rfl), ((HS.out.cell 5).trans rfl)⟩ (fun hHeld => ?_)
 clear hK K
 refine norm_ (a' := ?_) ?_ ?_
 rotate_left
 ·show Act.put _ (some 24) _ = _
  simp only [Act.put, zs1, zs2, zs3, i64_w, i32_w]
  rfl
 refine ord_ [(0, 18, 524287), (0, 19, 1048575), (0, 20, 2097151), (0, 21, 4194303), (0, 22, 8388607), (0, 23, 16777215), (0, 24, 33554431)] ?_
 repeat (refine kk_ 0 ?_; refine oP_ (v := ?_) (a' := ?_) HT_ rfl rfl (by kernel_rfl) (fun _ _ _ h => h) (Or.inl ⟨by rfl, ?_⟩) ?_ ?_; rotate_left; (intro w'; go_simp; with_reducible rfl); rotate_left; (simp only [Act.put, zs1, zs2, zs3, i64_w, i32_w]; rfl))
 refine oend_ ?_
 refine done_ (done_of HT_.out (by kernel_rfl)) ?_
 clear HT_ HW_ hHeld
 go_wp2_with fail
 go_ret
 exact ⟨rfl, HS.out⟩
set_option maxHeartbeats 16000000 in
set_option maxRecDepth 100000 in
theorem match_take.calls (k : Nat) {F : Fr} {w : World} {g gi : Nat} {s b n : Int} {A : Option Addr} {c m : Nat} {weak want seen : Int} {left told : List Int} {out : List S47} {over : Bool} {vl vt vo : Value} {l : List S55} (hS : Sc F w g gi s b n A c m weak want seen left told out over vl vt vo) (hx : IxIs F.w1 gi l s b)
    {r : Option Mst} (h : takeF k l s b n ⟨weak, left, want, told, out⟩ = some r) :
    Calls Try.prog 26 #[.pointer (some ⟨g, 0, none⟩)] w fun e w' => (e = .returned (.bool false) ∧ r = none ∧ Sc F w' g gi s b n A c m weak want seen left told out over vl vt vo) ∨
     (e = .returned (.bool true) ∧ ∃ y vt1 vo1, r = some y ∧ Sc F w' g gi s b n A c m y.weak y.want seen y.left y.told y.out over (.slice none 0 0) vt1 vo1) := by
 unfold takeF at h
 obtain ⟨⟨ho, hl⟩, h⟩ := oi_ h
 obtain ⟨L, hfd, h⟩ := ob_ h
 dsimp only at ho hl hfd h
 have HH := zA h
 clear h
 have hu := Try.underlying62
 have hu2 := Try.underlying24
 have hu3 := Try.underlying60
 have hu4 := Try.underlying47
 obtain ⟨Al, cl, hv, hlc⟩ := Kd.Q_slice hS.ql
 have hrl := (Kd.Q_reads' (by rw [← hv]; exact hS.ql : (Kd.int .u8).Q 5 w F.w1.heap.size F.ok (.slice Al left.length cl) left)).2.2
 have HRL := zA hrl
 have HLC := zA hlc
 have HFD := zA hfd
 have HX := zA hx
 have HS := zA hS
 have HV := zA hv
 have HO := zA ho
 clear hS hx ho hl hfd hrl hlc hv
 go_enter Try.func26, Try.ntmps26
 go_wp2_with fail
 refine start_ (n := 12) (S := fun w' => w'.cell? ⟨g, 1, none⟩ = some (.int .u32 weak) ∧ w'.cell? ⟨g, 6, none⟩ = some (.pointer (some ⟨gi, 0, none⟩))) (ds := []) (qq 12 0) (by kernel_rfl) rfl (by kernel_rfl) ⟨((HS.out.drew.cell 1).trans rfl), ((HS.out.drew.cell 6).trans rfl)⟩ (fun hHeld => ?_); refine with_tabW match_take.tab1 match_take.bits1 (fun HT_ HW_ => ?_)
 refine ord_ [(0, 0, 1), (0, 1, 3), (0, 2, 7), (0, 4, 23), (0, 5, 55), (0, 6, 119), (0, 7, 247), (1, 3, 255), (1, 8, 511)] ?_
 repeat (first | (refine kk_ 0 ?_; refine oP_ (v := ?_) (a' := ?_) HT_ rfl rfl (by kernel_rfl) (fun _ _ _ h => h) (Or.inl ⟨by rfl, ?_⟩) ?_ ?_; rotate_left; (intro w'; go_simp; with_reducible rfl); rotate_left; (simp only [Act.put, zs1, zs2, zs3, i64_w, i32_w]; rfl)) | (refine kk_ 1 ?_; refine oT_ (v := ?_) (a' := ?_) HT_ HW_ rfl rfl (by kernel_rfl) (fun _ _ _ h => h) (Or.inl ⟨by rfl, ?_⟩) hHeld ?_ ?_; rotate_left; (rintro w' ⟨s0, s1⟩; go_simp; with_reducible rfl); rotate_left; (simp only [Act.put, zs1, zs2, zs3, i64_w, i32_w]; rfl)))
 refine oend_ ?_
 refine one_ (i := 9) (N := some 19) (qq 12 1023) rfl rfl (one_of HT_.out (by kernel_rfl)) (by decide) (fun K hK => ?_)
 refine goes_ Try.func45 (by kernel_rfl) rfl #[.pointer (some ⟨gi, 0, none⟩), .int .u32 weak] (by rfl) rfl rfl (by (try simp only [zm1, zm2, zm3]); first | done | rfl) ?_
 refine (ixis_find (HX.out.below HS.out.drew.bl) HFD.out).mono ?_
 rintro e w2 ⟨A1, c1, rfl, hr1, hl1, hb⟩
 replace HS := zA (HS.out.drew.step hb)
 refine ⟨_, rfl, ?_⟩
 refine hK.out _ _ ⟨((HS.out.cell 1).trans rfl), ((HS.out.cell 6).trans rfl)⟩ (fun hHeld => ?_)
 clear hK K
 refine norm_ (a' := ?_) ?_ ?_
 rotate_left
 ·show Act.put _ (some 19) _ = _
  simp only [Act.put, zs1, zs2, zs3, i64_w, i32_w]
  rfl
 refine ord_ [(0, 10, 2047), (0, 11, 4095)] ?_
 repeat (refine kk_ 0 ?_; refine oP_ (v := ?_) (a' := ?_) HT_ rfl rfl (by kernel_rfl) (fun _ _ _ h => h) (Or.inl ⟨by rfl, ?_⟩) ?_ ?_; rotate_left; (intro w'; go_simp; with_reducible rfl); rotate_left; (simp only [Act.put, zs1, zs2, zs3, i64_w, i32_w]; rfl))
 refine oend_ ?_
 refine done_ (done_of HT_.out (by kernel_rfl)) ?_
 clear HT_ HW_ hHeld hr1 hl1
 by_cases hL : L.length = 0
 ·have b1 : ((L.length : Int) == 0) = true := by rw [hL]; rfl
  go_wp2_with fail
  go_ret
  have h := HH.out
  rw [if_pos hL] at h
  cases h
  first | exact Or.inl ⟨rfl, rfl, HS.out⟩ | exact HS.out | exact ⟨rfl, HS.out⟩
 ·have b1 : ((L.length : Int) == 0) = false := beq_eq_false_iff_ne.2 (by omega)
  have h := HH.out
  rw [if_neg hL] at h
  obtain ⟨⟨st, e0⟩, hct, h⟩ := ob_ h
  obtain ⟨⟨i, ok⟩, hpk, h⟩ := ob_ h
  have HCT := zA hct
  have HPK := zA hpk
  replace HH := zA h
  clear hL hb h hct hpk
  go_wp2_with fail
  refine start_ (n := 16) (S := fun w' => w'.cell? ⟨g, 0, none⟩ = some (.slice Al left.length cl) ∧ w'.cell? ⟨g, 4, none⟩ = some (.int .i64 n)) (ds := []) (qq 16 0) (by kernel_rfl) rfl (by kernel_rfl) ⟨(by rw [HS.out.drew.cell 0, HV.out]; rfl), ((HS.out.drew.cell 4).trans rfl)⟩ (fun hHeld => ?_); refine with_tabW match_take.tab3 match_take.bits3 (fun HT_ HW_ => ?_)
  refine ord_ [(0, 0, 1), (0, 1, 3), (0, 2, 7), (0, 3, 15), (0, 5, 47), (0, 6, 111), (0, 7, 239), (0, 8, 495), (1, 4, 511), (1, 9, 1023)] ?_
  repeat (first | (refine kk_ 0 ?_; refine oP_ (v := ?_) (a' := ?_) HT_ rfl rfl (by kernel_rfl) (fun _ _ _ h => h) (Or.inl ⟨by rfl, ?_⟩) ?_ ?_; rotate_left; (intro w'; go_simp; with_reducible rfl); rotate_left; (simp only [Act.put, zs1, zs2, zs3, i64_w, i32_w]; rfl)) | (refine kk_ 1 ?_; refine oT_ (v := ?_) (a' := ?_) HT_ HW_ rfl rfl (by kernel_rfl) (fun _ _ _ h => h) (Or.inl ⟨by rfl, ?_⟩) hHeld ?_ ?_; rotate_left; (rintro w' ⟨s0, s1⟩; go_simp; with_reducible rfl); rotate_left; (simp only [Act.put, zs1, zs2, zs3, i64_w, i32_w]; rfl)))
  refine oend_ ?_
  refine one_ (i := 10) (N := some 33) (qq 16 2047) rfl rfl (one_of HT_.out (by kernel_rfl)) (by decide) (fun K hK => ?_)
  refine goes_ Try.func46 (by kernel_rfl) rfl #[.slice Al left.length cl, .int .i64 n] (by rfl) rfl rfl (by (try simp only [zm1, zm2, zm3]); first | done | rfl) ?_
  refine (sha_Cut.calls Al cl left n st e0 _ (Kd.Q_reads' (by rw [← HV.out]; exact HS.out.drew.ql : (Kd.int .u8).Q 5 _ F.w1.heap.size F.ok (.slice Al left.length cl) left)).2.2 HLC.out HCT.out).mono ?_
  rintro e w3 ⟨rfl, hb⟩
  replace HS := zA (HS.out.drew.step hb)
  refine ⟨_, rfl, ?_⟩
  refine hK.out _ _ ⟨(by rw [HS.out.cell 0, HV.out]; rfl), ((HS.out.cell 4).trans rfl)⟩ (fun hHeld => ?_)
  clear hK K
  refine norm_ (a' := ?_) ?_ ?_
  rotate_left
  ·show Act.put _ (some 33) _ = _
   simp only [Act.put, zs1, zs2, zs3, i64_w, i32_w]
   rfl
  refine ord_ [(0, 11, 4095), (0, 12, 8191), (0, 13, 16383), (0, 14, 32767), (0, 15, 65535)] ?_
  repeat (refine kk_ 0 ?_; refine oP_ (v := ?_) (a' := ?_) HT_ rfl rfl (by kernel_rfl) (fun _ _ _ h => h) (Or.inl ⟨by rfl, ?_⟩) ?_ ?_; rotate_left; (intro w'; go_simp; with_reducible rfl); rotate_left; (simp only [Act.put, zs1, zs2, zs3, i64_w, i32_w]; rfl))
  refine oend_ ?_
  refine done_ (done_of HT_.out (by kernel_rfl)) ?_
  clear HT_ HW_ hHeld hb
  go_wp2_with fail
  refine start_ (n := 26) (S := fun w' => w'.cell? ⟨g, 0, none⟩ = some (.slice Al left.length cl) ∧ w'.cell? ⟨g, 1, none⟩ = some (.int .u32 weak) ∧ w'.cell? ⟨g, 6, none⟩ = some (.pointer (some ⟨gi, 0, none⟩)) ∧ w'.cell? ⟨g, 7, none⟩ = some (.int .i64 want)) (ds := []) (qq 26 0) (by kernel_rfl) rfl (by kernel_rfl) ⟨(by rw [HS.out.drew.cell 0, HV.out]; rfl), ((HS.out.drew.cell 1).trans rfl), ((HS.out.drew.cell 6).trans rfl), ((HS.out.drew.cell 7).trans rfl)⟩ (fun hHeld => ?_); refine with_tabW match_take.tab4 match_take.bits4 (fun HT_ HW_ => ?_)
  refine ord_ [(0, 0, 1), (0, 1, 3), (0, 2, 7), (0, 4, 23), (0, 5, 55), (0, 6, 119), (0, 7, 247), (0, 9, 759), (0, 10, 1783), (0, 11, 3831), (0, 12, 7927), (0, 13, 16119), (0, 16, 81655), (0, 17, 212727), (0, 18, 474871), (1, 3, 474879), (1, 8, 475135), (1, 14, 491519), (0, 15, 524287), (1, 19, 1048575)] ?_
  repeat (first | (refine kk_ 0 ?_; refine oP_ (v := ?_) (a' := ?_) HT_ rfl rfl (by kernel_rfl) (fun _ _ _ h => h) (Or.inl ⟨by rfl, ?_⟩) ?_ ?_; rotate_left; (intro w'; go_simp; with_reducible rfl); rotate_left; (simp only [Act.put, zs1, zs2, zs3, i64_w, i32_w]; rfl)) | (refine kk_ 1 ?_; refine oT_ (v := ?_) (a' := ?_) HT_ HW_ rfl rfl (by kernel_rfl) (fun _ _ _ h => h) (Or.inl ⟨by rfl, ?_⟩) hHeld ?_ ?_; rotate_left; (rintro w' ⟨s0, s1, s2, s3⟩; go_simp; with_reducible rfl); rotate_left; (simp only [Act.put, zs1, zs2, zs3, i64_w, i32_w]; rfl)))
  refine oend_ ?_
  refine one_ (i := 20) (N := some 57) (qq 26 2097151) rfl rfl (one_of HT_.out (by kernel_rfl)) (by decide) (fun K hK => ?_)
  refine goes_ Try.func47 (by kernel_rfl) rfl #[.pointer (some ⟨gi, 0, none⟩), .int .u32 weak, .string st, .int .i64 (left.length : Int), .int .i64 want] (by rfl) rfl rfl (by (try simp only [zm1, zm2, zm3]); first | done | rfl) ?_
  refine (ixis_pick (HX.out.below HS.out.drew.bl) HPK.out).mono ?_
  rintro e w4 ⟨rfl, hb⟩
  replace HS := zA (HS.out.drew.step hb)
  refine ⟨_, rfl, ?_⟩
  refine hK.out _ _ ⟨(by rw [HS.out.cell 0, HV.out]; rfl), ((HS.out.cell 1).trans rfl), ((HS.out.cell 6).trans rfl), ((HS.out.cell 7).trans rfl)⟩ (fun hHeld => ?_)
  clear hK K
  refine norm_ (a' := ?_) ?_ ?_
  rotate_left
  ·show Act.put _ (some 57) _ = _
   simp only [Act.put, zs1, zs2, zs3, i64_w, i32_w]
   rfl
  refine ord_ [(0, 21, 4194303), (0, 22, 8388607), (0, 23, 16777215), (0, 24, 33554431), (0, 25, 67108863)] ?_
  repeat (refine kk_ 0 ?_; refine oP_ (v := ?_) (a' := ?_) HT_ rfl rfl (by kernel_rfl) (fun _ _ _ h => h) (Or.inl ⟨by rfl, ?_⟩) ?_ ?_; rotate_left; (intro w'; go_simp; with_reducible rfl); rotate_left; (simp only [Act.put, zs1, zs2, zs3, i64_w, i32_w]; rfl))
  refine oend_ ?_
  refine done_ (done_of HT_.out (by kernel_rfl)) ?_
  clear HT_ HW_ hHeld hb
  cases ok with
  | false =>
   go_wp2_with fail
   go_ret
   have h := HH.out
   first | rw [if_pos trivial] at h | rw [if_pos rfl] at h
   cases h
   first | exact Or.inl ⟨rfl, rfl, HS.out⟩ | exact HS.out | exact ⟨rfl, HS.out⟩
  | true =>
   have h := HH.out
   first | rw [if_neg not_false] at h | rw [if_neg Bool.noConfusion] at h
   obtain ⟨⟨q1, q2, q3⟩, hrg, h⟩ := ob_ h
   obtain ⟨⟨hi, hq⟩, h⟩ := oi_ h
   dsimp only at hrg hi hq h
   cases h
   have HRG := zA hrg
   have HI := zA hi
   have HQ := zA hq
   clear hrg hi hq HH
   go_wp2_with fail
   refine start_ (n := 19) (S := fun w' => w'.cell? ⟨g, 2, none⟩ = some (.int .i64 s) ∧ w'.cell? ⟨g, 3, none⟩ = some (.int .i64 b)) (ds := []) (qq 19 0) (by kernel_rfl) rfl (by kernel_rfl) ⟨((HS.out.drew.cell 2).trans rfl), ((HS.out.drew.cell 3).trans rfl)⟩ (fun hHeld => ?_); refine with_tabW match_take.tab7 match_take.bits7 (fun HT_ HW_ => ?_)
   refine ord_ [(0, 0, 1), (0, 1, 3), (0, 2, 7), (0, 3, 15), (0, 5, 47), (0, 6, 111), (0, 7, 239), (0, 8, 495), (0, 10, 1519), (1, 4, 1535), (1, 9, 2047)] ?_
   repeat (first | (refine kk_ 0 ?_; refine oP_ (v := ?_) (a' := ?_) HT_ rfl rfl (by kernel_rfl) (fun _ _ _ h => h) (Or.inl ⟨by rfl, ?_⟩) ?_ ?_; rotate_left; (intro w'; go_simp; with_reducible rfl); rotate_left; (simp only [Act.put, zs1, zs2, zs3, i64_w, i32_w]; rfl)) | (refine kk_ 1 ?_; refine oT_ (v := ?_) (a' := ?_) HT_ HW_ rfl rfl (by kernel_rfl) (fun _ _ _ h => h) (Or.inl ⟨by rfl, ?_⟩) hHeld ?_ ?_; rotate_left; (rintro w' ⟨s0, s1⟩; go_simp; with_reducible rfl); rotate_left; (simp only [Act.put, zs1, zs2, zs3, i64_w, i32_w]; rfl)))
   refine oend_ ?_
   refine one_ (i := 11) (N := some 74) (qq 19 4095) rfl rfl (one_of HT_.out (by kernel_rfl)) (by decide) (fun K hK => ?_)
   refine goes_ Try.func48 (by kernel_rfl) rfl #[.int .i64 s, .int .i64 b, .int .i64 i] (by rfl) rfl rfl (by (try simp only [zm1, zm2, zm3]); first | done | rfl) ?_
   refine (blocks_Range.calls s b i q1 q2 q3 _ HRG.out).mono ?_
   rintro e w5 ⟨rfl, hb⟩
   replace HS := zA (HS.out.drew.step (by first | exact hb | exact hb.below))
   refine ⟨_, rfl, ?_⟩
   refine hK.out _ _ ⟨((HS.out.cell 2).trans rfl), ((HS.out.cell 3).trans rfl)⟩ (fun hHeld => ?_)
   clear hK K
   refine norm_ (a' := ?_) ?_ ?_
   rotate_left
   ·show Act.put _ (some 74) _ = _
    simp only [Act.put, zs1, zs2, zs3, i64_w, i32_w]
    rfl
   refine ord_ [(0, 12, 8191), (0, 13, 16383), (0, 14, 32767), (0, 15, 65535), (0, 16, 131071), (0, 17, 262143), (0, 18, 524287)] ?_
   repeat (refine kk_ 0 ?_; refine oP_ (v := ?_) (a' := ?_) HT_ rfl rfl (by kernel_rfl) (fun _ _ _ h => h) (Or.inl ⟨by rfl, ?_⟩) ?_ ?_; rotate_left; (intro w'; go_simp; with_reducible rfl); rotate_left; (simp only [Act.put, zs1, zs2, zs3, i64_w, i32_w]; rfl))
   refine oend_ ?_
   refine done_ (done_of HT_.out (by kernel_rfl)) ?_
   clear HT_ HW_ hHeld hb b1
   go_wp2_with fail
   refine (match_tell.calls HS.out (by have := HO.out; omega)).mono ?_
   rintro e w6 ⟨vt1, vo1, rfl, hS⟩
   obtain ⟨Ao, co, hvo, _⟩ := Kd.R_reads hS.qo
   obtain ⟨on, hon⟩ : ∃ on : Nat, on = (tl told out).length := ⟨_, rfl⟩
   have hon2 : on ≤ 900001 := by
    rw [hon]
    unfold tl
    have := HO.out
    split
    ·omega
    ·rw [List.length_append]; simp only [List.length_cons, List.length_nil]; omega
   rw [← hon] at hvo
   have HS6 := zA hS
   have HVO := zA hvo
   have HON := zA (And.intro hon hon2)
   have hc10 : w6.cell? ⟨g, 10, none⟩ = some (.slice Ao on co) := by rw [hS.cell 10, hvo]; rfl
   have hf10 := zc5 hS.bx 10
   have e9 : wrap64 (q2 - q1) = q2 - q1 := by have := HQ.out; unfold wrap64; omega
   clear hS hvo hon hon2 HS
   have hfr : ∀ k, w6.heap.size ≤ k → (F.ok k ∧ some k ≠ vt1.ownBlock) ∧ some k ≠ vl.ownBlock := by
    obtain ⟨inner, hw⟩ := Kd.R_own HS6.out.qt
    exact fun k hk => ⟨⟨HS6.out.fresh k hk, fun e => by have := own_lt hw k e.symm; omega⟩, fun e => by have := Kd.Q_lt HS6.out.ql k e.symm; omega⟩
   have HFR := zA hfr
   have hon1 : ((tl told out).length + 1) * 40 ≤ 140737488355328 := by rw [← HON.out.1]; have := HON.out.2; omega
   have HON1 := zA hon1
   have hqo := HS6.out.qo
   rw [HVO.out] at hqo
   have HQO := zA hqo
   clear hfr hon1 hqo
   go_wp2_with (first
    | ((with_reducible refine gate_dst (N := 91) rfl ?_); refine Kd.R_append k47 (w0 := F.w1) F.w1.heap.size rfl (.tmp 84) (.tmp 90) 34 47 (.agg #[(.int .i64 0), (.int .i64 0), (.slice none 0 0)]) 40 rfl Try.underlying34 infoSc rfl (by decide) (by decide) (.slice Ao on co) (tl told out) (⟨q1, q2 - q1, []⟩ : S47) [.int .i64 q1, .int .i64 (q2 - q1), .slice none 0 0] (fun k => (F.ok k ∧ some k ≠ vt1.ownBlock) ∧ some k ≠ vl.ownBlock) (fun _ => False) rfl rfl (k47_mkM _ _ _ (⟨q1, q2 - q1, []⟩ : S47) (Kd.R_nil _ _ _ _ _)) (fun _ hk => hk.elim) HFR.out HQO.out HS6.out.bl HS6.out.bl.size HON1.out ?nx; refine id ?ny))
   intro vo2 w7 hq hb hg hat
   obtain ⟨Ao2, co2, e3⟩ := Kd.R_slice hq
   obtain ⟨n3, hn3⟩ : ∃ n3 : Nat, n3 = (tl told out ++ [(⟨q1, q2 - q1, []⟩ : S47)]).length := ⟨_, rfl⟩
   rw [← hn3] at e3
   subst e3
   rw [← HVO.out] at hg
   have hx7 := blk_grown HS6.out.bx hg (Kd.R_ne HS6.out.qo HS6.out.bx (by decide))
   have hc10 : w7.cell? ⟨g, 10, none⟩ = some (.slice Ao on co) := by rw [zc1 hx7 10, HVO.out]; rfl
   have hf10 := zc5 hx7 10
   have hq' := Kd.R_mono hq (ok' := fun k => (F.ok k ∧ some k ≠ vt1.ownBlock) ∧ some k ≠ vl.ownBlock) (fun k hk => by first | exact hk | exact ⟨⟨hk.1, hk.2.1⟩, hk.2.2⟩ | exact ⟨⟨hk.1.1, hk.1.2⟩, hk.2⟩)
   have HP := zA (HS6.out.put_out hq' hb hg)
   have HW := zA (HP.out.put_want (i + 1))
   have ew : wrap64 (i + 1) = i + 1 := by have := HI.out; unfold wrap64; omega
   have hc7 : (w7.setCell ⟨g, 10, none⟩ (.slice Ao2 n3 co2)).cell? ⟨g, 7, none⟩ = some (.int .i64 want) := (HP.out.cell 7).trans rfl
   have hf7 := zc5 HP.out.bx 7
   clear hq hq' hb hg hat hx7 hn3 HS6 HFR HQO HON1 HQ HI
   go_wp2_with fail
   refine (match_empty.calls HW.out).mono ?_
   rintro e w8 ⟨rfl, hS⟩
   have HS8 := zA hS
   clear hS HW HP hc7 hf7 hc10 hf10
   go_wp2_with fail
   go_ret
   first | exact Or.inr ⟨rfl, _, _, _, rfl, HS8.out⟩ | exact ⟨_, _, _, rfl, HS8.out⟩ | exact ⟨_, _, HS8.out⟩

def match_Feed.T8 : Bool × List (List Nat × List Nat) := (true, [([], []), ([0], [0]), ([1], [1]), ([2], [2]), ([3], [3]), ([4], [4]), ([], []), ([6], [6]), ([7], [7]), ([8], [8]), ([9], [9]), ([5, 10], [5, 10]), ([11], [11]), ([12], [12]), ([13, 12, 12], [12, 13]), ([14, 12], [12, 14]), ([12, 15], [12, 15])])
def match_Feed.B8 : List Nat := [0, 1, 3, 7, 15, 31, 0, 64, 192, 448, 960, 2047, 4095, 8191, 16383, 32767, 65535]
theorem match_Feed.tab8 : rtab .any (opsOf Try.f11 8) = match_Feed.T8 := by kernel_rfl
theorem match_Feed.bits8 : waitsOk match_Feed.T8.2 match_Feed.B8 = true := by kernel_rfl
def match_Feed.T9 : Bool × List (List Nat × List Nat) := (true, [([], []), ([], []), ([1], [1]), ([2], [2]), ([3], [3]), ([], []), ([5], [5]), ([6], [6]), ([7], [7]), ([8], [8]), ([4, 9, 8], [4, 9]), ([0, 0, 1, 2, 3, 4, 5, 6, 7, 8, 9, 10], [0]), ([11, 0, 1, 2, 3, 4, 5, 6, 7, 8, 9, 10], [11]), ([12, 10, 10, 0, 1, 2, 3, 4, 5, 6, 7, 8, 9, 10], [10, 12])])
def match_Feed.B9 : List Nat := [0, 0, 2, 6, 14, 0, 32, 96, 224, 480, 1022, 2047, 4095, 8191]
theorem match_Feed.tab9 : rtab .any (opsOf Try.f11 9) = match_Feed.T9 := by kernel_rfl
theorem match_Feed.bits9 : waitsOk match_Feed.T9.2 match_Feed.B9 = true := by kernel_rfl
theorem shiftF_some {x y : Mst} (h : shiftF x = some y) : ∃ c rest r, x.left = c :: rest ∧ (c :: rest).length ≤ 1000000 ∧ x.told.length ≤ 1000000 ∧ roll_Out.f x.weak ((c :: rest).length : Int) c = some r ∧ y = ⟨r, rest, x.want, x.told ++ [c], x.out⟩ := by
 unfold shiftF at h
 cases hl : x.left with
 | nil => rw [hl] at h; cases h
 | cons c rest =>
  rw [hl] at h
  obtain ⟨⟨h1, h2⟩, h⟩ := oi_ h
  obtain ⟨r, hr, h⟩ := ob_ h
  cases h
  exact ⟨c, rest, r, rfl, h1, h2, hr, rfl⟩
theorem stepF_some {k : Nat} {l : List S55} {s b n : Int} {x : Mst} {c : Int} {y : Mst} (h : stepF k l s b n x c = some y) : x.left.length ≤ 900000 ∧ ∃ r, roll_In.f x.weak (x.left.length : Int) c = some r ∧
    (((((x.left ++ [c]).length : Nat) : Int) = b ∧ ∃ o, takeF k l s b n ⟨r, x.left ++ [c], x.want, x.told, x.out⟩ = some o ∧ (o = some y ∨ (o = none ∧ shiftF ⟨r, x.left ++ [c], x.want, x.told, x.out⟩ = some y))) ∨
     ((((x.left ++ [c]).length : Nat) : Int) ≠ b ∧ y = ⟨r, x.left ++ [c], x.want, x.told, x.out⟩)) := by
 unfold stepF at h
 obtain ⟨h1, h⟩ := oi_ h
 obtain ⟨r, hr, h⟩ := ob_ h
 refine ⟨h1, r, hr, ?_⟩
 by_cases hb : (((x.left ++ [c]).length : Nat) : Int) = b
 ·rw [if_pos hb] at h
  obtain ⟨o, ho, h⟩ := ob_ h
  refine Or.inl ⟨hb, o, ho, ?_⟩
  cases o with
  | none => exact Or.inr ⟨rfl, h⟩
  | some z => exact Or.inl h
 ·rw [if_neg hb] at h
  cases h
  exact Or.inr ⟨hb, rfl⟩
theorem match_takeR.calls (k : Nat) {F : Fr} {w : World} {g gi : Nat} {s b n : Int} {A : Option Addr} {c m : Nat} {seen : Int} {x : Mst} {over : Bool} {vl vt vo : Value} {l : List S55} (hS : Sc F w g gi s b n A c m x.weak x.want seen x.left x.told x.out over vl vt vo) (hx : IxIs F.w1 gi l s b)
    {r : Option Mst} (h : takeF k l s b n x = some r) :
    Calls Try.prog 26 #[.pointer (some ⟨g, 0, none⟩)] w fun e w' => e = .returned (.bool r.isSome) ∧ ∃ vl1 vt1 vo1, Sc F w' g gi s b n A c m (r.getD x).weak (r.getD x).want seen (r.getD x).left (r.getD x).told (r.getD x).out over vl1 vt1 vo1 := by
 refine (match_take.calls k hS hx h).mono ?_
 rintro e w' (⟨rfl, rfl, hS⟩ | ⟨rfl, y, vt1, vo1, rfl, hS⟩)
 ·exact ⟨rfl, _, _, _, hS⟩
 ·exact ⟨rfl, _, _, _, hS⟩
theorem row_step {lb : List Int} {i mm : Nat} (h : i < mm) (h2 : mm ≤ lb.length) : (lb.take mm).drop i = rd lb (i : Int) :: (lb.take mm).drop (i + 1) := by
 rw [List.drop_eq_getElem_cons (by rw [List.length_take]; omega)]
 congr 1
 unfold rd
 rw [List.getElem_take, Int.toNat_natCast, List.getD_eq_getElem?_getD, List.getElem?_eq_getElem (by omega)]
 rfl
set_option maxHeartbeats 16000000 in
set_option maxRecDepth 100000 in
theorem match_Feed.calls (k : Nat) {F : Fr} {w : World} {g gi : Nat} {s b n : Int} {A : Option Addr} {c m : Nat} {weak want : Int} {sn : Nat} {left told : List Int} {out : List S47} {vl vt vo : Value} {l : List S55} (hS : Sc F w g gi s b n A c m weak want (sn : Int) left told out false vl vt vo) (hx : IxIs F.w1 gi l s b)
    {Ab : Option Addr} {cb nb : Nat} {lb : List Int} (hnb : nb = lb.length) (hr : Kd.C (Kd.int .u8) F.w1 Ab lb.length lb) (hcb : lb.length ≤ cb) {mm : Nat} (hmm : mm = min lb.length (65536 - sn)) (hsn : sn ≤ 65536) {y : Mst} (h : feedF k l s b n ⟨weak, left, want, told, out⟩ (lb.take mm) = some y) (hy : y.out.length ≤ 900000) :
    Calls Try.prog 11 #[.pointer (some ⟨g, 0, none⟩), .slice Ab nb cb] w fun e w' => ∃ vl1 vt1 vr, e = .returned vr ∧ Sc F w' g gi s b n A c m y.weak y.want ((sn + mm : Nat) : Int) y.left [] [] false vl1 vt1 (.slice none 0 0) ∧ k47.R 47 w' F.w1.heap.size (fun k => k ≠ g ∧ (F.ok k ∧ some k ≠ vt1.ownBlock) ∧ some k ≠ vl1.ownBlock) vr (tl y.told y.out) := by
 have hu := Try.underlying62
 have hu2 := Try.underlying24
 have hu3 := Try.underlying60
 have hu4 := Try.underlying33
 have HX := zA hx
 have HS := zA hS
 have HH := zA h
 have HY := zA hy
 have HR := zA hr
 have HN := zA hnb
 have HM := zA hmm
 have hm1 : mm ≤ nb := by omega
 have hm2 : mm ≤ cb := by omega
 have hm3 : sn + mm ≤ 65536 := by omega
 have HB := zA (And.intro hm1 (And.intro hm2 hm3))
 have emin : min (nb : Int) (65536 - (sn : Int)) = (mm : Int) := by omega
 have e0 : wrap64 (65536 - (sn : Int)) = 65536 - (sn : Int) := by unfold wrap64; omega
 have o1 := eq_true (show (mm : Int) ≤ (cb : Int) by omega)
 have o2 := eq_true (show (0 : Int) ≤ (mm : Int) by omega)
 have hc8 : w.cell? ⟨g, 8, none⟩ = some (.int .i64 (sn : Int)) := (hS.cell 8).trans rfl
 have hc11 : w.cell? ⟨g, 11, none⟩ = some (.bool false) := (hS.cell 11).trans rfl
 clear hS hx h hy hr hnb hmm hcb hsn hm3
 go_enter Try.func11, Try.ntmps11
 go_wp2_with fail
 case' inr =>
  obtain rfl : mm = nb := by have := HM.out; have := HN.out; omega
  generalize (65536 - (sn : Int)) = z22
 case' inl =>
  have e22 : (65536 - (sn : Int)) = (mm : Int) := by have := HM.out; have := HN.out; omega
  have e24 : 65536 - sn = mm := by omega
  have e25 : max (mm : Int) 0 = (mm : Int) := by omega
  simp only [e22, e24, e25]
 all_goals clear h hm1 hm2 emin e0 o1 o2 hc8 hc11
 all_goals
  go_loopg [26] (mm + 1) (fun kq v26 w' => ∃ (i : Nat) (x : Mst) (sq : Int) (vl vt vo : Value), v26 = .int .i64 (i : Int) ∧ Aside0 (i + kq = mm + 1 ∧ i ≤ mm) ∧ Aside0 (sq = ((sn + i : Nat) : Int)) ∧ Aside0 (Sc F w' g gi s b n A c m x.weak x.want sq x.left x.told x.out false vl vt vo) ∧ Aside0 (feedF k l s b n x ((lb.take mm).drop i) = some y))
  case atStart => exact ⟨0, ⟨weak, left, want, told, out⟩, (sn : Int), vl, vt, vo, rfl, ⟨by omega, by omega⟩, ⟨rfl⟩, HS, ⟨by rw [List.drop_zero]; exact HH.out⟩⟩
  case round =>
   clear HS HH
   obtain ⟨i, x, sq, vl, vt, vo, rfl, HK, HQ, HS, HF⟩ := hrel
   by_cases hlt : i < mm
   ·obtain ⟨k1, rfl⟩ : ∃ k1, gk = k1 + 1 := ⟨gk - 1, by have := HK.out.1; omega⟩
    have HL := zA hlt
    have d1 : decide ((i : Int) < (mm : Int)) = true := zd1 (by omega)
    have d2 : decide (i < mm) = true := zd1 hlt
    have p0 := eq_true (show (i : Int) < (mm : Int) by omega)
    have p1 := eq_true (show (0 : Int) ≤ (i : Int) by omega)
    obtain ⟨ad, ead, hx0⟩ := Kd.at_int HR.out (i : Int) (by omega) (by have := HM.out; omega)
    cases ead
    have hf := HF.out
    rw [row_step hlt (by have := HM.out; omega)] at hf
    obtain ⟨xc, hxc⟩ : ∃ xc, xc = rd lb (i : Int) := ⟨_, rfl⟩
    rw [← hxc] at hf hx0
    obtain ⟨y2, hst, hf⟩ := ob_ hf
    replace HF := zA hf
    have HST := zA hst
    have hx1 := (HS.out.bl.cell (World.block_lt_of_cell? F.w1 _ hx0)).trans hx0
    rw [Int.toNat_natCast] at hx1
    have hc8 : wr.cell? ⟨g, 8, none⟩ = some (.int .i64 sq) := (HS.out.cell 8).trans rfl
    have hf8 := zc5 HS.out.bx 8
    have e8 : wrap64 (sq + 1) = sq + 1 := by have := HQ.out; have := HB.out.2.2; unfold wrap64; omega
    have HS2 := zA (HS.out.put_seen (sq + 1))
    obtain ⟨h9, r, hin, hst⟩ := stepF_some hst
    have HIN := zA hin
    have H9 := zA h9
    have HST := zA hst
    clear hlt hf hx0 hxc hst hin h9
    go_wp2_with fail
    refine (match_push.calls HS2.out (by have := H9.out; omega) xc r HIN.out).mono ?_
    rintro e w3 ⟨vl1, rfl, hS⟩
    obtain ⟨Al, cl, hv, hlc⟩ := Kd.Q_slice hS.ql
    obtain ⟨lf, hlf⟩ : ∃ lf, lf = x.left ++ [xc] := ⟨_, rfl⟩
    have hst := HST.out
    rw [← hlf] at hst hS hv
    obtain ⟨ln, hln⟩ : ∃ ln : Nat, ln = lf.length := ⟨_, rfl⟩
    rw [← hln] at hv hst
    replace HS := zA hS
    have HV := zA hv
    have HLN := zA hln
    clear hc8 hf8 hx1 HIN HST hlf hv hS hln hlc HS2 e8 d1 d2 p0 p1
    go_wp2_with fail
    rcases hst with ⟨hb, o, htk, ho⟩ | ⟨hb, rfl⟩
    ·have bq : ((ln : Int) == b) = true := by rw [hb]; exact beq_self_eq_true _
     have bq2 : decide ((ln : Int) = b) = true := zd1 hb
     have HTK := zA htk
     have HO := zA ho
     obtain ⟨tk, htk2⟩ : ∃ tk, o.isSome = tk := ⟨_, rfl⟩
     have HT2 := zA htk2
     clear hb htk ho htk2
     refine start_ (n := 17) (S := fun w' => w'.cell? ⟨g, 0, none⟩ = some (.slice Al ln cl) ∧ w'.cell? ⟨g, 3, none⟩ = some (.int .i64 b)) (ds := [14]) (qq 17 0) (by kernel_rfl) rfl (by kernel_rfl) ⟨(by rw [HS.out.drew.cell 0, HV.out]; rfl), ((HS.out.drew.cell 3).trans rfl)⟩ (fun hHeld => ?_); refine with_tabW match_Feed.tab8 match_Feed.bits8 (fun HT_ HW_ => ?_)
     refine ord_ [(0, 0, 1), (0, 1, 3), (0, 2, 7), (0, 3, 15), (0, 6, 79), (0, 7, 207), (0, 8, 463), (0, 9, 975), (1, 4, 991), (0, 5, 1023), (1, 10, 2047), (0, 11, 4095), (0, 12, 8191), (0, 13, 16383)] ?_
     repeat (first | (refine kk_ 0 ?_; refine oP_ (v := ?_) (a' := ?_) HT_ rfl rfl (by kernel_rfl) (fun _ _ _ h => h) (Or.inl ⟨by rfl, ?_⟩) ?_ ?_; rotate_left; (intro w'; go_simp; with_reducible rfl); rotate_left; (simp only [Act.put, zs1, zs2, zs3, i64_w, i32_w]; rfl)) | (refine kk_ 1 ?_; refine oT_ (v := ?_) (a' := ?_) HT_ HW_ rfl rfl (by kernel_rfl) (fun _ _ _ h => h) (Or.inl ⟨by rfl, ?_⟩) hHeld ?_ ?_; rotate_left; (rintro w' ⟨s0, s1⟩; go_simp; with_reducible rfl); rotate_left; (simp only [Act.put, zs1, zs2, zs3, i64_w, i32_w]; rfl)))
     refine oend_ ?_
     refine last_ (i := 14) (N := some 56) (qq 17 32767) rfl rfl (one_of HT_.out (by kernel_rfl)) (by decide) (fun K hK => ?_)
     refine goes_ Try.func26 (by kernel_rfl) rfl #[.pointer (some ⟨g, 0, none⟩)] (by rfl) rfl rfl (by (try simp only [zm1, zm2, zm3]); first | done | rfl) ?_
     refine (match_takeR.calls k (x := ⟨r, lf, x.want, x.told, x.out⟩) HS.out.drew HX.out HTK.out).mono ?_
     rintro e w4 ⟨he, vl4, vt4, vo4, hS4⟩
     rw [HT2.out] at he
     subst he
     replace HS := zA hS4
     clear hS4
     refine ⟨_, rfl, ?_⟩
     refine hK.out _ _ ?_
     clear hK K
     refine norm_ (a' := ?_) ?_ ?_
     rotate_left
     ·show Act.put _ (some 56) _ = _
      simp only [Act.put, zs1, zs2, zs3, i64_w, i32_w]
      rfl
     refine ord_ [(0, 15, 65535), (0, 16, 131071)] ?_
     repeat (refine kk_ 0 ?_; refine oP_ (v := ?_) (a' := ?_) HT_ rfl rfl (by kernel_rfl) (fun _ _ _ h => h) (Or.inl ⟨by rfl, ?_⟩) ?_ ?_; rotate_left; (intro w'; go_simp; with_reducible rfl); rotate_left; (simp only [Act.put, zs1, zs2, zs3, i64_w, i32_w]; rfl))
     refine oend_ ?_
     refine done_ (done_of HT_.out (by kernel_rfl)) ?_
     clear HT_ HW_ hHeld
     rcases HO.out with ho | ⟨ho, hsh⟩
     ·have ht := HT2.out
      subst ho
      subst ht
      clear HO HT2 HTK
      have e2 : wrap64 ((i : Int) + 1) = ((i + 1 : Nat) : Int) := by have := HL.out; have := HB.out.2.2; unfold wrap64; omega
      clear bq bq2
      go_wp2_with fail
      rw [e2]
      go_roundg k1
      case measure => have := HK.out.1; omega
      case rel => exact ⟨i + 1, y2, sq + 1, _, _, _, rfl, ⟨by have := HK.out.1; omega, by have := HL.out; omega⟩, ⟨by have := HQ.out; omega⟩, ⟨HS.out⟩, ⟨HF.out⟩⟩
     ·have ht := HT2.out
      subst ho
      subst ht
      obtain ⟨xs, rest, r2, el, h1, h2, hro, ey⟩ := shiftF_some hsh
      dsimp only at el h1 h2 hro ey
      subst el
      subst ey
      have HS3 : Aside0 (Sc F w4 g gi s b n A c m r x.want (sq + 1) (xs :: rest) x.told x.out false vl4 vt4 vo4) := ⟨HS.out⟩
      have HRO := zA hro
      have H12 := zA (And.intro h1 h2)
      clear HO HT2 HTK HS hsh h1 h2 hro
      go_wp2_with fail
      obtain ⟨At, ct, hvt, _⟩ := Kd.R_reads HS3.out.qt
      obtain ⟨tn, htn⟩ : ∃ tn : Nat, tn = x.told.length := ⟨_, rfl⟩
      rw [← htn] at hvt
      have HVT := zA (And.intro hvt (show (x.told.length + 1) * 1 ≤ 140737488355328 by have := H12.out.2; omega))
      clear hvt htn
      refine start_ (n := 14) (S := fun w' => w'.cell? ⟨g, 9, none⟩ = some (.slice At tn ct)) (ds := [13]) (qq 14 0) (by kernel_rfl) rfl (by kernel_rfl) (by rw [HS3.out.drew.cell 9, HVT.out.1]; rfl) (fun hHeld => ?_); refine with_tabW match_Feed.tab9 match_Feed.bits9 (fun HT_ HW_ => ?_)
      refine ord_ [(0, 0, 1), (0, 1, 3), (0, 2, 7), (0, 3, 15), (0, 5, 47), (0, 6, 111), (0, 7, 239), (1, 4, 255)] ?_
      repeat (first | (refine kk_ 0 ?_; refine oP_ (v := ?_) (a' := ?_) HT_ rfl rfl (by kernel_rfl) (fun _ _ _ h => h) (Or.inl ⟨by rfl, ?_⟩) ?_ ?_; rotate_left; (intro w'; go_simp; with_reducible rfl); rotate_left; (simp only [Act.put, zs1, zs2, zs3, i64_w, i32_w]; rfl)) | (refine kk_ 1 ?_; refine oT_ (v := ?_) (a' := ?_) HT_ HW_ rfl rfl (by kernel_rfl) (fun _ _ _ h => h) (Or.inl ⟨by rfl, ?_⟩) hHeld ?_ ?_; rotate_left; (rintro w' s0; go_simp; with_reducible rfl); rotate_left; (simp only [Act.put, zs1, zs2, zs3, i64_w, i32_w]; rfl)))
      refine oend_ ?_
      refine one_ (i := 8) (N := some 67) (qq 14 511) rfl rfl (one_of HT_.out (by kernel_rfl)) (by decide) (fun K hK => ?_)
      refine goes_ Try.func27 (by kernel_rfl) rfl #[.pointer (some ⟨g, 0, none⟩)] (by rfl) rfl rfl (by (try simp only [zm1, zm2, zm3]); first | done | rfl) ?_
      refine (match_shift.calls HS3.out.drew H12.out.1 r2 HRO.out).mono ?_
      rintro e w5 ⟨vl5, rfl, hS5⟩
      have HS5 := zA hS5
      have HFR := zA (show ∀ k, w5.heap.size ≤ k → F.ok k ∧ some k ≠ vl5.ownBlock from fun k hk => ⟨HS5.out.fresh k hk, fun e => by have := Kd.Q_lt HS5.out.ql k e.symm; omega⟩)
      have hqt := hS5.qt
      rw [HVT.out.1] at hqt
      have HQT := zA hqt
      have hc9 : w5.cell? ⟨g, 9, none⟩ = some (.slice At tn ct) := by rw [hS5.cell 9, HVT.out.1]; rfl
      clear hqt hS5
      refine ⟨_, rfl, ?_⟩
      refine hK.out _ _ hc9 (fun hHeld => ?_)
      clear hK K
      refine norm_ (a' := ?_) ?_ ?_
      rotate_left
      ·show Act.put _ (some 67) _ = _
       simp only [Act.put, zs1, zs2, zs3, i64_w, i32_w]
       rfl
      refine one_ (i := 9) (N := some 68) (qq 14 1023) rfl rfl (one_of HT_.out (by kernel_rfl)) (by decide) (fun K hK => ?_)
      refine value_ (w1 := ?_) (v := ?_) (by rfl) rfl ?_ ?_
      rotate_left 2
      ·go_simp
       constructor
       ·rfl
       ·rfl
      refine hK.out _ _ ((Below.cell (zb3 (Below.refl _ _) _) (World.block_lt_of_cell? _ _ hHeld)).trans hHeld) (fun hHeld => ?_)
      clear hK K
      refine norm_ (a' := ?_) ?_ ?_
      rotate_left
      ·show Act.put _ (some 68) _ = _
       simp only [Act.put, zs1, zs2, zs3, i64_w, i32_w]
       rfl
      refine one_ (i := 10) (N := some 69) (qq 14 2047) rfl rfl (one_of HT_.out (by kernel_rfl)) (by decide) (fun K hK => ?_)
      refine Kd.R_append_step (Kd.int .u8) (w0 := F.w1) F.w1.heap.size (by rfl) (.tmp 63) (.tmp 68) 33 5 (.int .u8 0) 1 rfl Try.underlying33 info5 rfl (by decide) (by decide) (.slice At tn ct) x.told xs [.int .u8 xs] (fun k => F.ok k ∧ some k ≠ vl5.ownBlock) (fun _ => False) rfl rfl rfl (fun _ hk => hk.elim) HFR.out HQT.out HS5.out.bl HS5.out.bl.size HVT.out.2 ?_
      intro vt6 w6 hq hb hg hat
      obtain ⟨At6, ct6, e3⟩ := Kd.R_slice hq
      obtain ⟨n3, hn3⟩ : ∃ n3 : Nat, n3 = (x.told ++ [xs]).length := ⟨_, rfl⟩
      rw [← hn3] at e3
      subst e3
      clear hn3
      rw [← HVT.out.1] at hg hat
      have hx6 := blk_grown HS5.out.bx hg (Kd.R_ne HS5.out.qt HS5.out.bx (by decide))
      have HP := zA (HS5.out.put_told hq hb hg hat)
      have hc9 : w6.cell? ⟨g, 9, none⟩ = some (.slice At tn ct) := by rw [zc1 hx6 9, HVT.out.1]; rfl
      clear hq hb hg hat
      refine hK.out _ _ hc9 (fun hHeld => ?_)
      clear hK K
      refine norm_ (a' := ?_) ?_ ?_
      rotate_left
      ·show Act.put _ (some 69) _ = _
       simp only [Act.put, zs1, zs2, zs3, i64_w, i32_w]
       rfl
      refine ord_ [(0, 11, 4095), (0, 12, 8191)] ?_
      repeat (refine kk_ 0 ?_; refine oP_ (v := ?_) (a' := ?_) HT_ rfl rfl (by kernel_rfl) (fun _ _ _ h => h) (Or.inl ⟨by rfl, ?_⟩) ?_ ?_; rotate_left; (intro w'; go_simp; with_reducible rfl); rotate_left; (simp only [Act.put, zs1, zs2, zs3, i64_w, i32_w]; rfl))
      refine oend_ ?_
      refine last_ (i := 13) (N := none) (qq 14 16383) rfl rfl (one_of HT_.out (by kernel_rfl)) (by decide) (fun K hK => ?_)
      have hfz := zc5 hx6 9
      go_simp
      refine hK.out _ _ ?_
      clear hK K
      refine done_ (done_of HT_.out (by kernel_rfl)) ?_
      clear HT_ HW_ hHeld
      have e2 : wrap64 ((i : Int) + 1) = ((i + 1 : Nat) : Int) := by have := HL.out; have := HB.out.2.2; unfold wrap64; omega
      clear bq bq2
      go_wp2_with fail
      rw [e2]
      go_roundg k1
      case measure => have := HK.out.1; omega
      case rel => exact ⟨i + 1, ⟨r2, rest, x.want, x.told ++ [xs], x.out⟩, sq + 1, _, _, _, rfl, ⟨by have := HK.out.1; omega, by have := HL.out; omega⟩, ⟨by have := HQ.out; omega⟩, ⟨HP.out⟩, ⟨HF.out⟩⟩
    ·have bq : ((ln : Int) == b) = false := beq_eq_false_iff_ne.2 hb
     have bq2 : decide ((ln : Int) = b) = false := zd2 hb
     clear hb
     refine start_ (n := 17) (S := fun w' => w'.cell? ⟨g, 0, none⟩ = some (.slice Al ln cl) ∧ w'.cell? ⟨g, 3, none⟩ = some (.int .i64 b)) (ds := [14]) (qq 17 0) (by kernel_rfl) rfl (by kernel_rfl) ⟨(by rw [HS.out.drew.cell 0, HV.out]; rfl), ((HS.out.drew.cell 3).trans rfl)⟩ (fun hHeld => ?_); refine with_tabW match_Feed.tab8 match_Feed.bits8 (fun HT_ HW_ => ?_)
     refine ord_ [(0, 0, 1), (0, 1, 3), (0, 2, 7), (0, 3, 15), (0, 6, 79), (0, 7, 207), (0, 8, 463), (0, 9, 975), (1, 4, 991), (0, 5, 1023), (1, 10, 2047), (0, 11, 4095), (0, 12, 8191), (2, 13, 16383)] ?_
     repeat (first | (refine kk_ 0 ?_; refine oP_ (v := ?_) (a' := ?_) HT_ rfl rfl (by kernel_rfl) (fun _ _ _ h => h) (Or.inl ⟨by rfl, ?_⟩) ?_ ?_; rotate_left; (intro w'; go_simp; with_reducible rfl); rotate_left; (simp only [Act.put, zs1, zs2, zs3, i64_w, i32_w]; rfl)) | (refine kk_ 1 ?_; refine oT_ (v := ?_) (a' := ?_) HT_ HW_ rfl rfl (by kernel_rfl) (fun _ _ _ h => h) (Or.inl ⟨by rfl, ?_⟩) hHeld ?_ ?_; rotate_left; (rintro w' ⟨s0, s1⟩; go_simp; with_reducible rfl); rotate_left; (simp only [Act.put, zs1, zs2, zs3, i64_w, i32_w]; rfl)) | (refine kk_ 2 ?_; refine oP_ (v := undef) (a' := ?_) HT_ rfl rfl (by kernel_rfl) (fun _ _ _ h => h) (Or.inr ⟨by rfl, rfl⟩) ?_ ?_; rotate_left; (simp only [Act.put, zs1, zs2, zs3, i64_w, i32_w]; rfl)))
     refine oend_ ?_
     refine last_ (i := 14) (N := some 56) (qq 17 32767) rfl rfl (one_of HT_.out (by kernel_rfl)) (by decide) (fun K hK => ?_)
     refine Eq.mpr (if_neg (fun h => by cases h)) ?_
     refine hK.out _ _ ?_
     clear hK K
     refine norm_ (a' := ?_) ?_ ?_
     rotate_left
     ·show Act.put _ (some 56) _ = _
      simp only [Act.put, zs1, zs2, zs3, i64_w, i32_w]
      rfl
     refine ord_ [(0, 15, 65535), (1, 16, 131071)] ?_
     repeat (first | (refine kk_ 0 ?_; refine oP_ (v := undef) (a' := ?_) HT_ rfl rfl (by kernel_rfl) (fun _ _ _ h => h) (Or.inr ⟨by rfl, rfl⟩) ?_ ?_; rotate_left; (simp only [Act.put, zs1, zs2, zs3, i64_w, i32_w]; rfl)) | (refine kk_ 1 ?_; refine oP_ (v := ?_) (a' := ?_) HT_ rfl rfl (by kernel_rfl) (fun _ _ _ h => h) (Or.inl ⟨by rfl, ?_⟩) ?_ ?_; rotate_left; (intro w'; go_simp; with_reducible rfl); rotate_left; (simp only [Act.put, zs1, zs2, zs3, i64_w, i32_w]; rfl)))
     refine oend_ ?_
     refine done_ (done_of HT_.out (by kernel_rfl)) ?_
     clear HT_ HW_ hHeld
     have e2 : wrap64 ((i : Int) + 1) = ((i + 1 : Nat) : Int) := by have := HL.out; have := HB.out.2.2; unfold wrap64; omega
     clear bq bq2
     go_wp2_with fail
     rw [e2]
     go_roundg k1
     case measure => have := HK.out.1; omega
     case rel => exact ⟨i + 1, ⟨r, lf, x.want, x.told, x.out⟩, sq + 1, _, _, _, rfl, ⟨by have := HK.out.1; omega, by have := HL.out; omega⟩, ⟨by have := HQ.out; omega⟩, ⟨HS.out.drew⟩, ⟨HF.out⟩⟩
   ·have hme : mm = i := by have := HK.out.2; omega
    subst hme
    have d1 : decide ((mm : Int) < (mm : Int)) = false := zd2 (by omega)
    have d2 : decide (mm < mm) = false := zd2 (by omega)
    have hf := HF.out
    rw [List.drop_eq_nil_of_le (by rw [List.length_take]; omega)] at hf
    obtain rfl : x = y := by
     unfold feedF at hf
     exact Option.some.inj hf
    clear hf HF hlt
    go_wp2_with fail
    refine (match_ops.calls HS.out (by have := HY.out; omega)).mono ?_
    rintro e w6 ⟨vt1, vr, rfl, hS6, hR6⟩
    have HS6 := zA hS6
    have HR6 := zA hR6
    clear hS6 hR6 HS
    go_wp2_with fail
    go_ret
    refine ⟨vl, vt1, vr, rfl, ?_, HR6.out⟩
    rw [← HQ.out]
    exact HS6.out

def match_Done.T7 : Bool × List (List Nat × List Nat) := (true, [([], []), ([], []), ([1], [1]), ([2], [2]), ([3], [3]), ([], []), ([5], [5]), ([6], [6]), ([7], [7]), ([8], [8]), ([4, 9, 8], [4, 9]), ([0, 0, 1, 2, 3, 4, 5, 6, 7, 8, 9, 10], [0]), ([11, 0, 1, 2, 3, 4, 5, 6, 7, 8, 9, 10], [11]), ([12, 10, 10, 0, 1, 2, 3, 4, 5, 6, 7, 8, 9, 10], [10, 12])])
def match_Done.B7 : List Nat := [0, 0, 2, 6, 14, 0, 32, 96, 224, 480, 1022, 2047, 4095, 8191]
theorem match_Done.tab7 : rtab .any (opsOf Try.f14 7) = match_Done.T7 := by kernel_rfl
theorem match_Done.bits7 : waitsOk match_Done.T7.2 match_Done.B7 = true := by kernel_rfl
theorem doneF_end {k : Nat} {l : List S55} {s b n q : Int} {j : Nat} {x y : Mst} (h : doneF k l s b n q j x = some y) (e : x.left = []) : x = y := by
 have e0 : x.left.length = 0 := by rw [e]; rfl
 cases j with
 | zero => unfold doneF at h; rw [if_pos e0] at h; exact Option.some.inj h
 | succ j => unfold doneF at h; rw [if_pos e0] at h; exact Option.some.inj h
theorem doneF_some {k : Nat} {l : List S55} {s b n q : Int} {j : Nat} {x y : Mst} (h : doneF k l s b n q j x = some y) (e : x.left.length ≠ 0) : ∃ i, j = i + 1 ∧
    (((x.left.length : Int) = q ∧ ∃ o, takeF k l s b n x = some o ∧ (o = some y ∨ (o = none ∧ ∃ z, shiftF x = some z ∧ doneF k l s b n q i z = some y))) ∨ ((x.left.length : Int) ≠ q ∧ ∃ z, shiftF x = some z ∧ doneF k l s b n q i z = some y)) := by
 cases j with
 | zero => unfold doneF at h; rw [if_neg e] at h; cases h
 | succ j =>
  unfold doneF at h
  rw [if_neg e] at h
  refine ⟨j, rfl, ?_⟩
  by_cases hq : (x.left.length : Int) = q
  ·rw [if_pos hq] at h
   obtain ⟨o, ho, h⟩ := ob_ h
   refine Or.inl ⟨hq, o, ho, ?_⟩
   cases o with
   | none => exact Or.inr ⟨rfl, ob_ h⟩
   | some z => exact Or.inl h
  ·rw [if_neg hq] at h
   exact Or.inr ⟨hq, ob_ h⟩
set_option maxHeartbeats 16000000 in
set_option maxRecDepth 100000 in
theorem match_Done.calls (k : Nat) {F : Fr} {w : World} {g gi : Nat} {s b n : Int} {A : Option Addr} {c m : Nat} {weak want seen : Int} {left told : List Int} {out : List S47} {vl vt vo : Value} {l : List S55} (hS : Sc F w g gi s b n A c m weak want seen left told out false vl vt vo) (hx : IxIs F.w1 gi l s b)
    (hm : m ≤ 1000000) {q1 q2 : Int} {q3 : Bool} (hrg : blocks_Range.f s b ((m : Int) - 1) = some (q1, q2, q3)) {J : Nat} {y : Mst} (h : doneF k l s b n (wrap64 (q2 - q1)) J ⟨weak, left, want, told, out⟩ = some y) (hy : y.out.length ≤ 900000) :
    Calls Try.prog 14 #[.pointer (some ⟨g, 0, none⟩)] w fun e w' => ∃ vl1 vt1 vr, e = .returned vr ∧ Sc F w' g gi s b n A c m y.weak y.want seen y.left [] [] true vl1 vt1 (.slice none 0 0) ∧ k47.R 47 w' F.w1.heap.size (fun k => k ≠ g ∧ (F.ok k ∧ some k ≠ vt1.ownBlock) ∧ some k ≠ vl1.ownBlock) vr (tl y.told y.out) := by
 have hu := Try.underlying62
 have hu3 := Try.underlying60
 have HX := zA hx
 have HS := zA hS
 have HH := zA h
 have HY := zA hy
 have HRG := zA hrg
 have HM := zA hm
 obtain ⟨q, hq⟩ : ∃ q, q = wrap64 (q2 - q1) := ⟨_, rfl⟩
 have HQ := zA hq
 have hc11 : w.cell? ⟨g, 11, none⟩ = some (.bool false) := (hS.cell 11).trans rfl
 have hf11 := zc5 hS.bx 11
 have HS2 := zA (hS.put_over true)
 clear hS hx h hy hrg hm hq
 go_enter Try.func14, Try.ntmps14
 go_wp2_with fail
 refine (match_last.calls HS2.out HM.out q1 q2 q3 HRG.out).mono ?_
 rintro e w2 ⟨rfl, hS⟩
 rw [← HQ.out] at HH ⊢
 replace HS := zA hS
 clear hS HS2 hc11 hf11
 go_wp2_with fail
 go_loopg [17] (left.length + 1) (fun kq v17 w' => ∃ (j : Nat) (x : Mst) (vl vt vo : Value), v17 = v17 ∧ Aside0 (x.left.length + 1 = kq) ∧ Aside0 (Sc F w' g gi s b n A c m x.weak x.want seen x.left x.told x.out true vl vt vo) ∧ Aside0 (doneF k l s b n q j x = some y))
 case atStart => exact ⟨J, ⟨weak, left, want, told, out⟩, vl, vt, vo, rfl, ⟨rfl⟩, HS, HH⟩
 case round =>
  clear HS HH
  obtain ⟨j, x, vl, vt, vo, _, HK, HS, HF⟩ := hrel
  obtain ⟨Al, cl, hv, hlc⟩ := Kd.Q_slice HS.out.ql
  obtain ⟨ln, hln⟩ : ∃ ln : Nat, ln = x.left.length := ⟨_, rfl⟩
  rw [← hln] at hv
  have HLN := zA hln
  have HV := zA hv
  have hc0 : wr.cell? ⟨g, 0, none⟩ = some (.slice Al ln cl) := by rw [HS.out.cell 0, HV.out]; rfl
  clear hv hlc hln
  by_cases hz : ln = 0
  ·subst hz
   obtain rfl := doneF_end HF.out (List.eq_nil_of_length_eq_zero HLN.out.symm)
   clear HF
   go_wp2_with fail
   refine (match_ops.calls HS.out (by have := HY.out; omega)).mono ?_
   rintro e w6 ⟨vt1, vr, rfl, hS6, hR6⟩
   have HS6 := zA hS6
   have HR6 := zA hR6
   clear hS6 hR6 HS
   go_wp2_with fail
   go_ret
   exact ⟨_, vt1, vr, rfl, HS6.out, HR6.out⟩
  ·obtain ⟨k1, rfl⟩ : ∃ k1, gk = k1 + 1 := ⟨gk - 1, by have := HK.out; omega⟩
   have d1 : decide ((0 : Int) < (ln : Int)) = true := zd1 (by omega)
   have d2 : decide (0 < ln) = true := zd1 (by omega)
   obtain ⟨i, rfl, hcase⟩ := doneF_some HF.out (by have := HLN.out; omega)
   rw [← HLN.out] at hcase
   clear HF hz
   rcases hcase with ⟨hb, o, htk, ho⟩ | ⟨hb, z, hsh, hd⟩
   ·have bq : ((ln : Int) == q) = true := by rw [hb]; exact beq_self_eq_true _
    have bq2 : decide ((ln : Int) = q) = true := zd1 hb
    have HTK := zA htk
    have HO := zA ho
    clear hb htk ho
    go_wp2_with fail
    refine (match_takeR.calls k (x := x) HS.out HX.out HTK.out).mono ?_
    rintro e w4 ⟨he, vl4, vt4, vo4, hS4⟩
    replace HS := zA hS4
    clear hS4 hc0
    rcases HO.out with ho | ⟨ho, z, hsh, hd⟩
    ·subst ho
     subst he
     clear HO HTK
     go_wp2_with fail
     refine (match_ops.calls HS.out (by have := HY.out; exact Nat.le_trans this (by omega))).mono ?_
     rintro e w6 ⟨vt1, vr, rfl, hS6, hR6⟩
     have HS6 := zA hS6
     have HR6 := zA hR6
     clear hS6 hR6 HS
     go_wp2_with fail
     go_ret
     exact ⟨_, vt1, vr, rfl, HS6.out, HR6.out⟩
    ·subst ho
     subst he
     clear HO HTK
     go_wp2_with fail
     obtain ⟨xs, rest, r2, el, h1, h2, hro, ey⟩ := shiftF_some hsh
     obtain ⟨xw, xl, xwt, xtd, xo⟩ := x
     dsimp only at el h1 h2 hro ey
     subst el
     subst ey
     have HS3 : Aside0 (Sc F w4 g gi s b n A c m xw xwt seen (xs :: rest) xtd xo true vl4 vt4 vo4) := ⟨HS.out⟩
     have HRO := zA hro
     have H12 := zA (And.intro h1 h2)
     have HD := zA hd
     clear HS hsh h1 h2 hro hd
     obtain ⟨At, ct, hvt, _⟩ := Kd.R_reads HS3.out.qt
     obtain ⟨tn, htn⟩ : ∃ tn : Nat, tn = xtd.length := ⟨_, rfl⟩
     rw [← htn] at hvt
     have HVT := zA (And.intro hvt (show (xtd.length + 1) * 1 ≤ 140737488355328 by have := H12.out.2; omega))
     clear hvt htn
     go_wp2_with fail
     refine start_ (n := 14) (S := fun w' => w'.cell? ⟨g, 9, none⟩ = some (.slice At tn ct)) (ds := [13]) (qq 14 0) (by kernel_rfl) rfl (by kernel_rfl) (by rw [HS3.out.drew.cell 9, HVT.out.1]; rfl) (fun hHeld => ?_); refine with_tabW match_Done.tab7 match_Done.bits7 (fun HT_ HW_ => ?_)
     refine ord_ [(0, 0, 1), (0, 1, 3), (0, 2, 7), (0, 3, 15), (0, 5, 47), (0, 6, 111), (0, 7, 239), (1, 4, 255)] ?_
     repeat (first | (refine kk_ 0 ?_; refine oP_ (v := ?_) (a' := ?_) HT_ rfl rfl (by kernel_rfl) (fun _ _ _ h => h) (Or.inl ⟨by rfl, ?_⟩) ?_ ?_; rotate_left; (intro w'; go_simp; with_reducible rfl); rotate_left; (simp only [Act.put, zs1, zs2, zs3, i64_w, i32_w]; rfl)) | (refine kk_ 1 ?_; refine oT_ (v := ?_) (a' := ?_) HT_ HW_ rfl rfl (by kernel_rfl) (fun _ _ _ h => h) (Or.inl ⟨by rfl, ?_⟩) hHeld ?_ ?_; rotate_left; (rintro w' s0; go_simp; with_reducible rfl); rotate_left; (simp only [Act.put, zs1, zs2, zs3, i64_w, i32_w]; rfl)))
     refine oend_ ?_
     refine one_ (i := 8) (N := some 44) (qq 14 511) rfl rfl (one_of HT_.out (by kernel_rfl)) (by decide) (fun K hK => ?_)
     refine goes_ Try.func27 (by kernel_rfl) rfl #[.pointer (some ⟨g, 0, none⟩)] (by rfl) rfl rfl (by (try simp only [zm1, zm2, zm3]); first | done | rfl) ?_
     refine (match_shift.calls HS3.out.drew H12.out.1 r2 HRO.out).mono ?_
     rintro e w5 ⟨vl5, rfl, hS5⟩
     have HS5 := zA hS5
     have HFR := zA (show ∀ k, w5.heap.size ≤ k → F.ok k ∧ some k ≠ vl5.ownBlock from fun k hk => ⟨HS5.out.fresh k hk, fun e => by have := Kd.Q_lt HS5.out.ql k e.symm; omega⟩)
     have hqt := hS5.qt
     rw [HVT.out.1] at hqt
     have HQT := zA hqt
     have hc9 : w5.cell? ⟨g, 9, none⟩ = some (.slice At tn ct) := by rw [hS5.cell 9, HVT.out.1]; rfl
     clear hqt hS5
     refine ⟨_, rfl, ?_⟩
     refine hK.out _ _ hc9 (fun hHeld => ?_)
     clear hK K
     refine norm_ (a' := ?_) ?_ ?_
     rotate_left
     ·show Act.put _ (some 44) _ = _
      simp only [Act.put, zs1, zs2, zs3, i64_w, i32_w]
      rfl
     refine one_ (i := 9) (N := some 45) (qq 14 1023) rfl rfl (one_of HT_.out (by kernel_rfl)) (by decide) (fun K hK => ?_)
     refine value_ (w1 := ?_) (v := ?_) (by rfl) rfl ?_ ?_
     rotate_left 2
     ·go_simp
      constructor
      ·rfl
      ·rfl
     refine hK.out _ _ ((Below.cell (zb3 (Below.refl _ _) _) (World.block_lt_of_cell? _ _ hHeld)).trans hHeld) (fun hHeld => ?_)
     clear hK K
     refine norm_ (a' := ?_) ?_ ?_
     rotate_left
     ·show Act.put _ (some 45) _ = _
      simp only [Act.put, zs1, zs2, zs3, i64_w, i32_w]
      rfl
     refine one_ (i := 10) (N := some 46) (qq 14 2047) rfl rfl (one_of HT_.out (by kernel_rfl)) (by decide) (fun K hK => ?_)
     refine Kd.R_append_step (Kd.int .u8) (w0 := F.w1) F.w1.heap.size (by rfl) (.tmp 40) (.tmp 45) 33 5 (.int .u8 0) 1 rfl Try.underlying33 info5 rfl (by decide) (by decide) (.slice At tn ct) xtd xs [.int .u8 xs] (fun k => F.ok k ∧ some k ≠ vl5.ownBlock) (fun _ => False) rfl rfl rfl (fun _ hk => hk.elim) HFR.out HQT.out HS5.out.bl HS5.out.bl.size HVT.out.2 ?_
     intro vt6 w6 hq hb hg hat
     obtain ⟨At6, ct6, e3⟩ := Kd.R_slice hq
     obtain ⟨n3, hn3⟩ : ∃ n3 : Nat, n3 = (xtd ++ [xs]).length := ⟨_, rfl⟩
     rw [← hn3] at e3
     subst e3
     clear hn3
     rw [← HVT.out.1] at hg hat
     have hx6 := blk_grown HS5.out.bx hg (Kd.R_ne HS5.out.qt HS5.out.bx (by decide))
     have HP := zA (HS5.out.put_told hq hb hg hat)
     have hc9 : w6.cell? ⟨g, 9, none⟩ = some (.slice At tn ct) := by rw [zc1 hx6 9, HVT.out.1]; rfl
     clear hq hb hg hat
     refine hK.out _ _ hc9 (fun hHeld => ?_)
     clear hK K
     refine norm_ (a' := ?_) ?_ ?_
     rotate_left
     ·show Act.put _ (some 46) _ = _
      simp only [Act.put, zs1, zs2, zs3, i64_w, i32_w]
      rfl
     refine ord_ [(0, 11, 4095), (0, 12, 8191)] ?_
     repeat (refine kk_ 0 ?_; refine oP_ (v := ?_) (a' := ?_) HT_ rfl rfl (by kernel_rfl) (fun _ _ _ h => h) (Or.inl ⟨by rfl, ?_⟩) ?_ ?_; rotate_left; (intro w'; go_simp; with_reducible rfl); rotate_left; (simp only [Act.put, zs1, zs2, zs3, i64_w, i32_w]; rfl))
     refine oend_ ?_
     refine last_ (i := 13) (N := none) (qq 14 16383) rfl rfl (one_of HT_.out (by kernel_rfl)) (by decide) (fun K hK => ?_)
     have hfz := zc5 hx6 9
     go_simp
     refine hK.out _ _ ?_
     clear hK K
     refine done_ (done_of HT_.out (by kernel_rfl)) ?_
     clear HT_ HW_ hHeld
     go_wp2_with fail
     go_roundg k1
     case measure => have := HK.out; have := HLN.out; simp only [List.length_cons] at *; omega
     case rel => exact ⟨i, ⟨r2, rest, xwt, xtd ++ [xs], xo⟩, _, _, _, by first | trivial | rfl, ⟨by have := HK.out; have := HLN.out; simp only [List.length_cons] at *; omega⟩, ⟨HP.out⟩, ⟨HD.out⟩⟩
   ·have bq : ((ln : Int) == q) = false := beq_eq_false_iff_ne.2 hb
    have bq2 : decide ((ln : Int) = q) = false := zd2 hb
    clear hb
    go_wp2_with fail
    obtain ⟨xs, rest, r2, el, h1, h2, hro, ey⟩ := shiftF_some hsh
    obtain ⟨xw, xl, xwt, xtd, xo⟩ := x
    dsimp only at el h1 h2 hro ey
    subst el
    subst ey
    have HS3 : Aside0 (Sc F wr g gi s b n A c m xw xwt seen (xs :: rest) xtd xo true vl vt vo) := ⟨HS.out⟩
    have HRO := zA hro
    have H12 := zA (And.intro h1 h2)
    have HD := zA hd
    clear HS hsh h1 h2 hro hd
    obtain ⟨At, ct, hvt, _⟩ := Kd.R_reads HS3.out.qt
    obtain ⟨tn, htn⟩ : ∃ tn : Nat, tn = xtd.length := ⟨_, rfl⟩
    rw [← htn] at hvt
    have HVT := zA (And.intro hvt (show (xtd.length + 1) * 1 ≤ 140737488355328 by have := H12.out.2; omega))
    clear hvt htn
    go_wp2_with fail
    refine start_ (n := 14) (S := fun w' => w'.cell? ⟨g, 9, none⟩ = some (.slice At tn ct)) (ds := [13]) (qq 14 0) (by kernel_rfl) rfl (by kernel_rfl) (by rw [HS3.out.drew.cell 9, HVT.out.1]; rfl) (fun hHeld => ?_); refine with_tabW match_Done.tab7 match_Done.bits7 (fun HT_ HW_ => ?_)
    refine ord_ [(0, 0, 1), (0, 1, 3), (0, 2, 7), (0, 3, 15), (0, 5, 47), (0, 6, 111), (0, 7, 239), (1, 4, 255)] ?_
    repeat (first | (refine kk_ 0 ?_; refine oP_ (v := ?_) (a' := ?_) HT_ rfl rfl (by kernel_rfl) (fun _ _ _ h => h) (Or.inl ⟨by rfl, ?_⟩) ?_ ?_; rotate_left; (intro w'; go_simp; with_reducible rfl); rotate_left; (simp only [Act.put, zs1, zs2, zs3, i64_w, i32_w]; rfl)) | (refine kk_ 1 ?_; refine oT_ (v := ?_) (a' := ?_) HT_ HW_ rfl rfl (by kernel_rfl) (fun _ _ _ h => h) (Or.inl ⟨by rfl, ?_⟩) hHeld ?_ ?_; rotate_left; (rintro w' s0; go_simp; with_reducible rfl); rotate_left; (simp only [Act.put, zs1, zs2, zs3, i64_w, i32_w]; rfl)))
    refine oend_ ?_
    refine one_ (i := 8) (N := some 44) (qq 14 511) rfl rfl (one_of HT_.out (by kernel_rfl)) (by decide) (fun K hK => ?_)
    refine goes_ Try.func27 (by kernel_rfl) rfl #[.pointer (some ⟨g, 0, none⟩)] (by rfl) rfl rfl (by (try simp only [zm1, zm2, zm3]); first | done | rfl) ?_
    refine (match_shift.calls HS3.out.drew H12.out.1 r2 HRO.out).mono ?_
    rintro e w5 ⟨vl5, rfl, hS5⟩
    have HS5 := zA hS5
    have HFR := zA (show ∀ k, w5.heap.size ≤ k → F.ok k ∧ some k ≠ vl5.ownBlock from fun k hk => ⟨HS5.out.fresh k hk, fun e => by have := Kd.Q_lt HS5.out.ql k e.symm; omega⟩)
    have hqt := hS5.qt
    rw [HVT.out.1] at hqt
    have HQT := zA hqt
    have hc9 : w5.cell? ⟨g, 9, none⟩ = some (.slice At tn ct) := by rw [hS5.cell 9, HVT.out.1]; rfl
    clear hqt hS5
    refine ⟨_, rfl, ?_⟩
    refine hK.out _ _ hc9 (fun hHeld => ?_)
    clear hK K
    refine norm_ (a' := ?_) ?_ ?_
    rotate_left
    ·show Act.put _ (some 44) _ = _
     simp only [Act.put, zs1, zs2, zs3, i64_w, i32_w]
     rfl
    refine one_ (i := 9) (N := some 45) (qq 14 1023) rfl rfl (one_of HT_.out (by kernel_rfl)) (by decide) (fun K hK => ?_)
    refine value_ (w1 := ?_) (v := ?_) (by rfl) rfl ?_ ?_
    rotate_left 2
    ·go_simp
     constructor
     ·rfl
     ·rfl
    refine hK.out _ _ ((Below.cell (zb3 (Below.refl _ _) _) (World.block_lt_of_cell? _ _ hHeld)).trans hHeld) (fun hHeld => ?_)
    clear hK K
    refine norm_ (a' := ?_) ?_ ?_
    rotate_left
    ·show Act.put _ (some 45) _ = _
     simp only [Act.put, zs1, zs2, zs3, i64_w, i32_w]
     rfl
    refine one_ (i := 10) (N := some 46) (qq 14 2047) rfl rfl (one_of HT_.out (by kernel_rfl)) (by decide) (fun K hK => ?_)
    refine Kd.R_append_step (Kd.int .u8) (w0 := F.w1) F.w1.heap.size (by rfl) (.tmp 40) (.tmp 45) 33 5 (.int .u8 0) 1 rfl Try.underlying33 info5 rfl (by decide) (by decide) (.slice At tn ct) xtd xs [.int .u8 xs] (fun k => F.ok k ∧ some k ≠ vl5.ownBlock) (fun _ => False) rfl rfl rfl (fun _ hk => hk.elim) HFR.out HQT.out HS5.out.bl HS5.out.bl.size HVT.out.2 ?_
    intro vt6 w6 hq hb hg hat
    obtain ⟨At6, ct6, e3⟩ := Kd.R_slice hq
    obtain ⟨n3, hn3⟩ : ∃ n3 : Nat, n3 = (xtd ++ [xs]).length := ⟨_, rfl⟩
    rw [← hn3] at e3
    subst e3
    clear hn3
    rw [← HVT.out.1] at hg hat
    have hx6 := blk_grown HS5.out.bx hg (Kd.R_ne HS5.out.qt HS5.out.bx (by decide))
    have HP := zA (HS5.out.put_told hq hb hg hat)
    have hc9 : w6.cell? ⟨g, 9, none⟩ = some (.slice At tn ct) := by rw [zc1 hx6 9, HVT.out.1]; rfl
    clear hq hb hg hat
    refine hK.out _ _ hc9 (fun hHeld => ?_)
    clear hK K
    refine norm_ (a' := ?_) ?_ ?_
    rotate_left
    ·show Act.put _ (some 46) _ = _
     simp only [Act.put, zs1, zs2, zs3, i64_w, i32_w]
     rfl
    refine ord_ [(0, 11, 4095), (0, 12, 8191)] ?_
    repeat (refine kk_ 0 ?_; refine oP_ (v := ?_) (a' := ?_) HT_ rfl rfl (by kernel_rfl) (fun _ _ _ h => h) (Or.inl ⟨by rfl, ?_⟩) ?_ ?_; rotate_left; (intro w'; go_simp; with_reducible rfl); rotate_left; (simp only [Act.put, zs1, zs2, zs3, i64_w, i32_w]; rfl))
    refine oend_ ?_
    refine last_ (i := 13) (N := none) (qq 14 16383) rfl rfl (one_of HT_.out (by kernel_rfl)) (by decide) (fun K hK => ?_)
    have hfz := zc5 hx6 9
    go_simp
    refine hK.out _ _ ?_
    clear hK K
    refine done_ (done_of HT_.out (by kernel_rfl)) ?_
    clear HT_ HW_ hHeld
    go_wp2_with fail
    go_roundg k1
    case measure => have := HK.out; have := HLN.out; simp only [List.length_cons] at *; omega
    case rel => exact ⟨i, ⟨r2, rest, xwt, xtd ++ [xs], xo⟩, _, _, _, by first | trivial | rfl, ⟨by have := HK.out; have := HLN.out; simp only [List.length_cons] at *; omega⟩, ⟨HP.out⟩, ⟨HD.out⟩⟩

set_option maxHeartbeats 8000000 in
set_option maxRecDepth 100000 in
theorem match_New.calls_bad (a0 a1 a2 : Int) (A3 : Option Addr) (c3 n : Nat) (l : List S55) (r : Int) (w : World) (hn : n = l.length) (hr : Kd.C k55 w A3 l.length l) (hc : l.length ≤ c3) (h : sig_Check.f a0 a1 a2 l = some r) (hne : r ≠ 0) :
    Calls Try.prog 9 #[.agg #[.int .i64 a0, .int .i64 a1, .int .i64 a2, .slice A3 n c3]] w fun e w' => e = .returned (.tuple #[.pointer none, .int .i64 r]) ∧ Below w.heap.size w w' := by
 have hu := Try.underlying24
 have HR := zA hr
 have HC := zA hc
 have H := zA h
 have HN := zA hn
 have HNE := zA hne
 have d1 : (r != 0) = true := by simpa using hne
 clear hr hc h hne hn
 go_enter Try.func9, Try.ntmps9
 go_wp2_with (first | ((with_reducible refine gate_dst (N := 1) rfl ?_); refine box_event ?hg (N := 1) ?hd (cs := #[.int .i64 a0, .int .i64 a1, .int .i64 a2, .slice A3 n c3]) (t := 24) ?hr ?_; (case hd => rfl); (case hg => rfl); (case hr => first | (go_simp; done) | (go_simp; rfl)); intro g1 hg1 w1 hA hq; have HB := zA hq; have hc0 := zc1 hA 0; have hc1 := zc1 hA 1; have hc2 := zc1 hA 2; have hc3 := zc1 hA 3; clear hA hq hg1))
 refine (calls_of_args (by rw [HN.out]) (index_New.calls_bad a0 a1 a2 A3 c3 l r _ (Kd.C_below HR.out HB.out) HC.out H.out HNE.out)).mono ?_
 rintro e w2 ⟨rfl, hb⟩
 have HB2 := zA (zb5 HB.out hb)
 clear hb hc0 hc1 hc2 hc3
 go_wp2_with fail
 go_ret2
 exact ⟨rfl, HB2.out⟩
set_option maxHeartbeats 8000000 in
set_option maxRecDepth 100000 in
theorem match_New.calls_ok (a0 a1 a2 : Int) (A3 : Option Addr) (c3 n : Nat) (l : List S55) (w : World) (hn : n = l.length) (hr : Kd.C k55 w A3 l.length l) (hc : l.length ≤ c3) (h : sig_Check.f a0 a1 a2 l = some 0) (hlen : l.length ≤ 1000000) :
    Calls Try.prog 9 #[.agg #[.int .i64 a0, .int .i64 a1, .int .i64 a2, .slice A3 n c3]] w fun e w' => ∃ (g gi : Nat) (w1 : World), e = .returned (.tuple #[.pointer (some ⟨g, 0, none⟩), .int .i64 0]) ∧ Below w.heap.size w w1 ∧ IxIs w1 gi l a0 a1 ∧
     Sc ⟨w1, w1, fun _ => True⟩ w' g gi a0 a1 a2 A3 c3 n 0 0 0 [] [] [] false (.slice none 0 0) (.slice none 0 0) (.slice none 0 0) := by
 have hu := Try.underlying24
 have hu2 := Try.underlying62
 have HR := zA hr
 have HC := zA hc
 have H := zA h
 have HN := zA hn
 have HL := zA hlen
 clear hr hc h hn hlen
 go_enter Try.func9, Try.ntmps9
 go_wp2_with (first | ((with_reducible refine gate_dst (N := 1) rfl ?_); refine box_event ?hg (N := 1) ?hd (cs := #[.int .i64 a0, .int .i64 a1, .int .i64 a2, .slice A3 n c3]) (t := 24) ?hr ?_; (case hd => rfl); (case hg => rfl); (case hr => first | (go_simp; done) | (go_simp; rfl)); intro g1 hg1 w1 hA hq; have HB := zA hq; have HBK := zA hA; have hc0 := zc1 hA 0; have hc1 := zc1 hA 1; have hc2 := zc1 hA 2; have hc3 := zc1 hA 3; clear hA hq hg1))
 refine (ixis_new a0 a1 a2 A3 c3 l _ HN.out (Kd.C_below HR.out HB.out) HC.out H.out HL.out).mono ?_
 rintro e w2 ⟨gi, rfl, hx, hb⟩
 have HB2 := zA (zb5 HB.out hb)
 have HBK2 := zA (zc6 HBK.out hb)
 have HX := zA hx
 clear hb hx hc0 hc1 hc2 hc3
 have hc0 := zc1 HBK2.out 0
 have hc1 := zc1 HBK2.out 1
 have hc2 := zc1 HBK2.out 2
 have hc3 := zc1 HBK2.out 3
 go_wp2_with (first | ((with_reducible refine gate_dst (N := 17) rfl ?_); refine box_event ?hg (N := 17) ?hd (cs := #[.slice none 0 0, .int .u32 0, .int .i64 a0, .int .i64 a1, .int .i64 a2, .slice A3 n c3, .pointer (some ⟨gi, 0, none⟩), .int .i64 0, .int .i64 0, .slice none 0 0, .slice none 0 0, .bool false]) (t := 62) ?hr ?_; (case hd => rfl); (case hg => rfl); (case hr => first | (go_simp; done) | (go_simp; rfl)); intro g hg w3 hA hq; have HQ := zA hq; have HA := zA hA; have HG := zA hg; clear hA hq hg))
 go_ret2
 exact ⟨g, gi, w2, rfl, HB2.out, HX.out, ⟨HA.out, Kd.Q_nil _ _ _ _ _, Kd.R_nil _ _ _ _ _, Kd.R_nil _ _ _ _ _, HQ.out, by rw [HG.out]; exact Nat.le_refl _, Kept.of_below HQ.out _, Or.inl trivial⟩⟩
set_option maxHeartbeats 4000000 in
set_option maxRecDepth 100000 in
theorem match_Seen.calls {F : Fr} {w : World} {g gi : Nat} {s b n : Int} {A : Option Addr} {c m : Nat} {weak want seen : Int} {left told : List Int} {out : List S47} {over : Bool} {vl vt vo : Value} (hS : Sc F w g gi s b n A c m weak want seen left told out over vl vt vo) : Calls Try.prog 13 #[.pointer (some ⟨g, 0, none⟩)] w fun e w' => e = .returned (.int .i64 seen) ∧ Below w.heap.size w w' := by
 have hu := Try.underlying62
 have hc8 : w.cell? ⟨g, 8, none⟩ = some (.int .i64 seen) := (hS.cell 8).trans rfl
 clear hS
 go_enter Try.func13, Try.ntmps13
 go_wp2_with fail
 go_ret
 exact ⟨rfl, Below.refl _ _⟩

theorem Sc.reframe {F : Fr} {w : World} {g gi : Nat} {s b n : Int} {A : Option Addr} {c m : Nat} {weak want seen : Int} {left told : List Int} {over : Bool} {vl vt : Value} (h : Sc F w g gi s b n A c m weak want seen left told [] over vl vt (.slice none 0 0)) :
    Sc ⟨F.w1, w, fun k => k = g ∨ some k = vt.ownBlock ∨ some k = vl.ownBlock⟩ w g gi s b n A c m weak want seen left told [] over vl vt (.slice none 0 0) :=
 ⟨h.bx, Kd.Q_mono (Kd.Q_tight rfl h.ql) (fun _ hk => Or.inl (Or.inr (Or.inr hk))), Kd.R_mono (Kd.R_tight2 rfl h.qt) (fun _ hk => ⟨Or.inl (Or.inr (Or.inl hk.1)), hk.2.2⟩), Kd.R_nil _ _ _ _ _, h.bl, h.lo, Kept.refl _ _, Or.inl (Or.inl rfl)⟩
def match_Of.f (k : Nat) (a0 a1 a2 : Int) (l : List S55) (lb : List Int) : Option (List S47 × Int) :=
 (sig_Check.f a0 a1 a2 l).bind fun e => if e ≠ 0 then some ([], e) else if l.length ≤ 1000000 then if lb.length > 65536 then some ([], 7) else
  (feedF k l a0 a1 a2 ⟨0, [], 0, [], []⟩ lb).bind fun y => (blocks_Range.f a0 a1 ((l.length : Int) - 1)).bind fun q => if y.out.length ≤ 900000 then
   (doneF k l a0 a1 a2 (wrap64 (q.2.1 - q.1)) 70000 ⟨y.weak, y.left, y.want, [], []⟩).bind fun z => if z.out.length ≤ 900000 then
    (delta_Norm.f (tl y.told y.out ++ tl z.told z.out)).bind fun r => some (r, 0) else none else none else none
theorem match_Of.mono : ∀ a0 a1 a2 a3 a4 k, LeO (match_Of.f k a0 a1 a2 a3 a4) (match_Of.f (k + 1) a0 a1 a2 a3 a4) := by
 intro a0 a1 a2 a3 a4 k
 unfold match_Of.f
 exact LeO.bind (LeO.refl _) fun _ => LeO.ite (LeO.refl _) (LeO.ite (LeO.ite (LeO.refl _) (LeO.bind (feedF_mono _ _ _ _ _ _ _) fun _ => LeO.bind (LeO.refl _) fun _ => LeO.ite (LeO.bind (doneF_mono _ _ _ _ _ _ _ _) fun _ => LeO.refl _) (LeO.none _))) (LeO.none _))
theorem tl_len {told : List Int} {out : List S47} (h : out.length ≤ 900000) : (tl told out).length ≤ 900001 := by
 unfold tl
 split
 ·omega
 ·rw [List.length_append]; simp only [List.length_cons, List.length_nil]; omega
set_option maxHeartbeats 16000000 in
set_option maxRecDepth 100000 in
theorem match_Of.calls0 (k : Nat) (a0 a1 a2 : Int) (A3 : Option Addr) (c3 n : Nat) (l : List S55) (Ab : Option Addr) (cb nb : Nat) (lb : List Int) (r : List S47) (ee : Int) (w : World) (hn : n = l.length) (hr : Kd.C k55 w A3 l.length l) (hc : l.length ≤ c3)
    (hnb : nb = lb.length) (hrb : Kd.C (Kd.int .u8) w Ab lb.length lb) (hcb : lb.length ≤ cb) (h : match_Of.f k a0 a1 a2 l lb = some (r, ee)) :
    Calls Try.prog 15 #[.agg #[.int .i64 a0, .int .i64 a1, .int .i64 a2, .slice A3 n c3], .slice Ab nb cb] w fun e w' => ∃ v0_ : Value, e = .returned (.tuple #[v0_, .int .i64 ee]) ∧ Kd.N k47 47 w' w.heap.size (fun k_ => (w.heap.size ≤ k_)) v0_ r ∧ Below w.heap.size w w' := by
 have hu := Try.underlying24
 have HR := zA hr
 have HC := zA hc
 have HN := zA hn
 have HNB := zA hnb
 have HRB := zA hrb
 have HCB := zA hcb
 unfold match_Of.f at h
 obtain ⟨e0, hck, h⟩ := ob_ h
 have HCK := zA hck
 have H := zA h
 clear hr hc hn hnb hrb hcb h hck
 go_enter Try.func15, Try.ntmps15
 go_wp2_with (first | ((with_reducible refine gate_dst (N := 2) rfl ?_); refine box_event ?hg (N := 2) ?hd (cs := #[.int .i64 a0, .int .i64 a1, .int .i64 a2, .slice A3 n c3]) (t := 24) ?hr ?_; (case hd => rfl); (case hg => rfl); (case hr => first | (go_simp; done) | (go_simp; rfl)); intro g1 hg1 w1 hA hq; have HB := zA hq; have hc0 := zc1 hA 0; have hc1 := zc1 hA 1; have hc2 := zc1 hA 2; have hc3 := zc1 hA 3; clear hA hq hg1))
 by_cases he : e0 ≠ 0
 ·have HE := zA he
  have d1 : (e0 != 0) = true := by simpa using he
  have h := H.out
  rw [if_pos he] at h
  cases h
  clear he H
  refine (match_New.calls_bad a0 a1 a2 A3 c3 n l ee _ HN.out (Kd.C_below HR.out HB.out) HC.out HCK.out HE.out).mono ?_
  rintro e w2 ⟨rfl, hb⟩
  have HB2 := zA (zb5 HB.out hb)
  clear hb hc0 hc1 hc2 hc3
  go_wp2_with fail
  go_ret2
  exact ⟨_, rfl, Kd.N_nil _ _ _ _ _, HB2.out⟩
 ·obtain rfl : e0 = 0 := Decidable.not_not.1 he
  have h := H.out
  rw [if_neg he] at h
  clear he H
  obtain ⟨hlen, h⟩ := oi_ h
  have HLEN := zA hlen
  clear hlen
  by_cases hbig : lb.length > 65536
  ·rw [if_pos hbig] at h
   cases h
   refine (match_New.calls_ok a0 a1 a2 A3 c3 n l _ HN.out (Kd.C_below HR.out HB.out) HC.out HCK.out HLEN.out).mono ?_
   rintro e w3 ⟨g, gi, w2, rfl, hb, hx, hS⟩
   have HB2 := zA (zb5 (zb5 HB.out hb) hS.bl)
   have b1 : decide ((65536 : Int) < (nb : Int)) = true := zd1 (by have := HNB.out; omega)
   have b2 : decide (65536 < nb) = true := zd1 (by have := HNB.out; omega)
   clear hb hx hS hc0 hc1 hc2 hc3 hbig
   go_wp2_with fail
   go_ret2
   exact ⟨_, rfl, Kd.N_nil _ _ _ _ _, HB2.out⟩
  ·rw [if_neg hbig] at h
   obtain ⟨y, hfd, h⟩ := ob_ h
   obtain ⟨⟨q1, q2, q3⟩, hrg, h⟩ := ob_ h
   obtain ⟨hy, h⟩ := oi_ h
   obtain ⟨z, hdn, h⟩ := ob_ h
   obtain ⟨hz, h⟩ := oi_ h
   obtain ⟨r2, hnm, h⟩ := ob_ h
   cases h
   dsimp only at hrg hdn
   have HFD := zA hfd
   have HRG := zA hrg
   have HY := zA hy
   have HDN := zA hdn
   have HZ := zA hz
   have HNM := zA hnm
   have HBIG := zA hbig
   clear hfd hrg hy hdn hz hnm hbig
   refine (match_New.calls_ok a0 a1 a2 A3 c3 n l _ HN.out (Kd.C_below HR.out HB.out) HC.out HCK.out HLEN.out).mono ?_
   rintro e w3 ⟨g, gi, w2, rfl, hb, hx, hS⟩
   have HB2 := zA (zb5 HB.out hb)
   have HX := zA hx
   have HS := zA hS
   have b1 : decide ((65536 : Int) < (nb : Int)) = false := zd2 (by have := HBIG.out; have := HNB.out; omega)
   have b2 : decide (65536 < nb) = false := zd2 (by have := HBIG.out; have := HNB.out; omega)
   clear hb hx hS hc0 hc1 hc2 hc3
   go_wp2_with fail
   refine (match_Feed.calls (F := ⟨w2, w2, fun _ => True⟩) k (sn := 0) HS.out HX.out HNB.out (Kd.C_below HRB.out HB2.out) HCB.out (mm := lb.length) (by have := HBIG.out; omega) (by omega) (by rw [List.take_length]; exact HFD.out) HY.out).mono ?_
   rintro e w4 ⟨vl1, vt1, vr, rfl, hS, hR⟩
   have HS4 := zA hS.reframe
   have HR4 := zA hR
   clear hS hR HS
   go_wp2_with fail
   refine (match_Done.calls k HS4.out HX.out (by rw [HN.out]; exact HLEN.out) (by rw [HN.out]; exact HRG.out) HDN.out HZ.out).mono ?_
   rintro e w5 ⟨vl2, vt2, vr2, rfl, hS5, hR5⟩
   have HR5 : Aside0 (k47.R 47 w5 w2.heap.size (fun _ => True) vr (tl y.told y.out)) := ⟨Kd.R_mono (Kd.R_kept HR4.out hS5.kp (fun k hk hs => hs.elim hk.1 (fun h => h.elim hk.2.1.2 hk.2.2))) (fun _ _ => trivial)⟩
   have HB5 : Aside0 (Below w2.heap.size w2 w5) := ⟨hS5.bl⟩
   have HV : Aside0 (∀ k, some k = vr.ownBlock → ¬ (k ≠ g ∧ (Fr.ok ⟨w2, w4, fun k => k = g ∨ some k = vt1.ownBlock ∨ some k = vl1.ownBlock⟩ k ∧ some k ≠ vt2.ownBlock) ∧ some k ≠ vl2.ownBlock)) := ⟨fun k hk hn => by
    have h1 := HR4.out.1 k hk.symm
    have h2 := Kd.R_lt HR4.out k hk.symm
    rcases hn.2.1.1 with h3 | h3
    ·exact h3.elim h1.1 (fun h => h.elim h1.2.1.2 h1.2.2)
    ·exact absurd h2 (Nat.not_lt.2 h3)⟩
   obtain ⟨A5, c5, hv5, hl5, hrr⟩ := OwnRow.reads hR5.2
   subst hv5
   have HRR := zA hrr
   clear hrr hS5 hR5 hl5 HR4 HS4
   go_wp2_with (first | ((with_reducible refine gate_dst (N := 26) rfl ?_); (with_reducible refine gate_builtin (b := .append) (xs := #[.tmp 23, .tmp 25]) rfl ?_); at_builtin; refine Kd.R_append_rows k47 (w0 := w2) w2.heap.size rfl (.tmp 23) (.tmp 25) 34 47 (.agg #[(.int .i64 0), (.int .i64 0), (.slice none 0 0)]) 40 rfl Try.underlying34 infoSc rfl (by decide) (by decide) vr (tl y.told y.out) (tl z.told z.out) A5 _ c5 (fun _ => True) (fun k => some k ≠ vr.ownBlock) rfl rfl HR5.out HRR.out ?aM (fun _ h => ⟨trivial, h⟩) (fun _ _ => trivial) HB5.out HB5.out.size ?aL ?_; (case aM => exact fun x cs hx => k47.M_mono (fun k hk he => HV.out k he hk.1) hx); (case aL => have := tl_len (told := y.told) HY.out; have := tl_len (told := z.told) HZ.out; omega); intro v6 w6 hR6 hb6 hg6 hat6; have HR6 := zA hR6; have HB6 := zA hb6; clear hR6 hb6 hg6 hat6))
   obtain ⟨A6, c6, rfl, hl6, hr6⟩ := Kd.R_reads HR6.out
   refine (delta_Norm.calls A6 c6 _ _ w6 hr6 hl6 HNM.out).mono ?_
   rintro e w7 ⟨v7, rfl, hN7, hb7⟩
   have hsz : w.heap.size ≤ w6.heap.size := (zb5 HB2.out HB6.out).size
   have HN7 := zA (Kd.N_mono (Kd.N_lower hN7 hsz) (fun _ hk => Nat.le_trans hsz hk))
   have HB7 := zA (zb5 (zb5 HB2.out HB6.out) hb7)
   clear hl6 hr6 hN7 hb7 hsz HR6 HB6 HR5 HB5 HRR HV
   go_wp2_with fail
   go_ret2
   exact ⟨_, rfl, HN7.out, HB7.out⟩
theorem match_Of.calls (k : Nat) (a0_0 a0_1 a0_2 : Int) (A0_3 : Option Addr) (c0_3 : Nat) (l0_3 : List S55) (A1 : Option Addr) (c1 : Nat) (l1 : List Int) (r1 : List S47) (r2 : Int) (w : World) (hr0_3 : Kd.C k55 w A0_3 l0_3.length l0_3) (hc0_3 : l0_3.length ≤ c0_3) (hr1 : Kd.C (Kd.int .u8) w A1 l1.length l1) (hc1 : l1.length ≤ c1) (h : match_Of.f k a0_0 a0_1 a0_2 l0_3 l1 = some (r1, r2)) :
    Calls Try.prog 15 #[.agg #[.int .i64 a0_0, .int .i64 a0_1, .int .i64 a0_2, .slice A0_3 l0_3.length c0_3], .slice A1 l1.length c1] w fun e w' => ∃ v0_ : Value, e = .returned (.tuple #[v0_, .int .i64 r2]) ∧ Kd.N k47 47 w' w.heap.size (fun k_ => (w.heap.size ≤ k_)) v0_ r1 ∧ Below w.heap.size w w' :=
 match_Of.calls0 k a0_0 a0_1 a0_2 A0_3 c0_3 _ l0_3 A1 c1 _ l1 r1 r2 w rfl hr0_3 hc0_3 rfl hr1 hc1 h


end Go.Proofs.Ytkihlcmjjoiccaa.PMatchCosts
