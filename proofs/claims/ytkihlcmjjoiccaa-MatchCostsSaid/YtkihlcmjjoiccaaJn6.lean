/- delta.Norm: the ops of a row added one by one. -/
import Derived.Test.YtkihlcmjjoiccaaJn5
namespace Go.Proofs.Ytkihlcmjjoiccaa.Jn
open Go.RowKit Go.Proofs.YtkihlcmjjoiccaaW.PrintWords Go.Proofs.YtkihlcmjjoiccaaW.PrintLast Go.Proofs.YtkihlcmjjoiccaaW.PrintMore
attribute [local go_sem] max2_int min2_int max_two min_two max_three min_three max_four min_four
set_option linter.unusedVariables false
set_option linter.unusedSimpArgs false
def wt (xs : List T3) : Nat := (xs.map fun x => x.2.2.length).sum
theorem wt_append (xs ys : List T3) : wt (xs ++ ys) = wt xs + wt ys := by unfold wt; rw [List.map_append, List.sum_append]
theorem wt_cons (x : T3) (xs : List T3) : wt (x :: xs) = x.2.2.length + wt xs := by unfold wt; rw [List.map_cons, List.sum_cons]
theorem wt_nil : wt [] = 0 := rfl
theorem wt_mem {xs : List T3} {p : T3} (h : p ∈ xs) : p.2.2.length ≤ wt xs := by
 induction xs with
 | nil => cases h
 | cons x xs ih =>
  rw [wt_cons]
  rcases List.mem_cons.1 h with rfl | h
  ·omega
  ·have := ih h; omega
theorem wt_nrm (o : T3) : (nrm o).2.2.length = o.2.2.length := by
 unfold nrm
 split
 ·rfl
 ·rfl
theorem join2_len (p o : T3) : (join2 p o).length ≤ 2 ∧ wt (join2 p o) ≤ p.2.2.length + o.2.2.length := by
 unfold join2
 (repeat' split) <;> simp [wt_cons, wt_nil, wt_nrm]
theorem addL_len (xs : List T3) (o : T3) : (addL xs o).length ≤ xs.length + 1 ∧ wt (addL xs o) ≤ wt xs + o.2.2.length := by
 by_cases h : o.2.2 = [] ∧ o.2.1 ≤ 0
 ·unfold addL; rw [if_pos h]; omega
 ·rcases snoc_cases xs with rfl | ⟨ys, p, rfl⟩
  ·rw [addL_nil _ h]; simp [wt_cons, wt_nil, wt_nrm]
  ·rw [addL_snoc _ _ _ h]
   have := join2_len p o
   simp only [List.length_append, wt_append, List.length_cons, List.length_nil, wt_cons, wt_nil]
   omega
theorem fold_len : ∀ (l xs : List T3), (l.foldl addL xs).length ≤ xs.length + l.length ∧ wt (l.foldl addL xs) ≤ wt xs + wt l
 | [], xs => by simp [wt_nil]
 | o :: l, xs => by
  have h1 := fold_len l (addL xs o)
  have h2 := addL_len xs o
  simp only [List.foldl_cons, List.length_cons, wt_cons]
  omega
theorem wt_take (l : List T3) (i : Nat) : wt (l.take i) ≤ wt l := by
 have := wt_append (l.take i) (l.drop i)
 rw [List.take_append_drop] at this
 omega
theorem Box_below {base g : Nat} {ok : Nat → Prop} {w w1 : World} {xs : List T3} (h : Box base ok g w xs) (hb : Below w.heap.size w w1) : Box base ok g w1 xs := by
 obtain ⟨v, h1, h2, h3⟩ := h.row
 exact ⟨v, blk_below h1 hb, Kd.S_below h2 hb, h3⟩
theorem Box_grown {base g : Nat} {ok : Nat → Prop} {w w1 : World} {xs : List T3} (h : Box base ok g w xs) {row : Option Nat} (hg : w.grownBy w1 row) (h1 : row ≠ some g) (h2 : ∀ k, ok k → some k ≠ row) : Box base ok g w1 xs := by
 obtain ⟨v, h3, h4, h5⟩ := h.row
 exact ⟨v, blk_grown h3 hg (fun e => h1 e.symm), Kd.S_grown h4 hg h2, h5⟩
theorem Box_mono {base g : Nat} {ok ok' : Nat → Prop} {w : World} {xs : List T3} (h : Box base ok g w xs) (hk : ∀ k, ok k → ok' k) : Box base ok' g w xs := by
 obtain ⟨v, h3, h4, h5⟩ := h.row
 exact ⟨v, h3, Kd.S_mono h4 hk, h5⟩
theorem Box_bound {base g : Nat} {ok : Nat → Prop} {w : World} {xs : List T3} (h : Box base ok g w xs) : Box base (fun k => ok k ∧ k < w.heap.size) g w xs := by
 obtain ⟨v, h3, h4, h5⟩ := h.row
 exact ⟨v, h3, Kd.S_mono (Kd.S_bound h4) (fun k hk => ⟨hk.1, hk.2.2.1⟩), h5⟩
theorem at_T3 {w : World} {A : Option Addr} {n : Nat} {xs : List T3} (h : kP.C w A n xs) (i : Nat) (h1 : i < xs.length) : ∃ ad A2 c2, A = some ad ∧ w.cell? (ad.add (i * 3)) = some (.int .i64 xs[i].1) ∧ w.cell? ⟨(ad.add (i * 3)).block, (ad.add (i * 3)).off + 1, none⟩ = some (.int .i64 xs[i].2.1) ∧ w.cell? ⟨(ad.add (i * 3)).block, (ad.add (i * 3)).off + 2, none⟩ = some (.slice A2 xs[i].2.2.length c2) ∧ xs[i].2.2.length ≤ c2 ∧ (Kd.int .u8).C w A2 xs[i].2.2.length xs[i].2.2 := by
 have hn : n = xs.length := h.1.symm
 obtain ⟨ad, c, e, _, hK, hc0⟩ := Kd.C_get h ((0, 0, []) : T3) (i : Int) (by omega) (by omega)
 have hz : xs.getD ((i : Int)).toNat ((0, 0, []) : T3) = xs[i] := by
  rw [List.getD_eq_getElem?_getD, Int.toNat_natCast, List.getElem?_eq_getElem h1, Option.getD_some]
 rw [hz] at hK
 have hc : ∀ j u, c[j]? = some u → w.cell? (ad.add (i * 3 + j)) = some u := hc0
 obtain ⟨_, _, rfl, rfl, ⟨_, _, rfl, rfl, ⟨A2, c2, rfl, l2, g2⟩⟩⟩ := hK
 exact ⟨ad, A2, c2, e, hc 0 _ rfl, by rw [← add_field _ _ 1 (by omega)]; exact hc 1 _ rfl, by rw [← add_field _ _ 2 (by omega)]; exact hc 2 _ rfl, l2, g2⟩
section
variable {P : Program} {ops : Array Oper} {a : Act} {Q : Exit → Act → World → Prop}
/-- A call of a function value that is known, in a plain region. -/
theorem goesC_ {rest : List Oper} {oi : Oper} {w : World} (N : Option Tmp) (hd : oi.dst = N) (hg : oi.guard = none) {f : FuncId} {fn : Func} {as_ : Array Operand} {ts : Array TypeId} {cal : Operand} {cap : Array Value} (hf : P.funcs[f]? = some fn) (hname : (fn.name == "runtime.NumGoroutine") = false) (hb : fn.body.isSome = true) (args : Array Value)
  (hop : oi.op = .call { callee := .value cal, args := as_, argTypes := ts }) (hcal : a.eval cal = .func (.func f) #[] cap) (hargs : as_.map a.eval = args)
  (h : Calls P f (args ++ cap) w fun e w' => ∃ v, e = .returned v ∧ wpList P ops Q rest (a.put N v) w') : wpList P ops Q (oi :: rest) a w := by
 refine wpList_plain hg fun K hK => ?_
 have he := enters_ hf hname hb (args ++ cap) w
 have hrun : (execOp a.eval oi).run P w = .ok (.enter f (args ++ cap)) w := by
  unfold execOp
  simp [hop, resolve, hcal, Deferred.ofValue, invoke, hargs, he]
 unfold Oper.wp
 rw [hrun, Oper.upon_enter]
 refine h.mono fun e w'' hh => ?_
 obtain ⟨v, rfl, hk⟩ := hh
 subst hd
 exact hK _ _ hk
end
def okN (n g : Nat) : Nat → Prop := fun k => n ≤ k ∧ k ≠ g
structure Hid_ (p : Prop) : Prop where mk :: (out : p)
set_option maxHeartbeats 8000000 in
set_option maxRecDepth 100000 in
theorem Norm_calls (A : Option Addr) (c : Nat) (l : List T3) (w : World) (hC : kP.C w A l.length l) (hc : l.length ≤ c) (hlen : l.length ≤ 1000000) (hwt : wt l ≤ 1000000000) (hcan : ∀ i (h : i < l.length), can ((l.take i).foldl addL []) l[i]) :
  Calls Try.prog 18 #[.slice A l.length c] w fun e w' => ∃ v, e = .returned v ∧ Kd.S kJ 47 w' w.heap.size (fun k => w.heap.size ≤ k) v (l.foldl addL []) ∧ Below w.heap.size w w' := by
 have HR := Aside0.mk hC
 have HL := Aside0.mk hlen
 have HW := Aside0.mk hwt
 have HCAN := Aside0.mk hcan
 clear hC hc hlen hwt hcan
 go_enter Try.func18, Try.ntmps18
 go_wp2_with (first | ((with_reducible refine gate_dst (N := 8) rfl ?_); refine goesL_ (some 8) rfl rfl Try.func32 (by kernel_rfl) rfl #[] rfl (by first | (simp; done) | rfl) ?_; refine (joiner_calls _).mono ?_; rintro e w1 ⟨g, hgw, rfl, hbox, hb⟩; refine ⟨_, rfl, ?_⟩; have HBX : Aside0 (Box w.heap.size (okN w.heap.size g) g w1 []) := ⟨⟨⟨_, hbox, Kd.S_nil _ _ _ _ _, fun _ => rfl⟩⟩⟩; have HB := Aside0.mk hb; have HGW := Aside0.mk hgw; clear hgw hbox hb))

 go_loopg [13] l.length (fun kq v13 w' => ∃ i : Nat, v13 = .int .i64 (i : Int) ∧ Aside0 (i + kq = l.length) ∧ Aside0 (Box w.heap.size (okN w.heap.size g) g w' ((l.take i).foldl addL [])) ∧ Aside0 (Below w.heap.size w w') ∧ Aside0 (w.heap.size + 1 ≤ w'.heap.size))
 case atStart => exact ⟨0, rfl, ⟨by omega⟩, HBX, HB, ⟨by have h1 := HGW.out; obtain ⟨v, h2, _⟩ := HBX.out.row; have := blk_lt h2; omega⟩⟩
 case round =>
  clear HBX HB
  obtain ⟨i, rfl, HI, HBX, HB, HZ⟩ := hrel
  by_cases hi : i < l.length
  ·obtain ⟨k1, hk1⟩ : ∃ k1, gk = k1 + 1 := ⟨gk - 1, by have := HI.out; omega⟩
   subst hk1
   have ht : decide ((i : Int) < (l.length : Int)) = true := decide_eq_true (by omega)
   have htN : decide (i < l.length) = true := decide_eq_true hi
   have hi1 := eq_true hi
   have hi2 := eq_true (show (0 : Int) ≤ (i : Int) by omega)
   have hi3 := eq_true (show (i : Int) < (l.length : Int) by omega)
   have ht0 : decide (0 ≤ (i : Int)) = true := decide_eq_true (by omega)
   have hw1 : wrap64 ((i : Int) + 1) = ((i + 1 : Nat) : Int) := by have := HL.out; unfold wrap64; omega
   obtain ⟨ad, A2, c2, e, hx0, hx1, hx2, hl2, hR2⟩ := at_T3 HR.out i hi
   subst e
   replace hx0 := (HB.out.cell (World.block_lt_of_cell? w _ hx0)).trans hx0
   replace hx1 := (HB.out.cell (World.block_lt_of_cell? w _ hx1)).trans hx1
   replace hx2 := (HB.out.cell (World.block_lt_of_cell? w _ hx2)).trans hx2
   have HR2 := Aside0.mk hR2
   have HC2 := Aside0.mk hl2
   obtain ⟨o, ho⟩ : ∃ o : T3, o = l[i] := ⟨_, rfl⟩
   rw [← ho] at hx0 hx1 hx2 HR2 HC2
   have HII := Aside0.mk hi
   have HMEM : Aside0 (o ∈ l) := ⟨by rw [ho]; exact List.getElem_mem hi⟩
   have HCN : Aside0 (can ((l.take i).foldl addL []) (o.1, o.2.1, o.2.2)) := ⟨by rw [ho]; exact HCAN.out i hi⟩
   have HST : Aside0 ((l.take (i + 1)).foldl addL [] = addL ((l.take i).foldl addL []) (o.1, o.2.1, o.2.2)) := ⟨by rw [List.take_succ_eq_append_getElem hi, List.foldl_append, ho]; rfl⟩
   clear hl2 hR2 ho
   go_wp2_with (first
    | ((with_reducible refine gate_dst (N := 6) rfl ?_); refine box_event ?hg (N := 6) ?hd (cs := #[.int .i64 0, .int .i64 0, .slice none 0 0]) (t := 47) ?hr ?_; (case hd => rfl); (case hg => rfl); (case hr => first | (go_simp; done) | (go_simp; rfl)); intro gb hgb w2 hbox hb; replace HBX := Aside0.mk (Box_below (Box_mono (ok' := fun k => okN w.heap.size g k ∧ k < gb) (Box_bound HBX.out) (fun k hk => ⟨hk.1, by rw [hgb]; exact hk.2⟩)) hb); have HGB := Aside0.mk (show w.heap.size + 1 ≤ gb by rw [hgb]; exact HZ.out); replace HB := Aside0.mk (below_step HB.out hb); replace HZ := Aside0.mk (Nat.le_trans HZ.out hb.size); have BO := Aside0.mk hbox; clear hbox hb hgb)
    | (refine store_event rfl rfl 47 (.tmp 6) (.tmp 16) rfl (g := gb) (j := 0) (e := 47) (cs := #[.int .i64 0, .int .i64 0, .slice none 0 0]) (cs' := #[.int .i64 o.1, .int .i64 o.2.1, .slice A2 o.2.2.length c2]) (u := .agg #[.int .i64 o.1, .int .i64 o.2.1, .slice A2 o.2.2.length c2]) (seg := [.int .i64 o.1, .int .i64 o.2.1, .slice A2 o.2.2.length c2]) rfl rfl rfl inf47 ?so BO.out (Nat.le_refl _) ?sc ?_; (case so => intro q hq; simp only [List.mem_cons, List.not_mem_nil, or_false] at hq; rcases hq with rfl | rfl | rfl <;> rfl); (case sc => exact blk_put (blk_put (blk_put BO.out 0 _ rfl) 1 _ rfl) 2 _ rfl); intro w3 hb3 hg3; replace HBX := Aside0.mk (Box_mono (Box_grown HBX.out hg3 (fun e => by injection e with e; have := HGB.out; have := HGW.out; omega) (fun k hk e => by injection e with e; have := hk.2; omega)) (fun k hk => hk.1)); replace HB := Aside0.mk (belowG HB.out hg3 HB.out.size (fun k hk => by injection hk with hk; have := HGB.out; omega)); replace HZ := Aside0.mk (Nat.le_trans HZ.out hg3.size); have ho0 : w3.cell? ⟨gb, 0, none⟩ = some (.int .i64 o.1) := (blk_cell hb3 0).trans rfl; have ho1 : w3.cell? ⟨gb, 1, none⟩ = some (.int .i64 o.2.1) := (blk_cell hb3 1).trans rfl; have ho2 : w3.cell? ⟨gb, 2, none⟩ = some (.slice A2 o.2.2.length c2) := (blk_cell hb3 2).trans rfl; replace hx0 := trivial; replace hx1 := trivial; replace hx2 := trivial; clear hb3 hg3)
    | ((with_reducible refine gate_dst (N := 19) rfl ?_); refine goesC_ (some 19) rfl rfl Try.func52 (by kernel_rfl) rfl #[.agg #[.int .i64 o.1, .int .i64 o.2.1, .slice A2 o.2.2.length c2]] rfl rfl (by (try simp only [List.map_toArray, List.map_cons, List.map_nil]); first | done | rfl) ?_; refine (add_calls w.heap.size (okN w.heap.size g) g o.1 o.2.1 A2 c2 o.2.2 _ ((l.take i).foldl addL []) (Kd.C_below HR2.out HB.out) HC2.out HBX.out HB.out.size ?hf ?hng ?hbg ?hx ?hl0 ?hpl HCN.out).mono ?_; (case hf => intro k hk; exact ⟨Nat.le_trans HB.out.size hk, by have := HZ.out; have := HGW.out; omega⟩); (case hng => exact fun h => h.2 rfl); (case hbg => exact Nat.le_of_eq HGW.out.symm); (case hx => have h1 := (fold_len (l.take i) []).1; have h2 := List.length_take_le i l; have h3 := HL.out; simp only [List.length_nil] at h1; omega); (case hl0 => have h1 := wt_mem HMEM.out; have h2 := HW.out; omega); (case hpl => intro p hp; have h0 := wt_mem hp; have h1 := (fold_len (l.take i) []).2; have h2 := wt_take l i; have h3 := wt_mem HMEM.out; have h4 := HW.out; simp only [wt_nil] at h1; omega); rintro e w4 ⟨rfl, hbx, hkp, hbl⟩; refine ⟨_, rfl, ?_⟩; replace HBX := Aside0.mk hbx; replace HB := Aside0.mk (HB.out.trans hbl); replace HZ := Aside0.mk (Nat.le_trans HZ.out hbl.size); clear hbx hkp hbl))
   go_roundg k1
   case measure => omega
   case rel => exact ⟨i + 1, (by first | rfl | (simp; done) | (simp [*]; done)), ⟨by have := HI.out; omega⟩, ⟨by rw [HST.out]; exact HBX.out⟩, HB, HZ⟩
  ·have ht : decide ((i : Int) < (l.length : Int)) = false := decide_eq_false (by omega)
   have htN : decide (i < l.length) = false := decide_eq_false hi
   have HII : Aside0 (l.take i = l) := ⟨List.take_of_length_le (by omega)⟩
   clear hi
   go_wp2_with (first | ((with_reducible refine gate_dst (N := 22) rfl ?_); refine Hid_.out ?_))
   refine Hid_.mk ?_
   refine goesC_ (some 22) rfl rfl Try.func54 (by kernel_rfl) rfl #[] rfl rfl (by first | (simp; done) | rfl) ?_
   obtain ⟨v, hv1, hv2, _⟩ := HBX.out.row
   refine (all_calls g _ v hv1).mono ?_
   rintro e w4 ⟨rfl, rfl⟩
   refine ⟨_, rfl, ?_⟩
   have HV := Aside0.mk hv2
   clear hv1 hv2
   go_wp2
   go_ret
   have h1 := HV.out
   rw [HII.out] at h1
   exact ⟨_, rfl, Kd.S_mono h1 (fun k hk => hk.1), HB.out⟩
end Go.Proofs.Ytkihlcmjjoiccaa.Jn
namespace Go.Proofs.Ytkihlcmjjoiccaa.Jn
open Go.RowKit Go.Proofs.YtkihlcmjjoiccaaW.PrintWords
/-- A structure's row, read by its fields. -/
theorem iso_C {α β : Type} {d : Kd α} {f : β → α} {w : World} {A : Option Addr} {n : Nat} {xs : List β} (h : (Kd.iso d f).C w A n xs) : d.C w A n (xs.map f) := by
 refine ⟨(List.length_map f).trans h.1, h.2.1, fun hp => ?_⟩
 obtain ⟨ad, e, hc⟩ := h.2.2 hp
 refine ⟨ad, e, fun j p hj => ?_⟩
 rw [List.getElem?_map] at hj
 obtain ⟨q, hq, rfl⟩ := Option.map_eq_some_iff.1 hj
 exact hc j q hq
theorem C_of_iso {α β : Type} {d : Kd α} {f : β → α} {w : World} {A : Option Addr} {n : Nat} {xs : List β} (h : d.C w A n (xs.map f)) : (Kd.iso d f).C w A n xs := by
 refine ⟨by rw [← h.1, List.length_map], h.2.1, fun hp => ?_⟩
 obtain ⟨ad, e, hc⟩ := h.2.2 hp
 refine ⟨ad, e, fun j p hj => ?_⟩
 exact hc j (f p) (by rw [List.getElem?_map, hj]; rfl)
/-- A row of numbers in a block that has just been laid. -/
theorem C_alloc_lit (w : World) (k : IntKind) (e : TypeId) (fr : Nat × Nat) (xs : List Int) (C : Array Value) (hC : C.toList = xs.map (Value.int k)) (hl : xs.length ≤ 9223372036854775807) :
  (Kd.int k).C (w.alloc (.cells C e fr)) (some ⟨w.heap.size, 0, none⟩) xs.length xs := by
 refine Kd.C_of_reads (d := (0 : Int)) (h1 := fun _ => rfl) ⟨rfl, hl, fun _ => ⟨_, rfl, fun j hj => ?_⟩⟩
 have e1 : (⟨w.heap.size, 0, none⟩ : Addr).add j = ⟨w.heap.size, j, none⟩ := by
  unfold Addr.add
  by_cases h : j = 0
  ·simp [h]
  ·simp [h]
 rw [e1, World.cell?_alloc_mark, ← Array.getElem?_toList, hC, List.getElem?_map, List.getElem?_eq_getElem hj, List.getD_eq_getElem?_getD, List.getElem?_eq_getElem hj]
 rfl
/-- A row of ops in a block that has just been laid. -/
theorem kP_alloc_lit (w : World) (e : TypeId) (fr : Nat × Nat) (xs : List T3) (C : Array Value) (hl : xs.length ≤ 9223372036854775807)
  (h : ∀ (j : Nat) (p : T3), xs[j]? = some p → ∃ A c, C[j * 3]? = some (.int .i64 p.1) ∧ C[j * 3 + 1]? = some (.int .i64 p.2.1) ∧ C[j * 3 + 2]? = some (.slice A p.2.2.length c) ∧ p.2.2.length ≤ c ∧ (Kd.int .u8).C (w.alloc (.cells C e fr)) A p.2.2.length p.2.2) :
  kP.C (w.alloc (.cells C e fr)) (some ⟨w.heap.size, 0, none⟩) xs.length xs := by
 refine ⟨rfl, hl, fun _ => ⟨_, rfl, fun j p hj => ?_⟩⟩
 obtain ⟨A, c, h0, h1, h2, h3, h4⟩ := h j p hj
 have e1 : ∀ i : Nat, (⟨w.heap.size, 0, none⟩ : Addr).add i = ⟨w.heap.size, i, none⟩ := fun i => by
  unfold Addr.add
  by_cases h : i = 0
  ·simp [h]
  ·simp [h]
 refine ⟨[.int .i64 p.1, .int .i64 p.2.1, .slice A p.2.2.length c], rfl, ⟨[.int .i64 p.1], [.int .i64 p.2.1, .slice A p.2.2.length c], rfl, rfl, ⟨[.int .i64 p.2.1], [.slice A p.2.2.length c], rfl, rfl, ⟨A, c, rfl, h3, h4⟩⟩⟩, fun i u hu => ?_⟩
 show (w.alloc (.cells C e fr)).cell? ((⟨w.heap.size, 0, none⟩ : Addr).add (j * 3 + i)) = some u
 rw [e1, World.cell?_alloc_mark]
 match i, hu with
 | 0, hu => rw [← hu]; exact h0
 | 1, hu => rw [← hu]; exact h1
 | 2, hu => rw [← hu]; exact h2
theorem iso_N {α β : Type} {d : Kd α} {f : β → α} {e base : Nat} {ok : Nat → Prop} {w : World} {v : Value} {xs : List β} (h : Kd.N d e w base ok v (xs.map f)) : Kd.N (Kd.iso d f) e w base ok v xs := by
 obtain ⟨h0, rows, hl, hR, hf⟩ := h
 exact ⟨h0, rows, by rw [hl, List.length_map], hR, fun j x c hx hc => hf j (f x) c (by rw [List.getElem?_map, hx]; rfl) hc⟩
end Go.Proofs.Ytkihlcmjjoiccaa.Jn
