/- The joiner put together: its add, its all, itself; the row that comes of adding ops one by one. -/
import Derived.Test.YtifmajnhcbicnaaDoorJn2
import Derived.Test.YtifmajnhcbicnaaDoorJn4
namespace Go.Proofs.YtifmajnhcbicnaaDoor.Jn
open Go.RowKit Go.Proofs.YtifmajnhcbicnaaDoorW.PrintWords Go.Proofs.YtifmajnhcbicnaaDoorW.PrintLast Go.Proofs.YtifmajnhcbicnaaDoorW.PrintMore
attribute [local go_sem] max2_int min2_int max_two min_two max_three min_three max_four min_four
set_option linter.unusedVariables false
set_option linter.unusedSimpArgs false
def nrm (o : T3) : T3 := if o.2.2 = [] then o else (0, 0, o.2.2)
/-- Does o go on behind p (p and o without bytes)? -/
def goOn (p o : T3) : Prop := o.2.1 ≤ 131072 ∧ 0 ≤ p.1 ∧ p.1 ≤ 131072 ∧ p.2.1 ≤ wrap64 (131072 - p.1) ∧ wrap64 (p.1 + p.2.1) = o.1
instance (p o : T3) : Decidable (goOn p o) := by unfold goOn; infer_instance
/-- One op behind another one. -/
def join2 (p o : T3) : List T3 :=
 if p.2.2 = [] then (if o.2.2 = [] then (if goOn p o then [(p.1, wrap64 (p.2.1 + o.2.1), p.2.2)] else [p, nrm o]) else [p, nrm o])
 else if o.2.2 = [] then [p, nrm o] else [(p.1, p.2.1, p.2.2 ++ o.2.2)]
/-- One op added to a row. -/
def addL (xs : List T3) (o : T3) : List T3 :=
 if o.2.2 = [] ∧ o.2.1 ≤ 0 then xs
 else match xs.getLast? with
  | none => [nrm o]
  | some p => xs.dropLast ++ join2 p o
theorem addL_nil (o : T3) (h : ¬ (o.2.2 = [] ∧ o.2.1 ≤ 0)) : addL [] o = [nrm o] := by unfold addL; rw [if_neg h]; rfl
theorem addL_snoc (ys : List T3) (p o : T3) (h : ¬ (o.2.2 = [] ∧ o.2.1 ≤ 0)) : addL (ys ++ [p]) o = ys ++ join2 p o := by
 unfold addL
 rw [if_neg h, List.getLast?_concat, List.dropLast_concat]
theorem snoc_cases {α : Type} (xs : List α) : xs = [] ∨ ∃ ys p, xs = ys ++ [p] := by
 rcases List.eq_nil_or_concat xs with h | ⟨ys, p, h⟩
 ·exact .inl h
 ·exact .inr ⟨ys, p, by rw [h, List.concat_eq_append]⟩
/-- What add is asked here: an op without bytes, into an empty row or behind one that it goes on. -/
def can (xs : List T3) (o : T3) : Prop := o.2.2 = [] ∧ 0 < o.2.1 ∧ (xs = [] ∨ ∃ ys p, xs = ys ++ [p] ∧ p.2.2 = [] ∧ goOn p o)
theorem add_calls (base : Nat) (ok : Nat → Prop) (g : Nat) (a b : Int) (A : Option Addr) (c : Nat) (l : List Int) (w : World) (xs : List T3) (hr : (Kd.int .u8).C w A l.length l) (hc : l.length ≤ c)
  (hB : Box base ok g w xs) (hbase : base ≤ w.heap.size) (hfresh : ∀ k, w.heap.size ≤ k → ok k) (hng : ¬ ok g) (hbg : base ≤ g) (hx : (xs.length + 1) * 40 ≤ 140737488355328) (hl0 : l.length < 140737488355328) (hpl : ∀ p ∈ xs, p.2.2.length + l.length < 140737488355328) (hcan : can xs (a, b, l)) :
  Calls Tryd.prog 43 #[.agg #[.int .i64 a, .int .i64 b, .slice A l.length c], .pointer (some ⟨g, 0, none⟩)] w fun e w' => e = .returned (.tuple #[]) ∧ Box base ok g w' (addL xs (a, b, l)) ∧ Kept w w' (fun k => ok k ∨ k = g) ∧ Below base w w' := by
  obtain ⟨v, hg, hS, hn⟩ := hB.row
  obtain ⟨hl, hb, hxs⟩ := hcan
  have hl : l = [] := hl
  have hb : 0 < b := hb
  have h0 : ¬ (l = [] ∧ b ≤ 0) := fun h => by have := h.2; omega
  have e : nrm (a, b, l) = (a, b, l) := by unfold nrm; rw [if_pos hl]
  rcases hxs with rfl | ⟨ys, p, rfl, ht, hgo⟩
  · rw [addL_nil _ h0, e]
    exact add_C1 base ok g a b A c l w v [] hr hc hg hS hbase hfresh hng hx hbg hb hl (hn rfl) rfl
  · rw [addL_snoc _ _ _ h0]
    obtain ⟨gr, cap, hv, _, _, _⟩ := Kd.S_form hS (by simp)
    have hv' : v = .slice (some ⟨gr, 0, none⟩) (ys.length + 1) cap := by rw [hv]; simp
    have ht' : p.2.2.length = 0 := by rw [ht]; rfl
    have e2 : join2 p (a, b, l) = [(p.1, wrap64 (p.2.1 + b), p.2.2)] := by
      unfold join2; rw [if_pos ht, if_pos hl, if_pos hgo]
    rw [e2]
    obtain ⟨q1, q2, q3, q4, q5⟩ := hgo
    exact add_C8 base ok g a b A c l w v _ hr hc hg hS hbase hfresh hng hx hbg hb hl ys p gr cap ys.length rfl hv' rfl ht' q1 q2 q3 q4 q5
set_option maxHeartbeats 8000000 in
set_option maxRecDepth 100000 in
/-- The row that is handed out at last. -/
theorem all_calls (g : Nat) (w : World) (v : Value) (hg : w.heap[g]? = some (.cells #[v] 22 (0, 0))) :
  Calls Tryd.prog 44 #[.pointer (some ⟨g, 0, none⟩)] w fun e w' => e = .returned v ∧ w' = w := by
 have hg0 : w.cell? ⟨g, 0, none⟩ = some v := (blk_cell hg 0).trans rfl
 clear hg
 go_enter Tryd.func44, Tryd.ntmps44
 go_wp2
 go_ret
 exact ⟨rfl, rfl⟩
set_option maxHeartbeats 8000000 in
set_option maxRecDepth 100000 in
theorem joiner_calls (w : World) :
  Calls Tryd.prog 33 #[] w fun e w' => ∃ g, g = w.heap.size ∧ e = .returned (.tuple #[.func (.func 43) #[] #[.pointer (some ⟨g, 0, none⟩)], .func (.func 44) #[] #[.pointer (some ⟨g, 0, none⟩)]]) ∧ w'.heap[g]? = some (.cells #[.slice none 0 0] 22 (0, 0)) ∧ Below w.heap.size w w' := by
 go_enter Tryd.func33, Tryd.ntmps33
 go_wp2_with (first | ((with_reducible refine gate_dst (N := 2) rfl ?_); refine box_event ?hg (N := 2) ?hd (cs := #[.slice none 0 0]) (t := 22) ?hr ?_; (case hd => rfl); (case hg => rfl); (case hr => first | (go_simp; done) | (go_simp; rfl)); intro gb hgb w2 hbox hb; have BG := Aside0.mk hbox; have HB := Aside0.mk hb; have HGW := Aside0.mk hgb; clear hgb hbox hb))
 refine bodyPost_ret (results_tmp2 rfl _ _ _) rfl ?_
 exact ⟨gb, HGW.out, rfl, BG.out, HB.out⟩
end Go.Proofs.YtifmajnhcbicnaaDoor.Jn
