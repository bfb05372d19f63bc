/- The joiner put together: its add, its all, itself; the row that comes of adding ops one by one. -/
import Derived.Test.YtkihlcmjjoiccaaJn2
import Derived.Test.YtkihlcmjjoiccaaJn3
import Derived.Test.YtkihlcmjjoiccaaJn4
namespace Go.Proofs.Ytkihlcmjjoiccaa.Jn
open Go.RowKit Go.Proofs.YtkihlcmjjoiccaaW.PrintWords Go.Proofs.YtkihlcmjjoiccaaW.PrintLast Go.Proofs.YtkihlcmjjoiccaaW.PrintMore
attribute [local go_sem] max2_int min2_int max_two min_two max_three min_three max_four min_four
set_option linter.unusedVariables false
set_option linter.unusedSimpArgs false
def nrm (o : T3) : T3 := if o.2.2 = [] then o else (0, 0, o.2.2)
/-- Does o go on behind p (p and o without bytes)? -/
def goOn (p o : T3) : Prop := o.2.1 ≤ 131072 ∧ 0 ≤ p.1 ∧ p.1 ≤ 131072 ∧ p.2.1 ≤ wrap64 (131072 - p.1) ∧ wrap64 (p.1 + p.2.1) = o.1
instance (p o : T3) : Decidable (goOn p o) := by unfold goOn; infer_instance
/-- One op behind another one. -/
def join2 (p o : T3) : List T3 :=
 if p.2.2 = [] then (if o.2.2 = [] then (if goOn p o then [(p.1, wrap64 (p.2.1 + o.2.1), p.2.2)] else [p, nrm o]) else [p, nrm o])
 else if o.2.2 = [] then [p, nrm o] else [(p.1, p.2.1, p.2.2 ++ o.2.2)]
/-- One op added to a row. -/
def addL (xs : List T3) (o : T3) : List T3 :=
 if o.2.2 = [] ∧ o.2.1 ≤ 0 then xs
 else match xs.getLast? with
  | none => [nrm o]
  | some p => xs.dropLast ++ join2 p o
theorem addL_nil (o : T3) (h : ¬ (o.2.2 = [] ∧ o.2.1 ≤ 0)) : addL [] o = [nrm o] := by unfold addL; rw [if_neg h]; rfl
theorem addL_snoc (ys : List T3) (p o : T3) (h : ¬ (o.2.2 = [] ∧ o.2.1 ≤ 0)) : addL (ys ++ [p]) o = ys ++ join2 p o := by
 unfold addL
 rw [if_neg h, List.getLast?_concat, List.dropLast_concat]
theorem snoc_cases {α : Type} (xs : List α) : xs = [] ∨ ∃ ys p, xs = ys ++ [p] := by
 rcases List.eq_nil_or_concat xs with h | ⟨ys, p, h⟩
 ·exact .inl h
 ·exact .inr ⟨ys, p, by rw [h, List.concat_eq_append]⟩
theorem add_calls (base : Nat) (ok : Nat → Prop) (g : Nat) (a b : Int) (A : Option Addr) (c : Nat) (l : List Int) (w : World) (xs : List T3) (hr : (Kd.int .u8).C w A l.length l) (hc : l.length ≤ c)
  (hB : Box base ok g w xs) (hbase : base ≤ w.heap.size) (hfresh : ∀ k, w.heap.size ≤ k → ok k) (hng : ¬ ok g) (hbg : base ≤ g) (hx : (xs.length + 1) * 40 ≤ 140737488355328) (hl0 : l.length < 140737488355328) (hpl : ∀ p ∈ xs, p.2.2.length + l.length < 140737488355328) :
  Calls Try.prog 52 #[.agg #[.int .i64 a, .int .i64 b, .slice A l.length c], .pointer (some ⟨g, 0, none⟩)] w fun e w' => e = .returned (.tuple #[]) ∧ Box base ok g w' (addL xs (a, b, l)) ∧ Kept w w' (fun k => ok k ∨ k = g) ∧ Below base w w' := by
 obtain ⟨v, hg, hS, hn⟩ := hB.row
 by_cases h0 : l = [] ∧ b ≤ 0
 ·have e : addL xs (a, b, l) = xs := by unfold addL; rw [if_pos h0]
  rw [e]
  exact add_A base ok g a b A c l w v xs hr hc hg hS hbase hfresh hng hx hbg h0.2 h0.1 hn
 ·rcases snoc_cases xs with rfl | ⟨ys, p, rfl⟩
  ·rw [addL_nil _ h0]
   by_cases hl : l = []
   ·have hb : 0 < b := by
     rcases Int.lt_or_le 0 b with h | h
     ·exact h
     ·exact absurd ⟨hl, h⟩ h0
    have e : nrm (a, b, l) = (a, b, l) := by unfold nrm; rw [if_pos hl]
    rw [e]
    exact add_C1 base ok g a b A c l w v [] hr hc hg hS hbase hfresh hng hx hbg hb hl (hn rfl) rfl
   ·have e : nrm (a, b, l) = (0, 0, l) := by unfold nrm; rw [if_neg hl]
    rw [e]
    exact add_B1 base ok g a b A c l w v [] hr hc hg hS hbase hfresh hng hx hbg (List.length_pos_iff.2 hl) hl0 (hn rfl) rfl
  ·rw [addL_snoc _ _ _ h0]
   obtain ⟨gr, cap, hv, _, _, _⟩ := Kd.S_form hS (by simp)
   have hv' : v = .slice (some ⟨gr, 0, none⟩) (ys.length + 1) cap := by rw [hv]; simp
   have hq := hpl p (by simp)
   by_cases hl : l = []
   ·have hb : 0 < b := by
     rcases Int.lt_or_le 0 b with h | h
     ·exact h
     ·exact absurd ⟨hl, h⟩ h0
    have e : nrm (a, b, l) = (a, b, l) := by unfold nrm; rw [if_pos hl]
    by_cases ht : p.2.2 = []
    ·have ht' : p.2.2.length = 0 := by rw [ht]; rfl
     by_cases hgo : goOn p (a, b, l)
     ·have e2 : join2 p (a, b, l) = [(p.1, wrap64 (p.2.1 + b), p.2.2)] := by
       unfold join2; rw [if_pos ht, if_pos hl, if_pos hgo]
      rw [e2]
      obtain ⟨q1, q2, q3, q4, q5⟩ := hgo
      exact add_C8 base ok g a b A c l w v _ hr hc hg hS hbase hfresh hng hx hbg hb hl ys p gr cap ys.length rfl hv' rfl ht' q1 q2 q3 q4 q5
     ·have e2 : ys ++ join2 p (a, b, l) = (ys ++ [p]) ++ [(a, b, l)] := by
       unfold join2; rw [if_pos ht, if_pos hl, if_neg hgo, e]; simp
      rw [e2]
      by_cases q1 : b ≤ 131072
      ·by_cases q2 : 0 ≤ p.1
       ·by_cases q3 : p.1 ≤ 131072
        ·by_cases q4 : p.2.1 ≤ wrap64 (131072 - p.1)
         ·have q5 : ¬ wrap64 (p.1 + p.2.1) = a := fun h => hgo ⟨q1, q2, q3, q4, h⟩
          exact add_C7 base ok g a b A c l w v _ hr hc hg hS hbase hfresh hng hx hbg hb hl ys p gr cap ys.length rfl hv' rfl ht' q1 q2 q3 q4 q5
         ·exact add_C6 base ok g a b A c l w v _ hr hc hg hS hbase hfresh hng hx hbg hb hl ys p gr cap ys.length rfl hv' rfl ht' q1 q2 q3 q4
        ·exact add_C5 base ok g a b A c l w v _ hr hc hg hS hbase hfresh hng hx hbg hb hl ys p gr cap ys.length rfl hv' rfl ht' q1 q2 q3
       ·exact add_C4 base ok g a b A c l w v _ hr hc hg hS hbase hfresh hng hx hbg hb hl ys p gr cap ys.length rfl hv' rfl ht' q1 q2
      ·exact add_C3 base ok g a b A c l w v _ hr hc hg hS hbase hfresh hng hx hbg hb hl ys p gr cap ys.length rfl hv' rfl ht' q1
    ·have e2 : ys ++ join2 p (a, b, l) = (ys ++ [p]) ++ [(a, b, l)] := by
      unfold join2; rw [if_neg ht, if_pos hl, e]; simp
     rw [e2]
     exact add_C2 base ok g a b A c l w v _ hr hc hg hS hbase hfresh hng hx hbg hb hl ys p gr cap ys.length rfl hv' rfl (List.length_pos_iff.2 ht)
   ·have e : nrm (a, b, l) = (0, 0, l) := by unfold nrm; rw [if_neg hl]
    by_cases ht : p.2.2 = []
    ·have e2 : ys ++ join2 p (a, b, l) = (ys ++ [p]) ++ [(0, 0, l)] := by
      unfold join2; rw [if_pos ht, if_neg hl, e]; simp
     rw [e2]
     exact add_B3 base ok g a b A c l w v _ hr hc hg hS hbase hfresh hng hx hbg (List.length_pos_iff.2 hl) hl0 ys p gr cap ys.length rfl hv' rfl (by rw [ht]; rfl)
    ·have e2 : join2 p (a, b, l) = [(p.1, p.2.1, p.2.2 ++ l)] := by
      unfold join2; rw [if_neg ht, if_neg hl]
     rw [e2]
     exact add_B2 base ok g a b A c l w v _ hr hc hg hS hbase hfresh hng hx hbg (List.length_pos_iff.2 hl) hl0 ys p gr cap ys.length rfl hv' rfl (List.length_pos_iff.2 ht) hq
set_option maxHeartbeats 8000000 in
set_option maxRecDepth 100000 in
/-- The row that is handed out at last. -/
theorem all_calls (g : Nat) (w : World) (v : Value) (hg : w.heap[g]? = some (.cells #[v] 34 (0, 0))) :
  Calls Try.prog 54 #[.pointer (some ⟨g, 0, none⟩)] w fun e w' => e = .returned v ∧ w' = w := by
 have hg0 : w.cell? ⟨g, 0, none⟩ = some v := (blk_cell hg 0).trans rfl
 clear hg
 go_enter Try.func54, Try.ntmps54
 go_wp2
 go_ret
 exact ⟨rfl, rfl⟩
set_option maxHeartbeats 8000000 in
set_option maxRecDepth 100000 in
theorem joiner_calls (w : World) :
  Calls Try.prog 32 #[] w fun e w' => ∃ g, g = w.heap.size ∧ e = .returned (.tuple #[.func (.func 52) #[] #[.pointer (some ⟨g, 0, none⟩)], .func (.func 54) #[] #[.pointer (some ⟨g, 0, none⟩)]]) ∧ w'.heap[g]? = some (.cells #[.slice none 0 0] 34 (0, 0)) ∧ Below w.heap.size w w' := by
 go_enter Try.func32, Try.ntmps32
 go_wp2_with (first | ((with_reducible refine gate_dst (N := 2) rfl ?_); refine box_event ?hg (N := 2) ?hd (cs := #[.slice none 0 0]) (t := 34) ?hr ?_; (case hd => rfl); (case hg => rfl); (case hr => first | (go_simp; done) | (go_simp; rfl)); intro gb hgb w2 hbox hb; have BG := Aside0.mk hbox; have HB := Aside0.mk hb; have HGW := Aside0.mk hgb; clear hgb hbox hb))
 refine bodyPost_ret (results_tmp2 rfl _ _ _) rfl ?_
 exact ⟨gb, HGW.out, rfl, BG.out, HB.out⟩
end Go.Proofs.Ytkihlcmjjoiccaa.Jn
