/- The joiner put together: its add, its all, itself; the row that comes of adding ops one by one. -/
import Derived.Test.YtkihlcmjjoiccaaJn2
import Derived.Test.YtkihlcmjjoiccaaJn4
namespace Go.Proofs.Ytkihlcmjjoiccaa.Jn
open Go.RowKit Go.Proofs.YtkihlcmjjoiccaaW.PrintWords Go.Proofs.YtkihlcmjjoiccaaW.PrintLast Go.Proofs.YtkihlcmjjoiccaaW.PrintMore
attribute [local go_sem] max2_int min2_int max_two min_two max_three min_three max_four min_four
set_option linter.unusedVariables false
set_option linter.unusedSimpArgs false
def nrm (o : T3) : T3 := if o.2.2 = [] then o else (0, 0, o.2.2)
/-- Does o go on behind p (p and o without bytes)? -/
def goOn (p o : T3) : Prop := o.2.1 ≤ 131072 ∧ 0 ≤ p.1 ∧ p.1 ≤ 131072 ∧ p.2.1 ≤ wrap64 (131072 - p.1) ∧ wrap64 (p.1 + p.2.1) = o.1
instance (p o : T3) : Decidable (goOn p o) := by unfold goOn; infer_instance
/-- One op behind another one. -/
def join2 (p o : T3) : List T3 :=
 if p.2.2 = [] then (if o.2.2 = [] then (if goOn p o then [(p.1, wrap64 (p.2.1 + o.2.1), p.2.2)] else [p, nrm o]) else [p, nrm o])
 else if o.2.2 = [] then [p, nrm o] else [(p.1, p.2.1, p.2.2 ++ o.2.2)]
/-- One op added to a row. -/
def addL (xs : List T3) (o : T3) : List T3 :=
 if o.2.2 = [] ∧ o.2.1 ≤ 0 then xs
 else match xs.getLast? with
  | none => [nrm o]
  | some p => xs.dropLast ++ join2 p o
theorem addL_nil (o : T3) (h : ¬ (o.2.2 = [] ∧ o.2.1 ≤ 0)) : addL [] o = [nrm o] := by unfold addL; rw [if_neg h]; rfl
theorem addL_snoc (ys : List T3) (p o : T3) (h : ¬ (o.2.2 = [] ∧ o.2.1 ≤ 0)) : addL (ys ++ [p]) o = ys ++ join2 p o := by
 unfold addL
 rw [if_neg h, List.getLast?_concat, List.dropLast_concat]
theorem snoc_cases {α : Type} (xs : List α) : xs = [] ∨ ∃ ys p, xs = ys ++ [p] := by
 rcases List.eq_nil_or_concat xs with h | ⟨ys, p, h⟩
 ·exact .inl h
 ·exact .inr ⟨ys, p, by rw [h, List.concat_eq_append]⟩
/-- An op that tells bytes, or copies some of a basis. -/
def okO (o : T3) : Prop := o.2.2 ≠ [] ∨ (0 ≤ o.1 ∧ 1 ≤ o.2.1 ∧ o.1 + o.2.1 ≤ 131072)
instance (o : T3) : Decidable (okO o) := by unfold okO; infer_instance
def can (xs : List T3) (o : T3) : Prop := okO o ∧ ∀ p ∈ xs, okO p
theorem okO_nrm {o : T3} (h : okO o) : okO (nrm o) := by
 unfold nrm
 split
 ·exact h
 ·next h2 => exact Or.inl h2
theorem okO_join {p o : T3} (hp : okO p) (ho : okO o) : ∀ q ∈ join2 p o, okO q := by
 have two : ∀ q ∈ [p, nrm o], okO q := fun q hq => by
  simp only [List.mem_cons, List.not_mem_nil, or_false] at hq
  rcases hq with rfl | rfl
  ·exact hp
  ·exact okO_nrm ho
 unfold join2
 by_cases h1 : p.2.2 = []
 ·rw [if_pos h1]
  by_cases h2 : o.2.2 = []
  ·rw [if_pos h2]
   by_cases h3 : goOn p o
   ·rw [if_pos h3]
    intro q hq
    rw [List.mem_singleton.1 hq]
    obtain ⟨p1, p2, p3⟩ := hp.resolve_left (fun h => h h1)
    obtain ⟨o1, o2, o3⟩ := ho.resolve_left (fun h => h h2)
    have h5 := h3.2.2.2.2
    refine Or.inr ⟨p1, ?_, ?_⟩
    ·show 1 ≤ wrap64 (p.2.1 + o.2.1)
     unfold wrap64 at h5 ⊢; omega
    ·show p.1 + wrap64 (p.2.1 + o.2.1) ≤ 131072
     unfold wrap64 at h5 ⊢; omega
   ·rw [if_neg h3]; exact two
  ·rw [if_neg h2]; exact two
 ·rw [if_neg h1]
  by_cases h2 : o.2.2 = []
  ·rw [if_pos h2]; exact two
  ·rw [if_neg h2]
   intro q hq
   rw [List.mem_singleton.1 hq]
   exact Or.inl (fun h => h1 (List.append_eq_nil_iff.1 h).1)
theorem okO_add {xs : List T3} {o : T3} (hx : ∀ p ∈ xs, okO p) (ho : okO o) : ∀ p ∈ addL xs o, okO p := by
 by_cases h0 : o.2.2 = [] ∧ o.2.1 ≤ 0
 ·unfold addL; rw [if_pos h0]; exact hx
 ·rcases snoc_cases xs with rfl | ⟨ys, p, rfl⟩
  ·rw [addL_nil _ h0]
   intro q hq
   rw [List.mem_singleton.1 hq]
   exact okO_nrm ho
  ·rw [addL_snoc _ _ _ h0]
   intro q hq
   rcases List.mem_append.1 hq with h | h
   ·exact hx q (by simp [h])
   ·exact okO_join (hx p (by simp)) ho q h
theorem okO_fold : ∀ (l xs : List T3), (∀ p ∈ xs, okO p) → (∀ o ∈ l, okO o) → ∀ p ∈ l.foldl addL xs, okO p
 | [], _, hx, _ => hx
 | o :: l, xs, hx, hl => okO_fold l (addL xs o) (okO_add hx (hl o List.mem_cons_self)) (fun p hp => hl p (List.mem_cons_of_mem _ hp))
theorem can_all {l : List T3} (h : ∀ o ∈ l, okO o) : ∀ i (hi : i < l.length), can ((l.take i).foldl addL []) l[i] := fun i hi =>
 ⟨h _ (List.getElem_mem hi), okO_fold _ [] (fun _ h => (List.not_mem_nil h).elim) (fun o ho => h o (List.mem_of_mem_take ho))⟩
theorem add_calls (base : Nat) (ok : Nat → Prop) (g : Nat) (a b : Int) (A : Option Addr) (c : Nat) (l : List Int) (w : World) (xs : List T3) (hr : (Kd.int .u8).C w A l.length l) (hc : l.length ≤ c)
  (hB : Box base ok g w xs) (hbase : base ≤ w.heap.size) (hfresh : ∀ k, w.heap.size ≤ k → ok k) (hng : ¬ ok g) (hbg : base ≤ g) (hx : (xs.length + 1) * 40 ≤ 140737488355328) (hl0 : l.length < 140737488355328) (hpl : ∀ p ∈ xs, p.2.2.length + l.length < 140737488355328) (hcan : can xs (a, b, l)) :
  Calls Try.prog 52 #[.agg #[.int .i64 a, .int .i64 b, .slice A l.length c], .pointer (some ⟨g, 0, none⟩)] w fun e w' => e = .returned (.tuple #[]) ∧ Box base ok g w' (addL xs (a, b, l)) ∧ Kept w w' (fun k => ok k ∨ k = g) ∧ Below base w w' := by
 have hoo : l ≠ [] ∨ (0 ≤ a ∧ 1 ≤ b ∧ a + b ≤ 131072) := hcan.1
 obtain ⟨v, hg, hS, hn⟩ := hB.row
 by_cases h0 : l = [] ∧ b ≤ 0
 ·have e : addL xs (a, b, l) = xs := by unfold addL; rw [if_pos h0]
  rw [e]
  exact absurd h0.2 (by have := hoo.resolve_left (fun h => h h0.1); omega)
 ·rcases snoc_cases xs with rfl | ⟨ys, p, rfl⟩
  ·rw [addL_nil _ h0]
   by_cases hl : l = []
   ·have hb : 0 < b := by
     rcases Int.lt_or_le 0 b with h | h
     ·exact h
     ·exact absurd ⟨hl, h⟩ h0
    have e : nrm (a, b, l) = (a, b, l) := by unfold nrm; rw [if_pos hl]
    rw [e]
    exact add_C1 base ok g a b A c l w v [] hr hc hg hS hbase hfresh hng hx hbg hb hl (hn rfl) rfl
   ·have e : nrm (a, b, l) = (0, 0, l) := by unfold nrm; rw [if_neg hl]
    rw [e]
    exact add_B1 base ok g a b A c l w v [] hr hc hg hS hbase hfresh hng hx hbg (List.length_pos_iff.2 hl) hl0 (hn rfl) rfl
  ·rw [addL_snoc _ _ _ h0]
   obtain ⟨gr, cap, hv, _, _, _⟩ := Kd.S_form hS (by simp)
   have hv' : v = .slice (some ⟨gr, 0, none⟩) (ys.length + 1) cap := by rw [hv]; simp
   have hq := hpl p (by simp)
   have hpp : p.2.2 ≠ [] ∨ (0 ≤ p.1 ∧ 1 ≤ p.2.1 ∧ p.1 + p.2.1 ≤ 131072) := hcan.2 p (by simp)
   by_cases hl : l = []
   ·have hb : 0 < b := by
     rcases Int.lt_or_le 0 b with h | h
     ·exact h
     ·exact absurd ⟨hl, h⟩ h0
    have e : nrm (a, b, l) = (a, b, l) := by unfold nrm; rw [if_pos hl]
    by_cases ht : p.2.2 = []
    ·have ht' : p.2.2.length = 0 := by rw [ht]; rfl
     by_cases hgo : goOn p (a, b, l)
     ·have e2 : join2 p (a, b, l) = [(p.1, wrap64 (p.2.1 + b), p.2.2)] := by
       unfold join2; rw [if_pos ht, if_pos hl, if_pos hgo]
      rw [e2]
      obtain ⟨q1, q2, q3, q4, q5⟩ := hgo
      exact add_C8 base ok g a b A c l w v _ hr hc hg hS hbase hfresh hng hx hbg hb hl ys p gr cap ys.length rfl hv' rfl ht' q1 q2 q3 q4 q5
     ·have e2 : ys ++ join2 p (a, b, l) = (ys ++ [p]) ++ [(a, b, l)] := by
       unfold join2; rw [if_pos ht, if_pos hl, if_neg hgo, e]; simp
      rw [e2]
      by_cases q1 : b ≤ 131072
      ·by_cases q2 : 0 ≤ p.1
       ·by_cases q3 : p.1 ≤ 131072
        ·by_cases q4 : p.2.1 ≤ wrap64 (131072 - p.1)
         ·have q5 : ¬ wrap64 (p.1 + p.2.1) = a := fun h => hgo ⟨q1, q2, q3, q4, h⟩
          exact add_C7 base ok g a b A c l w v _ hr hc hg hS hbase hfresh hng hx hbg hb hl ys p gr cap ys.length rfl hv' rfl ht' q1 q2 q3 q4 q5
         ·exact absurd (show p.2.1 ≤ wrap64 (131072 - p.1) by have := hpp.resolve_left (fun h => h ht); unfold wrap64; omega) q4
        ·exact absurd (show p.1 ≤ 131072 by have := hpp.resolve_left (fun h => h ht); omega) q3
       ·exact absurd (show 0 ≤ p.1 by have := hpp.resolve_left (fun h => h ht); omega) q2
      ·exact absurd (show b ≤ 131072 by have := hoo.resolve_left (fun h => h hl); omega) q1
    ·have e2 : ys ++ join2 p (a, b, l) = (ys ++ [p]) ++ [(a, b, l)] := by
      unfold join2; rw [if_neg ht, if_pos hl, e]; simp
     rw [e2]
     exact add_C2 base ok g a b A c l w v _ hr hc hg hS hbase hfresh hng hx hbg hb hl ys p gr cap ys.length rfl hv' rfl (List.length_pos_iff.2 ht)
   ·have e : nrm (a, b, l) = (0, 0, l) := by unfold nrm; rw [if_neg hl]
    by_cases ht : p.2.2 = []
    ·have e2 : ys ++ join2 p (a, b, l) = (ys ++ [p]) ++ [(0, 0, l)] := by
      unfold join2; rw [if_pos ht, if_neg hl, e]; simp
     rw [e2]
     exact add_B3 base ok g a b A c l w v _ hr hc hg hS hbase hfresh hng hx hbg (List.length_pos_iff.2 hl) hl0 ys p gr cap ys.length rfl hv' rfl (by rw [ht]; rfl)
    ·have e2 : join2 p (a, b, l) = [(p.1, p.2.1, p.2.2 ++ l)] := by
      unfold join2; rw [if_neg ht, if_neg hl]
     rw [e2]
     exact add_B2 base ok g a b A c l w v _ hr hc hg hS hbase hfresh hng hx hbg (List.length_pos_iff.2 hl) hl0 ys p gr cap ys.length rfl hv' rfl (List.length_pos_iff.2 ht) hq
set_option maxHeartbeats 8000000 in
set_option maxRecDepth 100000 in
/-- The row that is handed out at last. -/
theorem all_calls (g : Nat) (w : World) (v : Value) (hg : w.heap[g]? = some (.cells #[v] 34 (0, 0))) :
  Calls Try.prog 54 #[.pointer (some ⟨g, 0, none⟩)] w fun e w' => e = .returned v ∧ w' = w := by
 have hg0 : w.cell? ⟨g, 0, none⟩ = some v := (blk_cell hg 0).trans rfl
 clear hg
 go_enter Try.func54, Try.ntmps54
 go_wp2
 go_ret
 exact ⟨rfl, rfl⟩
set_option maxHeartbeats 8000000 in
set_option maxRecDepth 100000 in
theorem joiner_calls (w : World) :
  Calls Try.prog 32 #[] w fun e w' => ∃ g, g = w.heap.size ∧ e = .returned (.tuple #[.func (.func 52) #[] #[.pointer (some ⟨g, 0, none⟩)], .func (.func 54) #[] #[.pointer (some ⟨g, 0, none⟩)]]) ∧ w'.heap[g]? = some (.cells #[.slice none 0 0] 34 (0, 0)) ∧ Below w.heap.size w w' := by
 go_enter Try.func32, Try.ntmps32
 go_wp2_with (first | ((with_reducible refine gate_dst (N := 2) rfl ?_); refine box_event ?hg (N := 2) ?hd (cs := #[.slice none 0 0]) (t := 34) ?hr ?_; (case hd => rfl); (case hg => rfl); (case hr => first | (go_simp; done) | (go_simp; rfl)); intro gb hgb w2 hbox hb; have BG := Aside0.mk hbox; have HB := Aside0.mk hb; have HGW := Aside0.mk hgb; clear hgb hbox hb))
 refine bodyPost_ret (results_tmp2 rfl _ _ _) rfl ?_
 exact ⟨gb, HGW.out, rfl, BG.out, HB.out⟩
end Go.Proofs.Ytkihlcmjjoiccaa.Jn
