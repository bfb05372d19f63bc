-- Written by a program of this session (the kit's printer with hand-written contracts among its functions).
-- squeezed
import Derived.Test.YtkihlcmjjoiccaaPMatchCostsx0
import Derived.Test.YtkihlcmjjoiccaaPMatchCostsx6
import Derived.Test.YtkihlcmjjoiccaaPMatchCostsx11
import Derived.Test.YtkihlcmjjoiccaaRq
namespace Go.Proofs.Ytkihlcmjjoiccaa.PMatchCosts
open Go.RowKit Go.Proofs.YtkihlcmjjoiccaaW.PrintWords Go.Proofs.YtkihlcmjjoiccaaW.PrintLast Go.Proofs.YtkihlcmjjoiccaaW.PrintMore
attribute [local go_sem] max2_int min2_int max_two min_two max_three min_three max_four min_four   -- for this text's walks alone
set_option linter.unusedVariables false
set_option linter.unusedSimpArgs false

def rn.T10 : Bool × List (List Nat × List Nat) := (true, [([], []), ([0], [0]), ([1], [1]), ([2], [2]), ([2], [2]), ([3, 4, 2], [2, 3, 4]), ([5, 2], [2, 5]), ([2], [2]), ([6, 7, 2, 2], [2, 6, 7]), ([8, 2], [2, 8]), ([2, 9], [2, 9])])
def rn.B10 : List Nat := [0, 1, 3, 7, 7, 31, 63, 7, 255, 511, 1023]
theorem rn.tab10 : rtab .any (opsOf Try.f17 10) = rn.T10 := by kernel_rfl
theorem rn.bits10 : waitsOk rn.T10.2 rn.B10 = true := by kernel_rfl
def rn.T13 : Bool × List (List Nat × List Nat) := (true, [([], []), ([], []), ([], []), ([], []), ([2, 3], [2, 3]), ([4], [4]), ([5], [5]), ([], []), ([7], [7]), ([6, 8], [6, 8]), ([0, 1, 0, 1, 2, 3, 4, 5, 6, 7, 8, 9], [0, 1]), ([10, 0, 1, 2, 3, 4, 5, 6, 7, 8, 9], [10]), ([11, 9, 9, 0, 1, 2, 3, 4, 5, 6, 7, 8, 9], [9, 11])])
def rn.B13 : List Nat := [0, 0, 0, 0, 12, 28, 60, 0, 128, 508, 1023, 2047, 4095]
theorem rn.tab13 : rtab .any (opsOf Try.f17 13) = rn.T13 := by kernel_rfl
theorem rn.bits13 : waitsOk rn.T13.2 rn.B13 = true := by kernel_rfl
def rn.T14 : Bool × List (List Nat × List Nat) := (true, [([], []), ([], []), ([], []), ([], []), ([2, 3], [2, 3]), ([4], [4]), ([5], [5]), ([], []), ([7], [7]), ([6, 8], [6, 8]), ([0, 1, 0, 1, 2, 3, 4, 5, 6, 7, 8, 9], [0, 1]), ([10, 0, 1, 2, 3, 4, 5, 6, 7, 8, 9], [10]), ([11, 9, 0, 1, 2, 3, 4, 5, 6, 7, 8, 9], [9, 11])])
def rn.B14 : List Nat := [0, 0, 0, 0, 12, 28, 60, 0, 128, 508, 1023, 2047, 4095]
theorem rn.tab14 : rtab .any (opsOf Try.f17 14) = rn.T14 := by kernel_rfl
theorem rn.bits14 : waitsOk rn.T14.2 rn.B14 = true := by kernel_rfl
def rMuch (xs : List Jn.T3) : Prop := ¬ (xs.length ≤ 900000 ∧ Jn.wt xs ≤ 900000000)
instance (xs : List Jn.T3) : Decidable (rMuch xs) := by unfold rMuch; infer_instance
def addR (xs : List Jn.T3) (o : S47) : Option (List Jn.T3) :=
 (remoraref08_Length.f o.f0 o.f1 o.f2).bind fun n => if n = 0 then some xs else match xs.getLast? with
  | none => some [Jn.nrm (toT o)]
  | some p => (remoraref08_Goes.f p.1 p.2.1 p.2.2 (Jn.nrm (toT o)).1 (Jn.nrm (toT o)).2.1 (Jn.nrm (toT o)).2.2).bind fun t => if t = true then (if o.f2 = [] then some (xs.dropLast ++ [(p.1, wrap64 (p.2.1 + o.f1), p.2.2)]) else some (xs.dropLast ++ [(p.1, p.2.1, p.2.2 ++ o.f2)])) else some (xs ++ [Jn.nrm (toT o)])
def rnormL : List (S47) → List Jn.T3 → Option (List Jn.T3)
 | [], acc => some acc
 | o :: l, acc => if rMuch acc ∨ 1000000 < o.f2.length then none else (addR acc o).bind (rnormL l)
def remoraref08_Norm.f (l0 : List (S47)) : Option (List (S47)) := if 1000000 < l0.length then none else (rnormL l0 []).bind fun out => some (out.map ofT)
set_option maxHeartbeats 16000000 in
set_option maxRecDepth 100000 in
theorem remoraref08_Norm.calls (A0 : Option Addr) (c0 : Nat) (l0 : List (S47)) (r : List (S47)) (w : World) (hr0 : Kd.C k47 w A0 l0.length l0) (hc0 : l0.length ≤ c0) (h : remoraref08_Norm.f l0 = some r) :
    Calls Try.prog 17 #[.slice A0 l0.length c0] w fun e w' => ∃ v0_ : Value, e = .returned v0_ ∧ Kd.N k47 47 w' w.heap.size (fun k_ => (w.heap.size ≤ k_)) v0_ r ∧ Below w.heap.size w w' := by
 unfold remoraref08_Norm.f at h
 by_cases q3 : 1000000 < l0.length
 ·rw [if_pos q3] at h; cases h
 rw [if_neg q3] at h
 replace h := Option.bind_eq_some_iff.mp h
 obtain ⟨out, hOUT, h⟩ := h
 obtain rfl := Option.some.inj h
 have HL1 := zA (show l0.length ≤ 1000000 by omega)
 have HOUT := zA hOUT
 have HR := zA hr0
 clear hOUT h q3 hr0 hc0
 go_enter Try.func17, Try.ntmps17
 go_wp2
 go_loopg [3, 4] l0.length (fun kq v3 v4 w' => ∃ (v : Value) (i : Nat) (acc : List Jn.T3), v = v3 ∧ v4 = .int .i64 (i : Int) ∧ Aside0 (i + kq = l0.length) ∧ Aside0 (rnormL (l0.drop i) acc = some out) ∧ Aside0 (Kd.S Jn.kJ 47 w' w.heap.size (fun k_ => w.heap.size ≤ k_) v acc) ∧ Aside0 (Below w.heap.size w w') ∧ Aside0 (acc = [] → v = .slice none 0 0))
 case atStart => exact ⟨_, 0, [], rfl, rfl, ⟨by omega⟩, ⟨by rw [List.drop_zero]; exact HOUT.out⟩, ⟨Kd.S_nil _ _ _ _ _⟩, ⟨Below.refl _ _⟩, ⟨fun _ => rfl⟩⟩
 case round =>
  clear HOUT
  obtain ⟨v, i, acc, rfl, rfl, HI, HTH, HS, HB, HNIL⟩ := hrel
  by_cases hi : i < l0.length
  ·obtain ⟨n1, hn1⟩ : ∃ n1, gk = n1 + 1 := ⟨gk - 1, by have := HI.out; omega⟩
   subst hn1
   have ht : decide ((i : Int) < (l0.length : Int)) = true := zd1 (by omega)
   have htN : decide (i < l0.length) = true := zd1 hi
   have hi1 := eq_true hi
   have hi2 := eq_true (show (0 : Int) ≤ (i : Int) by omega)
   have hi3 := eq_true (show (i : Int) < (l0.length : Int) by omega)
   have hw1 : wrap64 ((i : Int) + 1) = ((i + 1 : Nat) : Int) := by have := HL1.out; unfold wrap64; omega
   have hT := HTH.out
   rw [List.drop_eq_getElem_cons hi] at hT
   obtain ⟨ad, A2, c2, e, hx0, hx1, hx2, hl2, hR2⟩ := at_T47 HR.out (i : Int) (by omega) (by omega)
   subst e
   have hrd : rd_T47 l0 (i : Int) = l0[i] := by unfold rd_T47; rw [Int.toNat_natCast, List.getD_eq_getElem?_getD, List.getElem?_eq_getElem hi, Option.getD_some]
   rw [hrd] at hx0 hx1 hx2 hl2 hR2
   rw [Int.toNat_natCast] at hx0 hx1 hx2
   replace hx0 := (HB.out.cell (World.block_lt_of_cell? w _ hx0)).trans hx0
   replace hx1 := (HB.out.cell (World.block_lt_of_cell? w _ hx1)).trans hx1
   replace hx2 := (HB.out.cell (World.block_lt_of_cell? w _ hx2)).trans hx2
   obtain ⟨o, ho⟩ : ∃ o : S47, o = l0[i] := ⟨_, rfl⟩
   rw [← ho] at hx0 hx1 hx2 hl2 hR2 hT
   have HR2 := zA hR2
   have HC2 := zA hl2
   rw [rnormL] at hT
   by_cases hmm : rMuch acc ∨ 1000000 < o.f2.length
   ·rw [if_pos hmm] at hT; cases hT
   rw [if_neg hmm] at hT
   have HM : Aside0 ((acc.length ≤ 900000 ∧ Jn.wt acc ≤ 900000000) ∧ o.f2.length ≤ 1000000) := ⟨⟨Classical.byContradiction fun h => hmm (.inl h), by
    rcases Nat.lt_or_ge 1000000 o.f2.length with h | h
    ·exact absurd (.inr h) hmm
    ·exact h⟩⟩
   have HX : Aside0 ((acc.length + 1) * 40 ≤ 140737488355328) := ⟨by have := HM.out; omega⟩
   obtain ⟨n0, hn0⟩ : ∃ n, n = wr.heap.size := ⟨_, rfl⟩
   have HN0 := zA hn0
   have HNW := zA (show w.heap.size ≤ n0 by rw [hn0]; exact HB.out.size)
   replace HS : Aside0 (Kd.S Jn.kJ 47 wr w.heap.size (fun k_ => w.heap.size ≤ k_ ∧ k_ < n0) v acc) := ⟨Kd.S_mono (Kd.S_bound HS.out) (fun k_ h => ⟨h.1, by rw [hn0]; exact h.2.2.1⟩)⟩
   replace hT := Option.bind_eq_some_iff.mp hT
   obtain ⟨acc', hADD, hT3⟩ := hT
   have HT3 := zA hT3
   unfold addR at hADD
   replace hADD := Option.bind_eq_some_iff.mp hADD
   obtain ⟨nn, hLN, hADD⟩ := hADD
   have HLN := zA hLN
   clear hl2 hR2 ho hrd hmm hn0 hT3 hLN HTH hi
   by_cases hz : nn = 0
   ·subst hz
    rw [if_pos rfl] at hADD
    obtain rfl := Option.some.inj hADD
    clear hADD
    go_wp2_with (first
     | ((with_reducible refine gate_dst (N := 5) rfl ?_); refine box_event ?hg (N := 5) ?hd (cs := #[.int .i64 0, .int .i64 0, .slice none 0 0]) (t := 47) ?hr ?_; (case hd => rfl); (case hg => rfl); (case hr => first | (go_simp; done) | (go_simp; rfl)); intro gb hgb w2 hbox hb; have HGB := zA (Nat.le_of_eq (HN0.out.trans hgb.symm)); replace HS := zA (Kd.S_below HS.out hb); replace HB := zA (zb5 HB.out hb); have BO := zA hbox; clear hbox hb hgb)
     | (refine Jn.store_event rfl rfl 47 (.tmp 5) (.tmp 16) rfl (g := gb) (j := 0) (e := 47) (cs := #[.int .i64 0, .int .i64 0, .slice none 0 0]) (cs' := #[.int .i64 o.f0, .int .i64 o.f1, .slice A2 o.f2.length c2]) (u := .agg #[.int .i64 o.f0, .int .i64 o.f1, .slice A2 o.f2.length c2]) (seg := [.int .i64 o.f0, .int .i64 o.f1, .slice A2 o.f2.length c2]) rfl rfl rfl Jn.inf47 ?so BO.out (Nat.le_refl _) ?sc ?_; (case so => intro q hq; simp only [List.mem_cons, List.not_mem_nil, or_false] at hq; rcases hq with rfl | rfl | rfl <;> rfl); (case sc => exact blk_put (blk_put (blk_put BO.out 0 _ rfl) 1 _ rfl) 2 _ rfl); intro w3 hb3 hg; replace HS := zA (Kd.S_grown HS.out hg (fun k_ hk e => by injection e with e; have := hk.2; have := HGB.out; omega)); replace HB := zA (Jn.belowG HB.out hg HB.out.size (fun k_ hk => by injection hk with hk; have := HGB.out; have := HNW.out; omega)); replace BO := zA hb3; have ho0 : w3.cell? ⟨gb, 0, none⟩ = some (.int .i64 o.f0) := (zc1 hb3 0).trans rfl; have ho1 : w3.cell? ⟨gb, 1, none⟩ = some (.int .i64 o.f1) := (zc1 hb3 1).trans rfl; have ho2 : w3.cell? ⟨gb, 2, none⟩ = some (.slice A2 o.f2.length c2) := (zc1 hb3 2).trans rfl; replace hx0 := trivial; replace hx1 := trivial; replace hx2 := trivial; clear hb3 hg)
     | ((with_reducible refine gate_dst (N := 18) rfl ?_); refine goesL_ (some 18) rfl rfl Try.func29 (by kernel_rfl) rfl #[.agg #[.int .i64 o.f0, .int .i64 o.f1, .slice A2 o.f2.length c2]] rfl (by (try simp only [zm1, zm2, zm3]); first | done | rfl) ?_; refine (remoraref08_Length.calls o.f0 o.f1 A2 c2 o.f2 0 _ (Kd.C_below HR2.out HB.out) HC2.out HLN.out).mono ?_; rintro e w' ⟨rfl, hb⟩; refine ⟨_, rfl, ?_⟩; replace HS := zA (Kd.S_below HS.out hb); replace HB := zA (zb5 HB.out hb); replace BO := zA (zc6 BO.out hb); replace ho0 := Jn.cellB hb ho0; replace ho1 := Jn.cellB hb ho1; replace ho2 := Jn.cellB hb ho2; clear hb))
    go_roundg n1
    case measure => omega
    case rel => exact ⟨v, i + 1, acc, (by first | rfl | (simp; done) | (simp [*]; done)), (by first | rfl | (simp; done) | (simp [*]; done)), ⟨by have := HI.out; omega⟩, HT3, ⟨Kd.S_mono HS.out (fun k_ hk => hk.1)⟩, HB, HNIL⟩
   ·rw [if_neg hz] at hADD
    have hzb : (nn == 0) = false := beq_eq_false_iff_ne.mpr hz
    clear hz
    rcases Jn.snoc_cases acc with rfl | ⟨ys, p, rfl⟩
    ·have hADD2 : some [Jn.nrm (toT o)] = some acc' := hADD
     obtain rfl := Option.some.inj hADD2
     obtain rfl := HNIL.out rfl
     clear hADD hADD2 HNIL
     go_upto_region 7 with (first
      | ((with_reducible refine gate_dst (N := 5) rfl ?_); refine box_event ?hg (N := 5) ?hd (cs := #[.int .i64 0, .int .i64 0, .slice none 0 0]) (t := 47) ?hr ?_; (case hd => rfl); (case hg => rfl); (case hr => first | (go_simp; done) | (go_simp; rfl)); intro gb hgb w2 hbox hb; have HGB := zA (Nat.le_of_eq (HN0.out.trans hgb.symm)); replace HS := zA (Kd.S_below HS.out hb); replace HB := zA (zb5 HB.out hb); have BO := zA hbox; clear hbox hb hgb)
      | (refine Jn.store_event rfl rfl 47 (.tmp 5) (.tmp 16) rfl (g := gb) (j := 0) (e := 47) (cs := #[.int .i64 0, .int .i64 0, .slice none 0 0]) (cs' := #[.int .i64 o.f0, .int .i64 o.f1, .slice A2 o.f2.length c2]) (u := .agg #[.int .i64 o.f0, .int .i64 o.f1, .slice A2 o.f2.length c2]) (seg := [.int .i64 o.f0, .int .i64 o.f1, .slice A2 o.f2.length c2]) rfl rfl rfl Jn.inf47 ?so BO.out (Nat.le_refl _) ?sc ?_; (case so => intro q hq; simp only [List.mem_cons, List.not_mem_nil, or_false] at hq; rcases hq with rfl | rfl | rfl <;> rfl); (case sc => exact blk_put (blk_put (blk_put BO.out 0 _ rfl) 1 _ rfl) 2 _ rfl); intro w3 hb3 hg; replace HS := zA (Kd.S_grown HS.out hg (fun k_ hk e => by injection e with e; have := hk.2; have := HGB.out; omega)); replace HB := zA (Jn.belowG HB.out hg HB.out.size (fun k_ hk => by injection hk with hk; have := HGB.out; have := HNW.out; omega)); replace BO := zA hb3; have ho0 : w3.cell? ⟨gb, 0, none⟩ = some (.int .i64 o.f0) := (zc1 hb3 0).trans rfl; have ho1 : w3.cell? ⟨gb, 1, none⟩ = some (.int .i64 o.f1) := (zc1 hb3 1).trans rfl; have ho2 : w3.cell? ⟨gb, 2, none⟩ = some (.slice A2 o.f2.length c2) := (zc1 hb3 2).trans rfl; replace hx0 := trivial; replace hx1 := trivial; replace hx2 := trivial; clear hb3 hg)
      | ((with_reducible refine gate_dst (N := 18) rfl ?_); refine goesL_ (some 18) rfl rfl Try.func29 (by kernel_rfl) rfl #[.agg #[.int .i64 o.f0, .int .i64 o.f1, .slice A2 o.f2.length c2]] rfl (by (try simp only [zm1, zm2, zm3]); first | done | rfl) ?_; refine (remoraref08_Length.calls o.f0 o.f1 A2 c2 o.f2 nn _ (Kd.C_below HR2.out HB.out) HC2.out HLN.out).mono ?_; rintro e w' ⟨rfl, hb⟩; refine ⟨_, rfl, ?_⟩; replace HS := zA (Kd.S_below HS.out hb); replace HB := zA (zb5 HB.out hb); replace BO := zA (zc6 BO.out hb); replace ho0 := Jn.cellB hb ho0; replace ho1 := Jn.cellB hb ho1; replace ho2 := Jn.cellB hb ho2; clear hb))
     by_cases hE : o.f2 = []
     ·have HE := zA hE
      have hg0 : decide (0 < (o.f2.length : Int)) = false := by rw [hE]; rfl
      have hg1 : decide (0 < o.f2.length) = false := by rw [hE]; rfl
      have e1 : Jn.nrm (toT o) = (o.f0, o.f1, o.f2) := by unfold Jn.nrm; rw [if_pos (show (toT o).2.2 = [] from hE)]; rfl
      rw [e1] at HT3
      have hm1 : wrap64 (-1) = -1 := by unfold wrap64; decide
      clear hE e1
      go_wp2
      have hb := below_drew (Below.refl w'.heap.size w')
      replace HS := zA (Kd.S_below HS.out hb); replace HB := zA (zb5 HB.out hb); replace BO := zA (zc6 BO.out hb); replace ho0 := Jn.cellB hb ho0; replace ho1 := Jn.cellB hb ho1; replace ho2 := Jn.cellB hb ho2; clear hb
      refine start_ (n := 11) (S := (fun W => W.cell? ⟨gb, 0, none⟩ = some (.int .i64 o.f0))) (ds := []) (qq 11 0) (by kernel_rfl) rfl (by kernel_rfl) ho0 (fun hHeld => ?_)
      refine with_tabW rn.tab10 rn.bits10 (fun HT_ HW_ => ?_)
      generalize w'.drew = w9 at HB HS BO ho0 ho1 ho2 hHeld ⊢
      refine ord_ [(0, 0, 1), (0, 1, 3), (0, 2, 7), (1, 3, 15), (1, 4, 31), (1, 5, 63), (1, 6, 127), (1, 7, 255), (1, 8, 511), (1, 9, 1023), (0, 10, 2047)] ?_
      repeat (first | (refine kk_ 0 ?_; refine oP_ (v := ?_) (a' := ?_) HT_ rfl rfl (by kernel_rfl) (fun _ _ _ h => h) (Or.inl ⟨by rfl, ?_⟩) ?_ ?_; rotate_left; (intro w'; go_simp; with_reducible rfl); rotate_left; (simp only [Act.put, Jn.s1, Jn.s2, Jn.s3, i64_w, i32_w]; rfl)) | (refine kk_ 1 ?_; refine oP_ (v := undef) (a' := ?_) HT_ rfl rfl (by kernel_rfl) (fun _ _ _ h => h) (Or.inr ⟨by rfl, rfl⟩) ?_ ?_; rotate_left; (simp only [Act.put, Jn.s1, Jn.s2, Jn.s3, i64_w, i32_w]; rfl)))
      refine oend_ ?_
      refine done_ (done_of HT_.out (by kernel_rfl)) ?_
      go_wp2_with (first
       | ((with_reducible refine gate_dst (N := 46) rfl ?_); (with_reducible refine gate_builtin (b := .append) (xs := #[.tmp 43, .tmp 45]) rfl ?_); at_builtin; refine Kd.S_append Jn.kJ (w0 := w) w.heap.size rfl (.tmp 43) (.tmp 45) 34 47 (.agg #[(.int .i64 0), (.int .i64 0), (.slice none 0 0)]) 40 rfl Try.underlying34 Jn.info47 rfl (by decide) (by omega) (.slice none 0 0) ([] : List Jn.T3) ((o.f0, o.f1, o.f2) : Jn.T3) [.int .i64 o.f0, .int .i64 o.f1, .slice A2 o.f2.length c2] (fun k_ => w.heap.size ≤ k_) (fun _ => False) rfl rfl ?aP ?aQ ?aF ?aO ?aB ?aS ?aL ?_; (case aP => exact Jn.kJ_mk0' HE.out _ _ _ _ _ _ _); (case aQ => exact fun k_ hk => hk.elim); (case aF => exact fun k_ hk => Nat.le_trans HB.out.size hk); (case aO => exact Kd.S_mono HS.out (fun k_ hk => ⟨hk.1, fun h => h⟩)); (case aB => exact HB.out); (case aS => exact HB.out.size); (case aL => have := HX.out; omega); intro v1 w1 hs1 hb1 hg1 hat; have HS2 := zA hs1; replace HB := zA hb1; replace ho0 := trivial; replace ho1 := trivial; replace ho2 := trivial; clear hs1 hb1 hg1 hat))
      go_roundg n1
      case measure => omega
      case rel => exact ⟨v1, i + 1, (([] : List Jn.T3) ++ [((o.f0, o.f1, o.f2) : Jn.T3)]), (by first | rfl | (simp; done) | (simp [*]; done)), (by first | rfl | (simp; done) | (simp [*]; done)), ⟨by have := HI.out; omega⟩, HT3, HS2, HB, ⟨fun h => absurd h (by simp)⟩⟩
     ·have HE := zA hE
      have hg0 : decide (0 < (o.f2.length : Int)) = true := zd1 (by have := List.length_pos_iff.2 hE; omega)
      have hg1 : decide (0 < o.f2.length) = true := zd1 (List.length_pos_iff.2 hE)
      have e1 : Jn.nrm (toT o) = (0, 0, o.f2) := by unfold Jn.nrm; rw [if_neg (show ¬ (toT o).2.2 = [] from hE)]; rfl
      rw [e1] at HT3
      have hm1 : wrap64 (-1) = -1 := by unfold wrap64; decide
      clear hE e1
      go_wp2_with (first
       | ((with_reducible refine gate_dst (N := 24) rfl ?_); refine Kd.R_lit (Kd.int .u8) _ 5 ?hg (N := 24) ?hd (xs := ([] : List Int)) (inner := []) (ok := fun _ => True) (okp := fun _ => True) ?hr ?hp (fun _ hk => hk) trivial (Below.refl _ _) (Nat.le_refl _) (by simp) ?_; (case hd => rfl); (case hg => rfl); (case hr => first | (go_simp; done) | (go_simp; rfl)); (case hp => exact (Reps.none _ _)); intro vl w4 ho5 hb hg_ hnew_; clear hg_ hnew_; have HLB := zA (show ∀ k_, vl.ownBlock = some k_ → gb < k_ from fun k_ hk => Nat.lt_of_lt_of_le (blk_lt BO.out) (Kd.R_base ho5 k_ hk)); have HLR := zA (Kd.R_lower ho5 HB.out.size); replace HS := zA (Kd.S_below HS.out hb); replace HB := zA (zb5 HB.out hb); replace BO := zA (zc6 BO.out hb); replace ho0 := Jn.cellB hb ho0; replace ho1 := Jn.cellB hb ho1; replace ho2 := Jn.cellB hb ho2; clear hb ho5)
       | ((with_reducible refine gate_dst (N := 27) rfl ?_); (with_reducible refine gate_builtin (b := .append) (xs := #[.tmp 24, .tmp 26]) rfl ?_); at_builtin; refine Kd.R_append_rows (Kd.int .u8) (w0 := w) w.heap.size rfl (.tmp 24) (.tmp 26) 33 5 (.int .u8 0) 1 rfl Try.underlying33 Jn.info5 rfl (by decide) (by omega) vl ([] : List Int) o.f2 _ _ _ (fun k_ => gb < k_) (fun _ => False) rfl rfl ?aO ?aR (fun _ _ h => h) (fun _ h => h.elim) ?aF ?aB ?aS ?aL ?_; (case aO => exact Kd.R_reok rfl HLR.out (fun k_ hk => HLB.out k_ hk)); (case aR => exact Kd.C_below HR2.out HB.out); (case aF => exact fun k_ hk => Nat.lt_of_lt_of_le (blk_lt BO.out) hk); (case aB => exact HB.out); (case aS => exact HB.out.size); (case aL => have := HM.out; rw [List.length_nil]; omega); intro v1 w6 hor hbb hg hat; rw [List.nil_append] at hor; obtain ⟨A3, c3, rfl⟩ := Kd.R_slice hor; have HQ := zA hor; replace HS := zA (Kd.S_grown HS.out hg (fun k_ hk e => by have h1 := HLB.out k_ e.symm; have := hk.2; have := HGB.out; omega)); replace BO := zA (blk_grown BO.out hg (fun e => by have h1 := HLB.out _ e.symm; omega)); replace ho0 := cell_grown hg ho0 (fun e => by have h1 := HLB.out _ e.symm; exact absurd h1 (Nat.lt_irrefl _)); replace ho1 := cell_grown hg ho1 (fun e => by have h1 := HLB.out _ e.symm; exact absurd h1 (Nat.lt_irrefl _)); replace ho2 := cell_grown hg ho2 (fun e => by have h1 := HLB.out _ e.symm; exact absurd h1 (Nat.lt_irrefl _)); replace HB := zA hbb; clear hor hbb hg hat)
       | (refine Jn.store_event rfl rfl 47 (.tmp 5) (.tmp 28) rfl (g := gb) (j := 0) (e := 47) (cs := #[.int .i64 o.f0, .int .i64 o.f1, .slice A2 o.f2.length c2]) (cs' := #[.int .i64 0, .int .i64 0, .slice A3 o.f2.length c3]) (u := .agg #[.int .i64 0, .int .i64 0, .slice A3 o.f2.length c3]) (seg := [.int .i64 0, .int .i64 0, .slice A3 o.f2.length c3]) rfl rfl rfl Jn.inf47 ?so BO.out (Nat.le_refl _) ?sc ?_; (case so => intro q hq; simp only [List.mem_cons, List.not_mem_nil, or_false] at hq; rcases hq with rfl | rfl | rfl <;> rfl); (case sc => exact blk_put (blk_put (blk_put BO.out 0 _ rfl) 1 _ rfl) 2 _ rfl); intro w3 hb3 hg; replace HS := zA (Kd.S_grown HS.out hg (fun k_ hk e => by injection e with e; have := hk.2; have := HGB.out; omega)); replace HB := zA (Jn.belowG HB.out hg HB.out.size (fun k_ hk => by injection hk with hk; have := HGB.out; have := HNW.out; omega)); replace BO := zA hb3; replace ho0 : w3.cell? ⟨gb, 0, none⟩ = some (.int .i64 0) := (zc1 hb3 0).trans rfl; replace ho1 : w3.cell? ⟨gb, 1, none⟩ = some (.int .i64 0) := (zc1 hb3 1).trans rfl; replace ho2 : w3.cell? ⟨gb, 2, none⟩ = some (.slice A3 o.f2.length c3) := (zc1 hb3 2).trans rfl; replace HQ := zA (Kd.R_grown HQ.out hg (fun k_ hk e => by injection e with e; omega)); clear hb3 hg))
      have hb := below_drew (Below.refl w3.heap.size w3)
      replace HS := zA (Kd.S_below HS.out hb); replace HB := zA (zb5 HB.out hb); replace BO := zA (zc6 BO.out hb); replace ho0 := Jn.cellB hb ho0; replace ho1 := Jn.cellB hb ho1; replace ho2 := Jn.cellB hb ho2; replace HQ := zA (Kd.R_below HQ.out hb); clear hb
      refine start_ (n := 11) (S := (fun W => W.cell? ⟨gb, 0, none⟩ = some (.int .i64 0))) (ds := []) (qq 11 0) (by kernel_rfl) rfl (by kernel_rfl) ho0 (fun hHeld => ?_)
      refine with_tabW rn.tab10 rn.bits10 (fun HT_ HW_ => ?_)
      generalize w3.drew = w9 at HB HS BO ho0 ho1 ho2 HQ hHeld ⊢
      refine ord_ [(0, 0, 1), (0, 1, 3), (0, 2, 7), (1, 3, 15), (1, 4, 31), (1, 5, 63), (1, 6, 127), (1, 7, 255), (1, 8, 511), (1, 9, 1023), (0, 10, 2047)] ?_
      repeat (first | (refine kk_ 0 ?_; refine oP_ (v := ?_) (a' := ?_) HT_ rfl rfl (by kernel_rfl) (fun _ _ _ h => h) (Or.inl ⟨by rfl, ?_⟩) ?_ ?_; rotate_left; (intro w'; go_simp; with_reducible rfl); rotate_left; (simp only [Act.put, Jn.s1, Jn.s2, Jn.s3, i64_w, i32_w]; rfl)) | (refine kk_ 1 ?_; refine oP_ (v := undef) (a' := ?_) HT_ rfl rfl (by kernel_rfl) (fun _ _ _ h => h) (Or.inr ⟨by rfl, rfl⟩) ?_ ?_; rotate_left; (simp only [Act.put, Jn.s1, Jn.s2, Jn.s3, i64_w, i32_w]; rfl)))
      refine oend_ ?_
      refine done_ (done_of HT_.out (by kernel_rfl)) ?_
      go_wp2_with (first
       | ((with_reducible refine gate_dst (N := 46) rfl ?_); (with_reducible refine gate_builtin (b := .append) (xs := #[.tmp 43, .tmp 45]) rfl ?_); at_builtin; refine Kd.S_append Jn.kJ (w0 := w) w.heap.size rfl (.tmp 43) (.tmp 45) 34 47 (.agg #[(.int .i64 0), (.int .i64 0), (.slice none 0 0)]) 40 rfl Try.underlying34 Jn.info47 rfl (by decide) (by omega) (.slice none 0 0) ([] : List Jn.T3) ((0, 0, o.f2) : Jn.T3) [.int .i64 0, .int .i64 0, .slice A3 o.f2.length c3] (fun k_ => w.heap.size ≤ k_) (fun k_ => some k_ = (Value.slice A3 o.f2.length c3).ownBlock) rfl rfl ?aP ?aQ ?aF ?aO ?aB ?aS ?aL ?_; (case aP => exact Jn.kJ_mkR _ _ _ ((0, 0, o.f2) : Jn.T3) (Kd.R_tight rfl HQ.out)); (case aQ => exact fun k_ hk => by have h1 := HQ.out.1 k_ hk.symm; have h0 := HGB.out; have h2 := HNW.out; exact ⟨by omega, fun e => by have := ((Kd.S_R HS.out).1 k_ e.symm).2; omega⟩); (case aF => exact fun k_ hk => Nat.le_trans HB.out.size hk); (case aO => exact Kd.S_mono HS.out (fun k_ hk => ⟨hk.1, fun h => by have h1 := HQ.out.1 k_ h.symm; have := hk.2; have := HGB.out; omega⟩)); (case aB => exact HB.out); (case aS => exact HB.out.size); (case aL => have := HX.out; omega); intro v1 w1 hs1 hb1 hg1 hat; have HS2 := zA hs1; replace HB := zA hb1; replace ho0 := trivial; replace ho1 := trivial; replace ho2 := trivial; clear hs1 hb1 hg1 hat))
      go_roundg n1
      case measure => omega
      case rel => exact ⟨v1, i + 1, (([] : List Jn.T3) ++ [((0, 0, o.f2) : Jn.T3)]), (by first | rfl | (simp; done) | (simp [*]; done)), (by first | rfl | (simp; done) | (simp [*]; done)), ⟨by have := HI.out; omega⟩, HT3, HS2, HB, ⟨fun h => absurd h (by simp)⟩⟩
    ·rw [List.getLast?_concat] at hADD
     replace hADD := Option.bind_eq_some_iff.mp hADD
     obtain ⟨tg, hGO, hADD⟩ := hADD
     clear HNIL
     have hMM : ys.length = ys.length := rfl
     obtain ⟨m, hm⟩ : ∃ m, ys.length = m := ⟨_, rfl⟩
     obtain ⟨gr, cap, hv, hgr1, hgr2, _⟩ := Kd.S_form HS.out (by simp)
     replace hv : v = .slice (some ⟨gr, 0, none⟩) (m + 1) cap := by rw [hv]; simp [hm]
     subst hv
     obtain ⟨oki, c4, hcl, hMd, hcc, hoki, HH0⟩ := Kd.S_lend HS.out p (m : Int) (by omega) (by omega)
     have hgetD : (ys ++ [p]).getD ((m : Int)).toNat p = p := by subst hm; simp
     rw [hgetD] at hMd
     obtain ⟨vd, hc3, hd⟩ := Jn.kJ_openM hMd
     obtain ⟨Ad, cd, hvd, hcd, hCd⟩ : ∃ Ad cd, vd = .slice Ad p.2.2.length cd ∧ p.2.2.length ≤ cd ∧ (Kd.int .u8).C wr Ad p.2.2.length p.2.2 := by
      obtain ⟨A_, c_, he, h1, h2⟩ := Jn.kJ_open (Jn.kJ.K_of_M hMd)
      rw [hc3] at he
      exact ⟨A_, c_, (by injection he with _ he; injection he with _ he; injection he), h1, h2⟩
     subst hvd
     subst hc3
     have hp0 : wr.cell? ⟨gr, m * 3, none⟩ = some (.int .i64 p.1) := hcc 0 _ rfl
     have hp1 : wr.cell? ⟨gr, m * 3 + 1, none⟩ = some (.int .i64 p.2.1) := hcc 1 _ rfl
     have hp2 : wr.cell? ⟨gr, m * 3 + 2, none⟩ = some (.slice Ad p.2.2.length cd) := hcc 2 _ rfl
     have HD := zA hMd
     have HH := zA HH0
     have HO := zA hoki
     have HCD := zA hcd
     have HRD := zA hCd
     have HMM := zA hm
     have HGR := zA (show gr < n0 by rw [HN0.out]; exact hgr2)
     have hwl : wrap64 (m : Int) = (m : Int) := by have := HX.out; rw [List.length_append] at this; simp at this; unfold wrap64; omega
     have hw5 : decide ((m : Int) < 0) = false := by simp
     have hw3 : decide (0 ≤ (m : Int)) = true := by simp
     have hw4 : decide ((m : Int) < ((m + 1 : Nat) : Int)) = true := by simp; omega
     have HW6 := zA (show (m : Int) < (m : Int) + 1 by omega)
     clear hcl hcc hoki HH0 hgetD hMd hd hcd hCd hm hgr1 hgr2 hMM
     go_upto_region 7 with (first
      | ((with_reducible refine gate_dst (N := 5) rfl ?_); refine box_event ?hg (N := 5) ?hd (cs := #[.int .i64 0, .int .i64 0, .slice none 0 0]) (t := 47) ?hr ?_; (case hd => rfl); (case hg => rfl); (case hr => first | (go_simp; done) | (go_simp; rfl)); intro gb hgb w2 hbox hb; have HGB := zA (Nat.le_of_eq (HN0.out.trans hgb.symm)); replace HS := zA (Kd.S_below HS.out hb); replace HB := zA (zb5 HB.out hb); replace HH := zA (Kd.H_below HH.out hb); replace HD := zA (Jn.kJM_below HD.out hb); replace HRD := zA (Kd.C_below HRD.out hb); replace hp0 := Jn.cellB hb hp0; replace hp1 := Jn.cellB hb hp1; replace hp2 := Jn.cellB hb hp2; have BO := zA hbox; clear hbox hb hgb)
      | (refine Jn.store_event rfl rfl 47 (.tmp 5) (.tmp 16) rfl (g := gb) (j := 0) (e := 47) (cs := #[.int .i64 0, .int .i64 0, .slice none 0 0]) (cs' := #[.int .i64 o.f0, .int .i64 o.f1, .slice A2 o.f2.length c2]) (u := .agg #[.int .i64 o.f0, .int .i64 o.f1, .slice A2 o.f2.length c2]) (seg := [.int .i64 o.f0, .int .i64 o.f1, .slice A2 o.f2.length c2]) rfl rfl rfl Jn.inf47 ?so BO.out (Nat.le_refl _) ?sc ?_; (case so => intro q hq; simp only [List.mem_cons, List.not_mem_nil, or_false] at hq; rcases hq with rfl | rfl | rfl <;> rfl); (case sc => exact blk_put (blk_put (blk_put BO.out 0 _ rfl) 1 _ rfl) 2 _ rfl); intro w3 hb3 hg; replace HS := zA (Kd.S_grown HS.out hg (fun k_ hk e => by injection e with e; have := hk.2; have := HGB.out; omega)); replace HH := zA (Kd.H_other HH.out hg (fun k_ hk e => by injection e with e; have := hk.2; have := HGB.out; omega)); replace HD := zA (Kd.M_step HD.out (fun k_ hk hlt => hg.block k_ hlt (fun e => by have hk := (HO.out k_ hk).1; exact by injection e with e; have := hk.2; have := HGB.out; omega))); replace HRD := zA (Jn.kJ_C HD.out); replace hp0 := cell_grown hg hp0 (fun e => by injection e with e; have e1 : gr = gb := e; have := HGR.out; have := HGB.out; omega); replace hp1 := cell_grown hg hp1 (fun e => by injection e with e; have e1 : gr = gb := e; have := HGR.out; have := HGB.out; omega); replace hp2 := cell_grown hg hp2 (fun e => by injection e with e; have e1 : gr = gb := e; have := HGR.out; have := HGB.out; omega); replace HB := zA (Jn.belowG HB.out hg HB.out.size (fun k_ hk => by injection hk with hk; have := HGB.out; have := HNW.out; omega)); replace BO := zA hb3; have ho0 : w3.cell? ⟨gb, 0, none⟩ = some (.int .i64 o.f0) := (zc1 hb3 0).trans rfl; have ho1 : w3.cell? ⟨gb, 1, none⟩ = some (.int .i64 o.f1) := (zc1 hb3 1).trans rfl; have ho2 : w3.cell? ⟨gb, 2, none⟩ = some (.slice A2 o.f2.length c2) := (zc1 hb3 2).trans rfl; replace hx0 := trivial; replace hx1 := trivial; replace hx2 := trivial; clear hb3 hg)
      | ((with_reducible refine gate_dst (N := 18) rfl ?_); refine goesL_ (some 18) rfl rfl Try.func29 (by kernel_rfl) rfl #[.agg #[.int .i64 o.f0, .int .i64 o.f1, .slice A2 o.f2.length c2]] rfl (by (try simp only [zm1, zm2, zm3]); first | done | rfl) ?_; refine (remoraref08_Length.calls o.f0 o.f1 A2 c2 o.f2 nn _ (Kd.C_below HR2.out HB.out) HC2.out HLN.out).mono ?_; rintro e w' ⟨rfl, hb⟩; refine ⟨_, rfl, ?_⟩; replace HS := zA (Kd.S_below HS.out hb); replace HB := zA (zb5 HB.out hb); replace BO := zA (zc6 BO.out hb); replace ho0 := Jn.cellB hb ho0; replace ho1 := Jn.cellB hb ho1; replace ho2 := Jn.cellB hb ho2; replace HH := zA (Kd.H_below HH.out hb); replace HD := zA (Jn.kJM_below HD.out hb); replace HRD := zA (Kd.C_below HRD.out hb); replace hp0 := Jn.cellB hb hp0; replace hp1 := Jn.cellB hb hp1; replace hp2 := Jn.cellB hb hp2; clear hb))
     by_cases hE : o.f2 = []
     ·have HE := zA hE
      have hg0 : decide (0 < (o.f2.length : Int)) = false := by rw [hE]; rfl
      have hg1 : decide (0 < o.f2.length) = false := by rw [hE]; rfl
      have e1 : Jn.nrm (toT o) = (o.f0, o.f1, o.f2) := by unfold Jn.nrm; rw [if_pos (show (toT o).2.2 = [] from hE)]; rfl
      rw [e1] at hGO hADD
      have HGO := zA hGO
      have HAD := zA hADD
      clear e1 hGO hADD hE
      go_wp2
      have hb := below_drew (Below.refl w'.heap.size w')
      replace HS := zA (Kd.S_below HS.out hb); replace HB := zA (zb5 HB.out hb); replace BO := zA (zc6 BO.out hb); replace ho0 := Jn.cellB hb ho0; replace ho1 := Jn.cellB hb ho1; replace ho2 := Jn.cellB hb ho2; replace HH := zA (Kd.H_below HH.out hb); replace HD := zA (Jn.kJM_below HD.out hb); replace HRD := zA (Kd.C_below HRD.out hb); replace hp0 := Jn.cellB hb hp0; replace hp1 := Jn.cellB hb hp1; replace hp2 := Jn.cellB hb hp2; clear hb
      refine start_ (n := 11) (S := (fun W => (W.cell? ⟨gr, m * 3, none⟩ = some (.int .i64 p.1) ∧ W.cell? ⟨gr, m * 3 + 1, none⟩ = some (.int .i64 p.2.1) ∧ W.cell? ⟨gr, m * 3 + 2, none⟩ = some (.slice Ad p.2.2.length cd)) ∧ W.cell? ⟨gb, 0, none⟩ = some (.int .i64 o.f0) ∧ W.cell? ⟨gb, 1, none⟩ = some (.int .i64 o.f1) ∧ W.cell? ⟨gb, 2, none⟩ = some (.slice A2 o.f2.length c2))) (ds := []) (qq 11 0) (by kernel_rfl) rfl (by kernel_rfl) ⟨⟨hp0, hp1, hp2⟩, ho0, ho1, ho2⟩ (fun hHeld => ?_)
      refine with_tabW rn.tab10 rn.bits10 (fun HT_ HW_ => ?_)
      generalize w'.drew = w9 at HB HS BO ho0 ho1 ho2 HH HD HRD hp0 hp1 hp2 hHeld ⊢
      refine ord_ [(0, 0, 1), (0, 1, 3), (0, 2, 7), (0, 3, 15), (0, 4, 31), (1, 5, 63), (2, 6, 127), (2, 7, 255)] ?_
      repeat (first | (refine kk_ 0 ?_; refine oP_ (v := ?_) (a' := ?_) HT_ rfl rfl (by kernel_rfl) (fun _ _ _ h => h) (Or.inl ⟨by rfl, ?_⟩) ?_ ?_; rotate_left; (intro w'; go_simp; with_reducible rfl); rotate_left; (simp only [Act.put, Jn.s1, Jn.s2, Jn.s3, i64_w, i32_w]; rfl)) | (refine kk_ 1 ?_; refine oP_ (v := ?_) (a' := ?_) HT_ rfl rfl (by kernel_rfl) (fun _ _ _ h => h) (Or.inl ⟨by rfl, ?_⟩) ?_ ?_; rotate_left; (focus intro w'; go_simp; (try rw [if_pos HW6.out]); all_goals (with_reducible rfl)); rotate_left; (simp only [Act.put, Jn.s1, Jn.s2, Jn.s3, i64_w, i32_w]; rfl)) | (refine kk_ 2 ?_; refine oT_ (v := ?_) (a' := ?_) HT_ HW_ rfl rfl (by kernel_rfl) (fun _ _ _ h => h) (Or.inl ⟨by rfl, ?_⟩) hHeld ?_ ?_; rotate_left; (rintro w' ⟨⟨s0, s1, s2⟩, s3, s4, s5⟩; go_simp; with_reducible rfl); rotate_left; (simp only [Act.put, Jn.s1, Jn.s2, Jn.s3, i64_w, i32_w]; rfl)))
      refine oend_ ?_
      refine one_ (i := 8) (N := some 40) (qq 11 511) rfl rfl (one_of HT_.out (by kernel_rfl)) (by decide) (fun K hK => ?_)
      refine goes_ Try.func31 (by kernel_rfl) rfl #[.agg #[.int .i64 p.1, .int .i64 p.2.1, .slice Ad p.2.2.length cd], .agg #[.int .i64 o.f0, .int .i64 o.f1, .slice A2 o.f2.length c2]] (by rfl) rfl rfl (by (try simp only [zm1, zm2, zm3]); first | done | rfl) ?_
      refine (remoraref08_Goes.calls p.1 p.2.1 Ad cd p.2.2 o.f0 o.f1 A2 c2 o.f2 tg _ HRD.out HCD.out (Kd.C_below HR2.out HB.out) HC2.out HGO.out).mono ?_
      rintro e w' ⟨rfl, hb⟩
      refine ⟨_, rfl, ?_⟩
      replace HS := zA (Kd.S_below HS.out hb); replace HB := zA (zb5 HB.out hb); replace BO := zA (zc6 BO.out hb); replace ho0 := Jn.cellB hb ho0; replace ho1 := Jn.cellB hb ho1; replace ho2 := Jn.cellB hb ho2; replace HH := zA (Kd.H_below HH.out hb); replace HD := zA (Jn.kJM_below HD.out hb); replace HRD := zA (Kd.C_below HRD.out hb); replace hp0 := Jn.cellB hb hp0; replace hp1 := Jn.cellB hb hp1; replace hp2 := Jn.cellB hb hp2; clear hb
      refine hK.out _ _ ⟨⟨hp0, hp1, hp2⟩, ho0, ho1, ho2⟩ (fun hHeld => ?_)
      clear hK K
      refine norm_ (a' := ?_) ?_ ?_
      rotate_left
      ·show Act.put _ (some 40) _ = _
       simp only [Act.put, Jn.s1, Jn.s2, Jn.s3, i64_w, i32_w]
       rfl
      refine ord_ [(0, 9, 1023), (0, 10, 2047)] ?_
      repeat (refine kk_ 0 ?_; refine oP_ (v := ?_) (a' := ?_) HT_ rfl rfl (by kernel_rfl) (fun _ _ _ h => h) (Or.inl ⟨by rfl, ?_⟩) ?_ ?_; rotate_left; (intro w'; go_simp; with_reducible rfl); rotate_left; (simp only [Act.put, Jn.s1, Jn.s2, Jn.s3, i64_w, i32_w]; rfl))
      refine oend_ ?_
      refine done_ (done_of HT_.out (by kernel_rfl)) ?_
      have hADD := HAD.out
      have hE := HE.out
      cases tg with
      | true =>
       rw [if_pos rfl, if_pos hE, List.dropLast_concat] at hADD
       obtain rfl := Option.some.inj hADD
       clear hADD hE HAD
       go_wp2
       have hb := below_drew (Below.refl w'.heap.size w')
       replace HS := zA (Kd.S_below HS.out hb); replace HB := zA (zb5 HB.out hb); replace BO := zA (zc6 BO.out hb); replace ho0 := Jn.cellB hb ho0; replace ho1 := Jn.cellB hb ho1; replace ho2 := Jn.cellB hb ho2; replace HH := zA (Kd.H_below HH.out hb); replace HD := zA (Jn.kJM_below HD.out hb); replace HRD := zA (Kd.C_below HRD.out hb); replace hp0 := Jn.cellB hb hp0; replace hp1 := Jn.cellB hb hp1; replace hp2 := Jn.cellB hb hp2; clear hb
       refine start_ (n := 13) (S := (fun W => (W.cell? ⟨gr, m * 3, none⟩ = some (.int .i64 p.1) ∧ W.cell? ⟨gr, m * 3 + 1, none⟩ = some (.int .i64 p.2.1) ∧ W.cell? ⟨gr, m * 3 + 2, none⟩ = some (.slice Ad p.2.2.length cd)) ∧ W.cell? ⟨gb, 0, none⟩ = some (.int .i64 o.f0) ∧ W.cell? ⟨gb, 1, none⟩ = some (.int .i64 o.f1) ∧ W.cell? ⟨gb, 2, none⟩ = some (.slice A2 o.f2.length c2))) (ds := [12]) (qq 13 0) (by kernel_rfl) rfl (by kernel_rfl) ⟨⟨hp0, hp1, hp2⟩, ho0, ho1, ho2⟩ (fun hHeld => ?_)
       refine with_tabW rn.tab14 rn.bits14 (fun HT_ HW_ => ?_)
       generalize w'.drew = w9 at HB HS BO ho0 ho1 ho2 HH HD HRD hp0 hp1 hp2 hHeld ⊢
       refine ord_ [(0, 0, 1), (0, 1, 3), (0, 2, 7), (0, 3, 15), (0, 4, 31), (0, 5, 63), (1, 6, 127), (0, 7, 255), (1, 8, 511), (2, 9, 1023), (0, 10, 2047), (0, 11, 4095)] ?_
       repeat (first | (refine kk_ 0 ?_; refine oP_ (v := ?_) (a' := ?_) HT_ rfl rfl (by kernel_rfl) (fun _ _ _ h => h) (Or.inl ⟨by rfl, ?_⟩) ?_ ?_; rotate_left; (focus intro w'; go_simp; (try rw [if_pos HW6.out]); all_goals (with_reducible rfl)); rotate_left; (simp only [Act.put, Jn.s1, Jn.s2, Jn.s3, i64_w, i32_w]; rfl)) | (refine kk_ 1 ?_; refine oT_ (v := ?_) (a' := ?_) HT_ HW_ rfl rfl (by kernel_rfl) (fun _ _ _ h => h) (Or.inl ⟨by rfl, ?_⟩) hHeld ?_ ?_; rotate_left; (rintro w' ⟨⟨s0, s1, s2⟩, s3, s4, s5⟩; go_simp; with_reducible rfl); rotate_left; (simp only [Act.put, Jn.s1, Jn.s2, Jn.s3, i64_w, i32_w]; rfl)) | (refine kk_ 2 ?_; refine oP_ (v := ?_) (a' := ?_) HT_ rfl rfl (by kernel_rfl) (fun _ _ _ h => h) (Or.inl ⟨by rfl, ?_⟩) ?_ ?_; rotate_left; (intro w'; go_simp; with_reducible rfl); rotate_left; (simp only [Act.put, Jn.s1, Jn.s2, Jn.s3, i64_w, i32_w]; rfl)))
       refine oend_ ?_
       refine last_ (i := 12) (N := none) (qq 13 8191) rfl rfl (one_of HT_.out (by kernel_rfl)) (by decide) (fun K hK => ?_)
       obtain ⟨W1, hrun, hs1, hg1⟩ := Jn.H_run (P := Try.prog) Jn.kJ (j := 1) (seg := [.int .i64 (wrap64 (p.2.1 + o.f1))]) (x' := (p.1, wrap64 (p.2.1 + o.f1), p.2.2)) (okp := oki) 3 (.int .i64 (wrap64 (p.2.1 + o.f1))) rfl Jn.inf3 (by intro q hq; rw [List.mem_singleton.1 hq]; exact rfl) HH.out (by omega) (by omega) (show 2 ≤ 3 by decide) (Jn.kJ_len2 HD.out) (fun _ hk => hk)
       refine Jn.store_skip (by rfl) rfl 3 (.tmp 74) (.tmp 72) rfl (ptr := .pointer (some ⟨gr, m * 3 + 1, none⟩)) (u := (.int .i64 (wrap64 (p.2.1 + o.f1)))) rfl rfl hrun ?_
       have hgr : w.heap.size ≤ gr := Kd.R_base (Kd.S_R hs1) gr rfl
       have hset : (ys ++ [p]).set ((m : Int)).toNat (p.1, wrap64 (p.2.1 + o.f1), p.2.2) = ys ++ [(p.1, wrap64 (p.2.1 + o.f1), p.2.2)] := by
        have := HMM.out
        subst this
        simp
       rw [hset] at hs1
       have HS2 := zA (Kd.S_mono (ok' := fun k_ => w.heap.size ≤ k_) hs1 (fun k_ hk => hk.1))
       replace HB := zA (Jn.belowG HB.out hg1 HB.out.size (fun k_ hk => by injection hk with hk; rw [← hk]; exact hgr))
       refine hK.out _ _ ?_
       refine done_ (done_of HT_.out (by kernel_rfl)) ?_
       clear hK K hrun hs1 hg1 hgr hset
       try go_wp2
       go_roundg n1
       case measure => omega
       case rel => exact ⟨(.slice (some ⟨gr, 0, none⟩) (m + 1) cap), i + 1, (ys ++ [((p.1, wrap64 (p.2.1 + o.f1), p.2.2) : Jn.T3)]), (by first | rfl | (simp; done) | (simp [*]; done)), (by first | rfl | (simp; done) | (simp [*]; done)), ⟨by have := HI.out; omega⟩, HT3, HS2, HB, ⟨fun h => absurd h (by simp)⟩⟩
      | false =>
       rw [if_neg (by decide)] at hADD
       obtain rfl := Option.some.inj hADD
       clear hADD hE HAD
       go_wp2_with (first
        | ((with_reducible refine gate_dst (N := 46) rfl ?_); (with_reducible refine gate_builtin (b := .append) (xs := #[.tmp 43, .tmp 45]) rfl ?_); at_builtin; refine Kd.S_append Jn.kJ (w0 := w) w.heap.size rfl (.tmp 43) (.tmp 45) 34 47 (.agg #[(.int .i64 0), (.int .i64 0), (.slice none 0 0)]) 40 rfl Try.underlying34 Jn.info47 rfl (by decide) (by omega) (.slice (some ⟨gr, 0, none⟩) (m + 1) cap) (ys ++ [p]) ((o.f0, o.f1, o.f2) : Jn.T3) [.int .i64 o.f0, .int .i64 o.f1, .slice A2 o.f2.length c2] (fun k_ => w.heap.size ≤ k_) (fun _ => False) rfl rfl ?aP ?aQ ?aF ?aO ?aB ?aS ?aL ?_; (case aP => exact Jn.kJ_mk0' HE.out _ _ _ _ _ _ _); (case aQ => exact fun k_ hk => hk.elim); (case aF => exact fun k_ hk => Nat.le_trans HB.out.size hk); (case aO => exact Kd.S_mono HS.out (fun k_ hk => ⟨hk.1, fun h => h⟩)); (case aB => exact HB.out); (case aS => exact HB.out.size); (case aL => have := HX.out; omega); intro v1 w1 hs1 hb1 hg1 hat; have HS2 := zA hs1; replace HB := zA hb1; replace ho0 := trivial; replace ho1 := trivial; replace ho2 := trivial; clear hs1 hb1 hg1 hat))
       go_roundg n1
       case measure => omega
       case rel => exact ⟨v1, i + 1, ((ys ++ [p]) ++ [((o.f0, o.f1, o.f2) : Jn.T3)]), (by first | rfl | (simp; done) | (simp [*]; done)), (by first | rfl | (simp; done) | (simp [*]; done)), ⟨by have := HI.out; omega⟩, HT3, HS2, HB, ⟨fun h => absurd h (by simp)⟩⟩
     ·have HE := zA hE
      have hg0 : decide (0 < (o.f2.length : Int)) = true := zd1 (by have := List.length_pos_iff.2 hE; omega)
      have hg1 : decide (0 < o.f2.length) = true := zd1 (List.length_pos_iff.2 hE)
      have e1 : Jn.nrm (toT o) = (0, 0, o.f2) := by unfold Jn.nrm; rw [if_neg (show ¬ (toT o).2.2 = [] from hE)]; rfl
      rw [e1] at hGO hADD
      have HGO := zA hGO
      have HAD := zA hADD
      clear e1 hGO hADD hE
      go_wp2_with (first
       | ((with_reducible refine gate_dst (N := 24) rfl ?_); refine Kd.R_lit (Kd.int .u8) _ 5 ?hg (N := 24) ?hd (xs := ([] : List Int)) (inner := []) (ok := fun _ => True) (okp := fun _ => True) ?hr ?hp (fun _ hk => hk) trivial (Below.refl _ _) (Nat.le_refl _) (by simp) ?_; (case hd => rfl); (case hg => rfl); (case hr => first | (go_simp; done) | (go_simp; rfl)); (case hp => exact (Reps.none _ _)); intro vl w4 ho5 hb hg_ hnew_; clear hg_ hnew_; have HLB := zA (show ∀ k_, vl.ownBlock = some k_ → gb < k_ from fun k_ hk => Nat.lt_of_lt_of_le (blk_lt BO.out) (Kd.R_base ho5 k_ hk)); have HLR := zA (Kd.R_lower ho5 HB.out.size); replace HS := zA (Kd.S_below HS.out hb); replace HB := zA (zb5 HB.out hb); replace BO := zA (zc6 BO.out hb); replace ho0 := Jn.cellB hb ho0; replace ho1 := Jn.cellB hb ho1; replace ho2 := Jn.cellB hb ho2; replace HH := zA (Kd.H_below HH.out hb); replace HD := zA (Jn.kJM_below HD.out hb); replace HRD := zA (Kd.C_below HRD.out hb); replace hp0 := Jn.cellB hb hp0; replace hp1 := Jn.cellB hb hp1; replace hp2 := Jn.cellB hb hp2; clear hb ho5)
       | ((with_reducible refine gate_dst (N := 27) rfl ?_); (with_reducible refine gate_builtin (b := .append) (xs := #[.tmp 24, .tmp 26]) rfl ?_); at_builtin; refine Kd.R_append_rows (Kd.int .u8) (w0 := w) w.heap.size rfl (.tmp 24) (.tmp 26) 33 5 (.int .u8 0) 1 rfl Try.underlying33 Jn.info5 rfl (by decide) (by omega) vl ([] : List Int) o.f2 _ _ _ (fun k_ => gb < k_) (fun _ => False) rfl rfl ?aO ?aR (fun _ _ h => h) (fun _ h => h.elim) ?aF ?aB ?aS ?aL ?_; (case aO => exact Kd.R_reok rfl HLR.out (fun k_ hk => HLB.out k_ hk)); (case aR => exact Kd.C_below HR2.out HB.out); (case aF => exact fun k_ hk => Nat.lt_of_lt_of_le (blk_lt BO.out) hk); (case aB => exact HB.out); (case aS => exact HB.out.size); (case aL => have := HM.out; rw [List.length_nil]; omega); intro v1 w6 hor hbb hg hat; rw [List.nil_append] at hor; obtain ⟨A3, c3, rfl⟩ := Kd.R_slice hor; have HQ := zA hor; replace HS := zA (Kd.S_grown HS.out hg (fun k_ hk e => by have h1 := HLB.out k_ e.symm; have := hk.2; have := HGB.out; omega)); replace HH := zA (Kd.H_other HH.out hg (fun k_ hk e => by have h1 := HLB.out k_ e.symm; have := hk.2; have := HGB.out; omega)); replace HD := zA (Kd.M_step HD.out (fun k_ hk hlt => hg.block k_ hlt (fun e => by have hk := (HO.out k_ hk).1; exact by have h1 := HLB.out k_ e.symm; have := hk.2; have := HGB.out; omega))); replace HRD := zA (Jn.kJ_C HD.out); replace hp0 := cell_grown hg hp0 (fun e => by have h1 : gb < gr := HLB.out _ e.symm; have := HGR.out; have := HGB.out; omega); replace hp1 := cell_grown hg hp1 (fun e => by have h1 : gb < gr := HLB.out _ e.symm; have := HGR.out; have := HGB.out; omega); replace hp2 := cell_grown hg hp2 (fun e => by have h1 : gb < gr := HLB.out _ e.symm; have := HGR.out; have := HGB.out; omega); replace BO := zA (blk_grown BO.out hg (fun e => by have h1 := HLB.out _ e.symm; omega)); replace ho0 := cell_grown hg ho0 (fun e => by have h1 := HLB.out _ e.symm; exact absurd h1 (Nat.lt_irrefl _)); replace ho1 := cell_grown hg ho1 (fun e => by have h1 := HLB.out _ e.symm; exact absurd h1 (Nat.lt_irrefl _)); replace ho2 := cell_grown hg ho2 (fun e => by have h1 := HLB.out _ e.symm; exact absurd h1 (Nat.lt_irrefl _)); replace HB := zA hbb; clear hor hbb hg hat)
       | (refine Jn.store_event rfl rfl 47 (.tmp 5) (.tmp 28) rfl (g := gb) (j := 0) (e := 47) (cs := #[.int .i64 o.f0, .int .i64 o.f1, .slice A2 o.f2.length c2]) (cs' := #[.int .i64 0, .int .i64 0, .slice A3 o.f2.length c3]) (u := .agg #[.int .i64 0, .int .i64 0, .slice A3 o.f2.length c3]) (seg := [.int .i64 0, .int .i64 0, .slice A3 o.f2.length c3]) rfl rfl rfl Jn.inf47 ?so BO.out (Nat.le_refl _) ?sc ?_; (case so => intro q hq; simp only [List.mem_cons, List.not_mem_nil, or_false] at hq; rcases hq with rfl | rfl | rfl <;> rfl); (case sc => exact blk_put (blk_put (blk_put BO.out 0 _ rfl) 1 _ rfl) 2 _ rfl); intro w3 hb3 hg; replace HS := zA (Kd.S_grown HS.out hg (fun k_ hk e => by injection e with e; have := hk.2; have := HGB.out; omega)); replace HH := zA (Kd.H_other HH.out hg (fun k_ hk e => by injection e with e; have := hk.2; have := HGB.out; omega)); replace HD := zA (Kd.M_step HD.out (fun k_ hk hlt => hg.block k_ hlt (fun e => by have hk := (HO.out k_ hk).1; exact by injection e with e; have := hk.2; have := HGB.out; omega))); replace HRD := zA (Jn.kJ_C HD.out); replace hp0 := cell_grown hg hp0 (fun e => by injection e with e; have e1 : gr = gb := e; have := HGR.out; have := HGB.out; omega); replace hp1 := cell_grown hg hp1 (fun e => by injection e with e; have e1 : gr = gb := e; have := HGR.out; have := HGB.out; omega); replace hp2 := cell_grown hg hp2 (fun e => by injection e with e; have e1 : gr = gb := e; have := HGR.out; have := HGB.out; omega); replace HB := zA (Jn.belowG HB.out hg HB.out.size (fun k_ hk => by injection hk with hk; have := HGB.out; have := HNW.out; omega)); replace BO := zA hb3; replace ho0 : w3.cell? ⟨gb, 0, none⟩ = some (.int .i64 0) := (zc1 hb3 0).trans rfl; replace ho1 : w3.cell? ⟨gb, 1, none⟩ = some (.int .i64 0) := (zc1 hb3 1).trans rfl; replace ho2 : w3.cell? ⟨gb, 2, none⟩ = some (.slice A3 o.f2.length c3) := (zc1 hb3 2).trans rfl; replace HQ := zA (Kd.R_grown HQ.out hg (fun k_ hk e => by injection e with e; omega)); clear hb3 hg))
      have hb := below_drew (Below.refl w3.heap.size w3)
      replace HS := zA (Kd.S_below HS.out hb); replace HB := zA (zb5 HB.out hb); replace BO := zA (zc6 BO.out hb); replace ho0 := Jn.cellB hb ho0; replace ho1 := Jn.cellB hb ho1; replace ho2 := Jn.cellB hb ho2; replace HH := zA (Kd.H_below HH.out hb); replace HD := zA (Jn.kJM_below HD.out hb); replace HRD := zA (Kd.C_below HRD.out hb); replace hp0 := Jn.cellB hb hp0; replace hp1 := Jn.cellB hb hp1; replace hp2 := Jn.cellB hb hp2; replace HQ := zA (Kd.R_below HQ.out hb); clear hb
      refine start_ (n := 11) (S := (fun W => (W.cell? ⟨gr, m * 3, none⟩ = some (.int .i64 p.1) ∧ W.cell? ⟨gr, m * 3 + 1, none⟩ = some (.int .i64 p.2.1) ∧ W.cell? ⟨gr, m * 3 + 2, none⟩ = some (.slice Ad p.2.2.length cd)) ∧ W.cell? ⟨gb, 0, none⟩ = some (.int .i64 0) ∧ W.cell? ⟨gb, 1, none⟩ = some (.int .i64 0) ∧ W.cell? ⟨gb, 2, none⟩ = some (.slice A3 o.f2.length c3))) (ds := []) (qq 11 0) (by kernel_rfl) rfl (by kernel_rfl) ⟨⟨hp0, hp1, hp2⟩, ho0, ho1, ho2⟩ (fun hHeld => ?_)
      refine with_tabW rn.tab10 rn.bits10 (fun HT_ HW_ => ?_)
      generalize w3.drew = w9 at HB HS BO ho0 ho1 ho2 HH HD HRD hp0 hp1 hp2 HQ hHeld ⊢
      refine ord_ [(0, 0, 1), (0, 1, 3), (0, 2, 7), (0, 3, 15), (0, 4, 31), (1, 5, 63), (2, 6, 127), (2, 7, 255)] ?_
      repeat (first | (refine kk_ 0 ?_; refine oP_ (v := ?_) (a' := ?_) HT_ rfl rfl (by kernel_rfl) (fun _ _ _ h => h) (Or.inl ⟨by rfl, ?_⟩) ?_ ?_; rotate_left; (intro w'; go_simp; with_reducible rfl); rotate_left; (simp only [Act.put, Jn.s1, Jn.s2, Jn.s3, i64_w, i32_w]; rfl)) | (refine kk_ 1 ?_; refine oP_ (v := ?_) (a' := ?_) HT_ rfl rfl (by kernel_rfl) (fun _ _ _ h => h) (Or.inl ⟨by rfl, ?_⟩) ?_ ?_; rotate_left; (focus intro w'; go_simp; (try rw [if_pos HW6.out]); all_goals (with_reducible rfl)); rotate_left; (simp only [Act.put, Jn.s1, Jn.s2, Jn.s3, i64_w, i32_w]; rfl)) | (refine kk_ 2 ?_; refine oT_ (v := ?_) (a' := ?_) HT_ HW_ rfl rfl (by kernel_rfl) (fun _ _ _ h => h) (Or.inl ⟨by rfl, ?_⟩) hHeld ?_ ?_; rotate_left; (rintro w' ⟨⟨s0, s1, s2⟩, s3, s4, s5⟩; go_simp; with_reducible rfl); rotate_left; (simp only [Act.put, Jn.s1, Jn.s2, Jn.s3, i64_w, i32_w]; rfl)))
      refine oend_ ?_
      refine one_ (i := 8) (N := some 40) (qq 11 511) rfl rfl (one_of HT_.out (by kernel_rfl)) (by decide) (fun K hK => ?_)
      refine goes_ Try.func31 (by kernel_rfl) rfl #[.agg #[.int .i64 p.1, .int .i64 p.2.1, .slice Ad p.2.2.length cd], .agg #[.int .i64 0, .int .i64 0, .slice A3 o.f2.length c3]] (by rfl) rfl rfl (by (try simp only [zm1, zm2, zm3]); first | done | rfl) ?_
      refine (remoraref08_Goes.calls p.1 p.2.1 Ad cd p.2.2 0 0 A3 c3 o.f2 tg _ HRD.out HCD.out (Kd.R_reads' HQ.out).2.2 (Kd.R_reads' HQ.out).2.1 HGO.out).mono ?_
      rintro e w' ⟨rfl, hb⟩
      refine ⟨_, rfl, ?_⟩
      replace HS := zA (Kd.S_below HS.out hb); replace HB := zA (zb5 HB.out hb); replace BO := zA (zc6 BO.out hb); replace ho0 := Jn.cellB hb ho0; replace ho1 := Jn.cellB hb ho1; replace ho2 := Jn.cellB hb ho2; replace HH := zA (Kd.H_below HH.out hb); replace HD := zA (Jn.kJM_below HD.out hb); replace HRD := zA (Kd.C_below HRD.out hb); replace hp0 := Jn.cellB hb hp0; replace hp1 := Jn.cellB hb hp1; replace hp2 := Jn.cellB hb hp2; replace HQ := zA (Kd.R_below HQ.out hb); clear hb
      refine hK.out _ _ ⟨⟨hp0, hp1, hp2⟩, ho0, ho1, ho2⟩ (fun hHeld => ?_)
      clear hK K
      refine norm_ (a' := ?_) ?_ ?_
      rotate_left
      ·show Act.put _ (some 40) _ = _
       simp only [Act.put, Jn.s1, Jn.s2, Jn.s3, i64_w, i32_w]
       rfl
      refine ord_ [(0, 9, 1023), (0, 10, 2047)] ?_
      repeat (refine kk_ 0 ?_; refine oP_ (v := ?_) (a' := ?_) HT_ rfl rfl (by kernel_rfl) (fun _ _ _ h => h) (Or.inl ⟨by rfl, ?_⟩) ?_ ?_; rotate_left; (intro w'; go_simp; with_reducible rfl); rotate_left; (simp only [Act.put, Jn.s1, Jn.s2, Jn.s3, i64_w, i32_w]; rfl))
      refine oend_ ?_
      refine done_ (done_of HT_.out (by kernel_rfl)) ?_
      have hADD := HAD.out
      have hE := HE.out
      cases tg with
      | true =>
       rw [if_pos rfl, if_neg hE, List.dropLast_concat] at hADD
       obtain rfl := Option.some.inj hADD
       have HNE : Aside0 (p.2.2 ≠ []) := ⟨fun e => by
        have h1 := HGO.out
        unfold remoraref08_Goes.f at h1
        rw [e, if_neg (by decide), if_pos (show ((((0 : Int), (0 : Int), o.f2) : Jn.T3).2.2.length : Int) > 0 by have := List.length_pos_iff.2 hE; show (o.f2.length : Int) > 0; omega)] at h1
        cases h1⟩
       have HPL : Aside0 (p.2.2.length ≤ 900000000) := ⟨by have h1 := Jn.wt_mem (xs := ys ++ [p]) (p := p) (by simp); have h2 := HM.out; omega⟩
       clear hADD hE HAD
       go_wp2
       have hb := below_drew (Below.refl w'.heap.size w')
       replace HS := zA (Kd.S_below HS.out hb); replace HB := zA (zb5 HB.out hb); replace BO := zA (zc6 BO.out hb); replace ho0 := Jn.cellB hb ho0; replace ho1 := Jn.cellB hb ho1; replace ho2 := Jn.cellB hb ho2; replace HH := zA (Kd.H_below HH.out hb); replace HD := zA (Jn.kJM_below HD.out hb); replace HRD := zA (Kd.C_below HRD.out hb); replace hp0 := Jn.cellB hb hp0; replace hp1 := Jn.cellB hb hp1; replace hp2 := Jn.cellB hb hp2; replace HQ := zA (Kd.R_below HQ.out hb); clear hb
       refine start_ (n := 13) (S := (fun W => (W.cell? ⟨gr, m * 3, none⟩ = some (.int .i64 p.1) ∧ W.cell? ⟨gr, m * 3 + 1, none⟩ = some (.int .i64 p.2.1) ∧ W.cell? ⟨gr, m * 3 + 2, none⟩ = some (.slice Ad p.2.2.length cd)) ∧ W.cell? ⟨gb, 0, none⟩ = some (.int .i64 0) ∧ W.cell? ⟨gb, 1, none⟩ = some (.int .i64 0) ∧ W.cell? ⟨gb, 2, none⟩ = some (.slice A3 o.f2.length c3))) (ds := [12]) (qq 13 0) (by kernel_rfl) rfl (by kernel_rfl) ⟨⟨hp0, hp1, hp2⟩, ho0, ho1, ho2⟩ (fun hHeld => ?_)
       refine with_tabW rn.tab13 rn.bits13 (fun HT_ HW_ => ?_)
       generalize w'.drew = w9 at HB HS BO ho0 ho1 ho2 HH HD HRD hp0 hp1 hp2 HQ hHeld ⊢
       refine ord_ [(0, 0, 1), (0, 1, 3), (0, 2, 7), (0, 3, 15), (0, 4, 31), (0, 5, 63), (1, 6, 127), (0, 7, 255), (1, 8, 511)] ?_
       repeat (first | (refine kk_ 0 ?_; refine oP_ (v := ?_) (a' := ?_) HT_ rfl rfl (by kernel_rfl) (fun _ _ _ h => h) (Or.inl ⟨by rfl, ?_⟩) ?_ ?_; rotate_left; (focus intro w'; go_simp; (try rw [if_pos HW6.out]); all_goals (with_reducible rfl)); rotate_left; (simp only [Act.put, Jn.s1, Jn.s2, Jn.s3, i64_w, i32_w]; rfl)) | (refine kk_ 1 ?_; refine oT_ (v := ?_) (a' := ?_) HT_ HW_ rfl rfl (by kernel_rfl) (fun _ _ _ h => h) (Or.inl ⟨by rfl, ?_⟩) hHeld ?_ ?_; rotate_left; (rintro w' ⟨⟨s0, s1, s2⟩, s3, s4, s5⟩; go_simp; with_reducible rfl); rotate_left; (simp only [Act.put, Jn.s1, Jn.s2, Jn.s3, i64_w, i32_w]; rfl)))
       refine oend_ ?_
       refine one_ (i := 9) (N := some 60) (qq 13 1023) rfl rfl (one_of HT_.out (by kernel_rfl)) (by decide) (fun K hK => ?_)
       have HDR := zA (Kd.R_mono (ok' := (fun k_ => oki k_ ∨ (w.heap.size ≤ k_ ∧ n0 ≤ k_))) (Jn.kJ_R HD.out HNE.out) (fun k_ hk => .inl hk))
       have HKI : Aside0 (∀ k_, (Value.slice Ad p.2.2.length cd).ownBlock = some k_ → oki k_) := ⟨fun k_ hk => (Jn.kJ_R HD.out HNE.out).1 k_ hk⟩
       refine Kd.R_append_rows_step (Kd.int .u8) (w0 := w) w.heap.size (by rfl) (.tmp 57) (.tmp 59) 33 5 (.int .u8 0) 1 rfl Try.underlying33 Jn.info5 rfl (by decide) (by omega) (.slice Ad p.2.2.length cd) p.2.2 o.f2 _ _ _ (fun k_ => oki k_ ∨ (w.heap.size ≤ k_ ∧ n0 ≤ k_)) (fun _ => False) rfl rfl HDR.out (Kd.R_reads' HQ.out).2.2 (fun _ _ h => h) (fun _ h => h.elim) ?aF ?aB ?aS ?aL ?_
       (case aF => exact fun k_ hk => .inr ⟨Nat.le_trans HB.out.size hk, by have := HGB.out; have := blk_lt BO.out; omega⟩)
       (case aB => exact HB.out)
       (case aS => exact HB.out.size)
       (case aL => have := HM.out; have := HPL.out; omega)
       intro v1 w4 hr4 hb4 hg4 hat
       replace HH := zA (Kd.H_grown (Kd.H_more (okg := fun k_ => w.heap.size ≤ k_ ∧ n0 ≤ k_) (Kd.H_mono (ok' := fun k_ => w.heap.size ≤ k_ ∧ ¬ (w.heap.size ≤ k_ ∧ n0 ≤ k_)) HH.out (fun k_ hk => ⟨hk.1, fun h => by have := hk.2; have := h.2; omega⟩)) (fun k_ hk => hk.1)) hg4 (fun k_ hk => HDR.out.1 k_ hk))
       have hne1 : some gr ≠ (Value.slice Ad p.2.2.length cd).ownBlock := fun e => (HO.out gr (HKI.out gr e.symm)).2 rfl
       have hne2 : some gb ≠ (Value.slice Ad p.2.2.length cd).ownBlock := fun e => by
        have h1 := (HO.out gb (HKI.out gb e.symm)).1.2
        have h2 := HGB.out
        omega
       replace hp0 := cell_grown hg4 hp0 hne1
       replace hp1 := cell_grown hg4 hp1 hne1
       replace hp2 := cell_grown hg4 hp2 hne1
       replace ho0 := cell_grown hg4 ho0 hne2
       replace ho1 := cell_grown hg4 ho1 hne2
       replace ho2 := cell_grown hg4 ho2 hne2
       replace HB := zA hb4
       have HR4 := zA hr4
       clear hne1 hne2 hr4 hb4 hg4 hat
       refine hK.out _ _ ⟨⟨hp0, hp1, hp2⟩, ho0, ho1, ho2⟩ (fun hHeld => ?_)
       clear hK K
       refine norm_ (a' := ?_) ?_ ?_
       rotate_left
       ·show Act.put _ (some 60) _ = _
        simp only [Act.put, Jn.s1, Jn.s2, Jn.s3, i64_w, i32_w]
        rfl
       refine ord_ [(0, 10, 2047), (0, 11, 4095)] ?_
       repeat (refine kk_ 0 ?_; refine oP_ (v := ?_) (a' := ?_) HT_ rfl rfl (by kernel_rfl) (fun _ _ _ h => h) (Or.inl ⟨by rfl, ?_⟩) ?_ ?_; rotate_left; (focus intro w'; go_simp; (try rw [if_pos HW6.out]); all_goals (with_reducible rfl)); rotate_left; (simp only [Act.put, Jn.s1, Jn.s2, Jn.s3, i64_w, i32_w]; rfl))
       refine oend_ ?_
       refine last_ (i := 12) (N := none) (qq 13 8191) rfl rfl (one_of HT_.out (by kernel_rfl)) (by decide) (fun K hK => ?_)
       obtain ⟨W1, hrun, hs1, hg1⟩ := Jn.H_run (P := Try.prog) Jn.kJ (j := 2) (seg := [v1]) (x' := (p.1, p.2.1, p.2.2 ++ o.f2)) (okp := (fun k_ => oki k_ ∨ (w.heap.size ≤ k_ ∧ n0 ≤ k_))) 33 v1 (Kd.R_val HR4.out).1 Jn.inf33 (by intro q hq; rw [List.mem_singleton.1 hq]; exact (Kd.R_val HR4.out).2) HH.out (by omega) (by omega) (show 3 ≤ 3 by decide) (Jn.kJ_mkR _ _ _ ((p.1, p.2.1, p.2.2 ++ o.f2) : Jn.T3) HR4.out) (fun _ hk => hk)
       refine Jn.store_skip (by rfl) rfl 33 (.tmp 62) (.tmp 60) rfl (ptr := .pointer (some ⟨gr, m * 3 + 2, none⟩)) (u := v1) rfl rfl hrun ?_
       have hgr : w.heap.size ≤ gr := Kd.R_base (Kd.S_R hs1) gr rfl
       have hset : (ys ++ [p]).set ((m : Int)).toNat (p.1, p.2.1, p.2.2 ++ o.f2) = ys ++ [(p.1, p.2.1, p.2.2 ++ o.f2)] := by
        have := HMM.out
        subst this
        simp
       rw [hset] at hs1
       have HS2 := zA (Kd.S_mono (ok' := fun k_ => w.heap.size ≤ k_) hs1 (fun k_ hk => hk))
       replace HB := zA (Jn.belowG HB.out hg1 HB.out.size (fun k_ hk => by injection hk with hk; rw [← hk]; exact hgr))
       refine hK.out _ _ ?_
       refine done_ (done_of HT_.out (by kernel_rfl)) ?_
       clear hK K hrun hs1 hg1 hgr hset
       try go_wp2
       go_roundg n1
       case measure => omega
       case rel => exact ⟨(.slice (some ⟨gr, 0, none⟩) (m + 1) cap), i + 1, (ys ++ [((p.1, p.2.1, p.2.2 ++ o.f2) : Jn.T3)]), (by first | rfl | (simp; done) | (simp [*]; done)), (by first | rfl | (simp; done) | (simp [*]; done)), ⟨by have := HI.out; omega⟩, HT3, HS2, HB, ⟨fun h => absurd h (by simp)⟩⟩
      | false =>
       rw [if_neg (by decide)] at hADD
       obtain rfl := Option.some.inj hADD
       clear hADD hE HAD
       go_wp2_with (first
        | ((with_reducible refine gate_dst (N := 46) rfl ?_); (with_reducible refine gate_builtin (b := .append) (xs := #[.tmp 43, .tmp 45]) rfl ?_); at_builtin; refine Kd.S_append Jn.kJ (w0 := w) w.heap.size rfl (.tmp 43) (.tmp 45) 34 47 (.agg #[(.int .i64 0), (.int .i64 0), (.slice none 0 0)]) 40 rfl Try.underlying34 Jn.info47 rfl (by decide) (by omega) (.slice (some ⟨gr, 0, none⟩) (m + 1) cap) (ys ++ [p]) ((0, 0, o.f2) : Jn.T3) [.int .i64 0, .int .i64 0, .slice A3 o.f2.length c3] (fun k_ => w.heap.size ≤ k_) (fun k_ => some k_ = (Value.slice A3 o.f2.length c3).ownBlock) rfl rfl ?aP ?aQ ?aF ?aO ?aB ?aS ?aL ?_; (case aP => exact Jn.kJ_mkR _ _ _ ((0, 0, o.f2) : Jn.T3) (Kd.R_tight rfl HQ.out)); (case aQ => exact fun k_ hk => by have h1 := HQ.out.1 k_ hk.symm; have h0 := HGB.out; have h2 := HNW.out; exact ⟨by omega, fun e => by have := ((Kd.S_R HS.out).1 k_ e.symm).2; omega⟩); (case aF => exact fun k_ hk => Nat.le_trans HB.out.size hk); (case aO => exact Kd.S_mono HS.out (fun k_ hk => ⟨hk.1, fun h => by have h1 := HQ.out.1 k_ h.symm; have := hk.2; have := HGB.out; omega⟩)); (case aB => exact HB.out); (case aS => exact HB.out.size); (case aL => have := HX.out; omega); intro v1 w1 hs1 hb1 hg1 hat; have HS2 := zA hs1; replace HB := zA hb1; replace ho0 := trivial; replace ho1 := trivial; replace ho2 := trivial; clear hs1 hb1 hg1 hat))
       go_roundg n1
       case measure => omega
       case rel => exact ⟨v1, i + 1, ((ys ++ [p]) ++ [((0, 0, o.f2) : Jn.T3)]), (by first | rfl | (simp; done) | (simp [*]; done)), (by first | rfl | (simp; done) | (simp [*]; done)), ⟨by have := HI.out; omega⟩, HT3, HS2, HB, ⟨fun h => absurd h (by simp)⟩⟩
  ·have ht : decide ((i : Int) < (l0.length : Int)) = false := zd2 (by omega)
   have htN : decide (i < l0.length) = false := zd2 hi
   have HAO : Aside0 (acc = out) := ⟨by
    have hT := HTH.out
    rw [List.drop_eq_nil_of_le (by omega)] at hT
    exact Option.some.inj hT⟩
   clear hi
   go_wp2
   go_ret
   refine ⟨_, rfl, Jn.iso_N (f := toT) ?_, HB.out⟩
   rw [map_to_of, ← HAO.out]
   exact Jn.N_of_S HS.out

def delta_told.f (a0_0 : Int) (a0_1 : Int) (l0_2 : List Int) : Option (Bool) := some (decide ((l0_2.length : Int) > 0))
set_option maxHeartbeats 8000000 in
set_option maxRecDepth 100000 in
theorem delta_told.calls (a0_0 : Int) (a0_1 : Int) (A0_2 : Option Addr) (c0_2 : Nat) (l0_2 : List Int) (r : Bool) (w : World) (hr0_2 : Kd.C (Kd.int .u8) w A0_2 l0_2.length l0_2) (hc0_2 : l0_2.length ≤ c0_2) (h : delta_told.f a0_0 a0_1 l0_2 = some r) :
    Calls Try.prog 38 #[.agg #[.int .i64 a0_0, .int .i64 a0_1, .slice A0_2 l0_2.length c0_2]] w fun e w' => e = .returned (.bool r) ∧ Below w.heap.size w w' := by
 have hu47 := Try.underlying47
 have HR0_2 := zA hr0_2
 have HC0_2 := zA hc0_2
 clear hr0_2 hc0_2
 have HB := zA (Below.refl w.heap.size w)
 have H : (some (decide ((l0_2.length : Int) > 0))) = some r := h
 clear h
 obtain rfl := Option.some.inj H
 go_enter Try.func38, Try.ntmps38
 go_wp2_with (first | ((with_reducible refine gate_dst (N := 1) rfl ?_); refine box_event ?hg (N := 1) ?hd (cs := #[.int .i64 a0_0, .int .i64 a0_1, .slice A0_2 l0_2.length c0_2]) (t := 47) ?hr ?_; (case hd => rfl); (case hg => rfl); (case hr => first | (go_simp; done) | (go_simp; rfl)); intro gb175 hg w2 hbox hb; have n0_ := zA (zb5 (by repeat (first | (with_reducible first | exact HB.out | apply zb3 | apply zb1 | apply zb2) | exact HB.out)) hb); have n1_ := zA (hbox); have n2_ := zA ((by rw [hg]; exact (zb6 (by repeat (first | (with_reducible first | exact HB.out | apply zb3 | apply zb1 | apply zb2) | exact HB.out))) : w.heap.size ≤ gb175)); have n3_ := zA ((by rw [hg]; exact (zb6 (by repeat (first | (with_reducible first | exact HB.out | apply zb3 | apply zb1 | apply zb2) | exact HB.out))) : w.heap.size ≤ gb175)); clear HB; have HB := n0_; have BK175 := n1_; have GW175 := n2_; have GE175 := n3_; clear n0_ n1_ n2_ n3_; clear hb hbox hg; have hcz3_0 : w2.cell? ⟨gb175, 0, none⟩ = some (.int .i64 a0_0) := (zc1 BK175.out 0).trans rfl; have hcz3_1 : w2.cell? ⟨gb175, 1, none⟩ = some (.int .i64 a0_1) := (zc1 BK175.out 1).trans rfl; have hcz3_2 : w2.cell? ⟨gb175, 2, none⟩ = some (.slice A0_2 l0_2.length c0_2) := (zc1 BK175.out 2).trans rfl; have hfz3_0 := zc5 BK175.out 0; have hfz3_1 := zc5 BK175.out 1; have hfz3_2 := zc5 BK175.out 2))
 go_ret
 exact ⟨by first | rfl | (simp [*] <;> rfl), by repeat (first | (with_reducible first | exact HB.out | apply zb3 | apply zb1 | apply zb2 | refine zb4 ?_ GE175.out) | exact HB.out)⟩

end Go.Proofs.Ytkihlcmjjoiccaa.PMatchCosts
