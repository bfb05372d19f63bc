-- Written by a program of this session (the kit's printer with hand-written contracts among its functions).
-- squeezed
import Derived.Test.YtjhgeppjpofjpaaDoorPSigReadsx0
import Derived.Test.YtjhgeppjpofjpaaDoorPSigReadsx2
namespace Go.Proofs.YtjhgeppjpofjpaaDoor.PSigReads
open Go.RowKit Go.Proofs.YtjhgeppjpofjpaaDoorW.PrintWords Go.Proofs.YtjhgeppjpofjpaaDoorW.PrintLast Go.Proofs.YtjhgeppjpofjpaaDoorW.PrintMore
attribute [local go_sem] max2_int min2_int max_two min_two max_three min_three max_four min_four   -- for this text's walks alone
set_option linter.unusedVariables false
set_option linter.unusedSimpArgs false

def sig_front.f (a0_0 : Int) (a0_1 : Int) (a0_2 : Int) (l0_3 : List (S44)) : Option (Int) := (sig_strong.f a0_2).bind fun t125 => (if t125 = true then ((blocks_Right.f a0_0 a0_1).bind fun t126 => (if t126 = true then (some 0) else (some 2))) else (some 2))
set_option maxHeartbeats 8000000 in
set_option maxRecDepth 100000 in
theorem sig_front.calls (a0_0 : Int) (a0_1 : Int) (a0_2 : Int) (A0_3 : Option Addr) (c0_3 : Nat) (l0_3 : List (S44)) (r : Int) (w : World) (hr0_3 : Kd.C k44 w A0_3 l0_3.length l0_3) (hc0_3 : l0_3.length ≤ c0_3) (h : sig_front.f a0_0 a0_1 a0_2 l0_3 = some r) :
    Calls Tryd.prog 44 #[.agg #[.int .i64 a0_0, .int .i64 a0_1, .int .i64 a0_2, .slice A0_3 l0_3.length c0_3]] w fun e w' => e = .returned (.int .i64 r) ∧ Below w.heap.size w w' := by
 have hu26 := Tryd.underlying26
 have HR0_3 := zA hr0_3
 have HC0_3 := zA hc0_3
 clear hr0_3 hc0_3
 have HB := zA (Below.refl w.heap.size w)
 have H : ((sig_strong.f a0_2).bind fun t125 => (if t125 = true then ((blocks_Right.f a0_0 a0_1).bind fun t126 => (if t126 = true then (some 0) else (some 2))) else (some 2))) = some r := h
 clear h
 replace H := Option.bind_eq_some_iff.mp H
 obtain ⟨t125, A20, H⟩ := H
 replace H : (if t125 = true then ((blocks_Right.f a0_0 a0_1).bind fun t126 => (if t126 = true then (some 0) else (some 2))) else (some 2)) = some r := H
 have A2 := zA A20
 clear A20
 by_cases c3 : t125 = true
 ·subst c3
  have H1 : ((blocks_Right.f a0_0 a0_1).bind fun t126 => (if t126 = true then (some 0) else (some 2))) = some r := by rw [if_pos rfl] at H; exact H
  clear H
  have H := H1
  clear H1
  replace H := Option.bind_eq_some_iff.mp H
  obtain ⟨t126, A40, H⟩ := H
  replace H : (if t126 = true then (some 0) else (some 2)) = some r := H
  have A4 := zA A40
  clear A40
  by_cases c5 : t126 = true
  ·subst c5
   have H1 : (some 0) = some r := by rw [if_pos rfl] at H; exact H
   clear H
   have H := H1
   clear H1
   obtain rfl := Option.some.inj H
   go_enter Tryd.func44, Tryd.ntmps44
   go_wp2_with (first | ((with_reducible refine gate_dst (N := 1) rfl ?_); refine box_event ?hg (N := 1) ?hd (cs := #[.int .i64 a0_0, .int .i64 a0_1, .int .i64 a0_2, .slice A0_3 l0_3.length c0_3]) (t := 26) ?hr ?_; (case hd => rfl); (case hg => rfl); (case hr => first | (go_simp; done) | (go_simp; rfl)); intro gb124 hg w6 hbox hb; have n0_ := zA (zb5 (by repeat (first | (with_reducible first | exact HB.out | apply zb3 | apply zb1 | apply zb2) | exact HB.out)) hb); have n1_ := zA (hbox); have n2_ := zA ((by rw [hg]; exact (zb6 (by repeat (first | (with_reducible first | exact HB.out | apply zb3 | apply zb1 | apply zb2) | exact HB.out))) : w.heap.size ≤ gb124)); have n3_ := zA ((by rw [hg]; exact (zb6 (by repeat (first | (with_reducible first | exact HB.out | apply zb3 | apply zb1 | apply zb2) | exact HB.out))) : w.heap.size ≤ gb124)); clear HB; have HB := n0_; have BK124 := n1_; have GW124 := n2_; have GE124 := n3_; clear n0_ n1_ n2_ n3_; clear hb hbox hg; have hcz7_0 : w6.cell? ⟨gb124, 0, none⟩ = some (.int .i64 a0_0) := (zc1 BK124.out 0).trans rfl; have hcz7_1 : w6.cell? ⟨gb124, 1, none⟩ = some (.int .i64 a0_1) := (zc1 BK124.out 1).trans rfl; have hcz7_2 : w6.cell? ⟨gb124, 2, none⟩ = some (.int .i64 a0_2) := (zc1 BK124.out 2).trans rfl; have hcz7_3 : w6.cell? ⟨gb124, 3, none⟩ = some (.slice A0_3 l0_3.length c0_3) := (zc1 BK124.out 3).trans rfl; have hfz7_0 := zc5 BK124.out 0; have hfz7_1 := zc5 BK124.out 1; have hfz7_2 := zc5 BK124.out 2; have hfz7_3 := zc5 BK124.out 3) | ((with_reducible refine gate_callee (f := 30) rfl ?_); refine goesL_ (some 5) rfl rfl Tryd.func30 (by kernel_rfl) rfl #[.int .i64 a0_2] rfl (by (try simp only [zm1, zm2, zm3]); first | done | rfl | (simp only [List.length_drop, List.length_take]; rfl)) ?_; (with_reducible refine (sig_strong.calls a0_2 true _ A2.out).mono ?_); rintro e w' ⟨rfl, ⟨nd, rfl⟩⟩; refine ⟨_, rfl, ?_⟩) | (go_at_call 68; (with_reducible refine (blocks_Right.calls a0_0 a0_1 true _ A4.out).mono ?_); rintro e w' ⟨rfl, ⟨nd, rfl⟩⟩))
   go_ret
   exact ⟨by first | rfl | (simp [*] <;> rfl), by repeat (first | (with_reducible first | exact HB.out | apply zb3 | apply zb1 | apply zb2 | refine zb4 ?_ GE124.out) | exact HB.out)⟩
  ·replace c5 := Bool.eq_false_iff.mpr c5
   subst c5
   have H1 : (some 2) = some r := by rw [if_neg (show ¬ (false = true) by decide)] at H; exact H
   clear H
   have H := H1
   clear H1
   obtain rfl := Option.some.inj H
   go_enter Tryd.func44, Tryd.ntmps44
   go_wp2_with (first | ((with_reducible refine gate_dst (N := 1) rfl ?_); refine box_event ?hg (N := 1) ?hd (cs := #[.int .i64 a0_0, .int .i64 a0_1, .int .i64 a0_2, .slice A0_3 l0_3.length c0_3]) (t := 26) ?hr ?_; (case hd => rfl); (case hg => rfl); (case hr => first | (go_simp; done) | (go_simp; rfl)); intro gb124 hg w8 hbox hb; have n0_ := zA (zb5 (by repeat (first | (with_reducible first | exact HB.out | apply zb3 | apply zb1 | apply zb2) | exact HB.out)) hb); have n1_ := zA (hbox); have n2_ := zA ((by rw [hg]; exact (zb6 (by repeat (first | (with_reducible first | exact HB.out | apply zb3 | apply zb1 | apply zb2) | exact HB.out))) : w.heap.size ≤ gb124)); have n3_ := zA ((by rw [hg]; exact (zb6 (by repeat (first | (with_reducible first | exact HB.out | apply zb3 | apply zb1 | apply zb2) | exact HB.out))) : w.heap.size ≤ gb124)); clear HB; have HB := n0_; have BK124 := n1_; have GW124 := n2_; have GE124 := n3_; clear n0_ n1_ n2_ n3_; clear hb hbox hg; have hcz9_0 : w8.cell? ⟨gb124, 0, none⟩ = some (.int .i64 a0_0) := (zc1 BK124.out 0).trans rfl; have hcz9_1 : w8.cell? ⟨gb124, 1, none⟩ = some (.int .i64 a0_1) := (zc1 BK124.out 1).trans rfl; have hcz9_2 : w8.cell? ⟨gb124, 2, none⟩ = some (.int .i64 a0_2) := (zc1 BK124.out 2).trans rfl; have hcz9_3 : w8.cell? ⟨gb124, 3, none⟩ = some (.slice A0_3 l0_3.length c0_3) := (zc1 BK124.out 3).trans rfl; have hfz9_0 := zc5 BK124.out 0; have hfz9_1 := zc5 BK124.out 1; have hfz9_2 := zc5 BK124.out 2; have hfz9_3 := zc5 BK124.out 3) | ((with_reducible refine gate_callee (f := 30) rfl ?_); refine goesL_ (some 5) rfl rfl Tryd.func30 (by kernel_rfl) rfl #[.int .i64 a0_2] rfl (by (try simp only [zm1, zm2, zm3]); first | done | rfl | (simp only [List.length_drop, List.length_take]; rfl)) ?_; (with_reducible refine (sig_strong.calls a0_2 true _ A2.out).mono ?_); rintro e w' ⟨rfl, ⟨nd, rfl⟩⟩; refine ⟨_, rfl, ?_⟩) | (go_at_call 68; (with_reducible refine (blocks_Right.calls a0_0 a0_1 false _ A4.out).mono ?_); rintro e w' ⟨rfl, ⟨nd, rfl⟩⟩))
   go_ret
   exact ⟨by first | rfl | (simp [*] <;> rfl), by repeat (first | (with_reducible first | exact HB.out | apply zb3 | apply zb1 | apply zb2 | refine zb4 ?_ GE124.out) | exact HB.out)⟩
 ·replace c3 := Bool.eq_false_iff.mpr c3
  subst c3
  have H1 : (some 2) = some r := by rw [if_neg (show ¬ (false = true) by decide)] at H; exact H
  clear H
  have H := H1
  clear H1
  obtain rfl := Option.some.inj H
  go_enter Tryd.func44, Tryd.ntmps44
  go_wp2_with (first | ((with_reducible refine gate_dst (N := 1) rfl ?_); refine box_event ?hg (N := 1) ?hd (cs := #[.int .i64 a0_0, .int .i64 a0_1, .int .i64 a0_2, .slice A0_3 l0_3.length c0_3]) (t := 26) ?hr ?_; (case hd => rfl); (case hg => rfl); (case hr => first | (go_simp; done) | (go_simp; rfl)); intro gb124 hg w10 hbox hb; have n0_ := zA (zb5 (by repeat (first | (with_reducible first | exact HB.out | apply zb3 | apply zb1 | apply zb2) | exact HB.out)) hb); have n1_ := zA (hbox); have n2_ := zA ((by rw [hg]; exact (zb6 (by repeat (first | (with_reducible first | exact HB.out | apply zb3 | apply zb1 | apply zb2) | exact HB.out))) : w.heap.size ≤ gb124)); have n3_ := zA ((by rw [hg]; exact (zb6 (by repeat (first | (with_reducible first | exact HB.out | apply zb3 | apply zb1 | apply zb2) | exact HB.out))) : w.heap.size ≤ gb124)); clear HB; have HB := n0_; have BK124 := n1_; have GW124 := n2_; have GE124 := n3_; clear n0_ n1_ n2_ n3_; clear hb hbox hg; have hcz11_0 : w10.cell? ⟨gb124, 0, none⟩ = some (.int .i64 a0_0) := (zc1 BK124.out 0).trans rfl; have hcz11_1 : w10.cell? ⟨gb124, 1, none⟩ = some (.int .i64 a0_1) := (zc1 BK124.out 1).trans rfl; have hcz11_2 : w10.cell? ⟨gb124, 2, none⟩ = some (.int .i64 a0_2) := (zc1 BK124.out 2).trans rfl; have hcz11_3 : w10.cell? ⟨gb124, 3, none⟩ = some (.slice A0_3 l0_3.length c0_3) := (zc1 BK124.out 3).trans rfl; have hfz11_0 := zc5 BK124.out 0; have hfz11_1 := zc5 BK124.out 1; have hfz11_2 := zc5 BK124.out 2; have hfz11_3 := zc5 BK124.out 3) | ((with_reducible refine gate_callee (f := 30) rfl ?_); refine goesL_ (some 5) rfl rfl Tryd.func30 (by kernel_rfl) rfl #[.int .i64 a0_2] rfl (by (try simp only [zm1, zm2, zm3]); first | done | rfl | (simp only [List.length_drop, List.length_take]; rfl)) ?_; (with_reducible refine (sig_strong.calls a0_2 false _ A2.out).mono ?_); rintro e w' ⟨rfl, ⟨nd, rfl⟩⟩; refine ⟨_, rfl, ?_⟩))
  go_ret
  exact ⟨by first | rfl | (simp [*] <;> rfl), by repeat (first | (with_reducible first | exact HB.out | apply zb3 | apply zb1 | apply zb2 | refine zb4 ?_ GE124.out) | exact HB.out)⟩

-- NOT PRINTED: function 69 (api_Mark_69)

-- NOT PRINTED: function 46 (api_Mark_46)

-- The closure of Check: g is the block of the signature.
set_option maxHeartbeats 8000000 in
set_option maxRecDepth 100000 in
theorem sig_Check1.calls (g : Nat) (n : Int) (wk : Int) (st : ByteArray) (w : World) (hs : w.cell? ⟨g, 2, none⟩ = some (.int .i64 n)) :
    Calls Tryd.prog 47 #[.agg #[.int .u32 wk, .string st], .pointer (some ⟨g, 0, none⟩)] w fun e w' => e = .returned (.bool ((st.size : Int) != n)) ∧ Below w.heap.size w w' := by
 have hlt := World.block_lt_of_cell? w ⟨g, 2, none⟩ hs
 have HS := zA hs
 have HLT := zA hlt
 clear hs hlt
 go_enter Tryd.func47, Tryd.ntmps47
 go_wp2_with (first | ((with_reducible refine gate_dst (N := 2) rfl ?_); refine box_event ?hg (N := 2) ?hd (cs := #[.int .u32 wk, .string st]) (t := 44) ?hr ?_; (case hd => rfl); (case hg => rfl); (case hr => first | (go_simp; done) | (go_simp; rfl)); intro g1 hg1 w1 hA hq; have HB := zA hq; have hc0 : w1.cell? ⟨g1, 1, none⟩ = some (.string st) := (by rw [zc1 hA]; rfl); have hc1 := pw_cell_below hq HS.out; clear hA hq hg1))
 go_ret
 exact ⟨rfl, HB.out⟩
-- slices.IndexFunc over the closure of Check: whether any mark has another length.
def anyOff (n : Int) (l : List S44) (i : Nat) : Bool := (l.drop i).any fun m => (m.f1.size : Int) != n
theorem anyOff_step (n : Int) (l : List S44) (i : Nat) (h : i < l.length) : anyOff n l i = (((rd_T44 l (i : Int)).f1.size : Int) != n || anyOff n l (i + 1)) := by
 unfold anyOff rd_T44
 rw [List.drop_eq_getElem_cons h, List.any_cons, Int.toNat_natCast, List.getD_eq_getElem?_getD, List.getElem?_eq_getElem h]
 rfl
set_option maxHeartbeats 8000000 in
set_option maxRecDepth 100000 in
theorem sig_IndexFunc.calls (g : Nat) (n : Int) (A0 : Option Addr) (c0 : Nat) (l0 : List S44) (w : World) (hs : w.cell? ⟨g, 2, none⟩ = some (.int .i64 n)) (hr0 : Kd.C k44 w A0 l0.length l0) (hn : l0.length ≤ 1000000) :
    Calls Tryd.prog 69 #[.slice A0 l0.length c0, .func (.func 47) #[] #[.pointer (some ⟨g, 0, none⟩)]] w fun e w' => ∃ r : Int, e = .returned (.int .i64 r) ∧ (decide (r ≥ 0) = anyOff n l0 0) ∧ Below w.heap.size w w' := by
 have HS := zA hs
 have HR := zA hr0
 obtain ⟨m, hm⟩ : ∃ m : Nat, m = l0.length := ⟨_, rfl⟩
 rw [← hm] at hn ⊢
 have HM := zA hm
 have HN := zA hn
 clear hs hr0 hm hn
 go_enter Tryd.func69, Tryd.ntmps69
 go_wp2
 go_loopg [8] (m + 1) (fun kq v8 w' => ∃ i : Nat, v8 = .int .i64 (i : Int) ∧ Aside0 (i + kq = m + 1 ∧ i ≤ m ∧ anyOff n l0 0 = anyOff n l0 i) ∧ Aside0 (Below w.heap.size w w'))
 case atStart => exact ⟨0, rfl, ⟨by omega, by omega, rfl⟩, ⟨by repeat (first | exact Below.refl _ _ | apply zb2 | apply zb1)⟩⟩
 case round =>
  obtain ⟨i, rfl, hk, HB⟩ := hrel
  by_cases hlt : i < m
  ·obtain ⟨k1, rfl⟩ : ∃ k1, gk = k1 + 1 := ⟨gk - 1, by have := hk.out.1; omega⟩
   have HI := zA hlt
   have d1 : decide ((i : Int) < (m : Int)) = true := zd1 (by omega)
   have d2 : decide (i < m) = true := zd1 hlt
   have p0 := eq_true (show (i : Int) < (m : Int) by omega)
   have o0 := eq_true (show (0 : Int) ≤ (i : Int) by omega)
   have hmm := HM.out
   obtain ⟨ad, ead, hx0, hx1⟩ := at_T44 HR.out (i : Int) (by omega) (by omega)
   cases ead
   clear hmm
   have HA := zA (anyOff_step n l0 i (by have := HM.out; omega))
   replace hx0 := (HB.out.cell (World.block_lt_of_cell? w _ hx0)).trans hx0
   replace hx1 := (HB.out.cell (World.block_lt_of_cell? w _ hx1)).trans hx1
   rw [Int.toNat_natCast] at hx0 hx1
   obtain ⟨wk, hwk⟩ : ∃ wk, wk = (rd_T44 l0 (i : Int)).f0 := ⟨_, rfl⟩
   obtain ⟨st, hst⟩ : ∃ st, st = (rd_T44 l0 (i : Int)).f1 := ⟨_, rfl⟩
   rw [← hwk] at hx0
   rw [← hst] at hx1 HA
   have HBS := zA ((HB.out.cell (World.block_lt_of_cell? w _ HS.out)).trans HS.out)
   clear hwk hst
   go_wp2_with fail
   refine (sig_Check1.calls g n wk st _ (by first | exact HBS.out | (have h1 := HBS.out; simpa using h1))).mono ?_
   rintro e w' ⟨rfl, hb⟩
   have HB1 := zA (HB.out.trans (hb.mono HB.out.size))
   clear hb
   by_cases hne : ((st.size : Int) != n) = true
   ·rw [hne]
    go_wp2_with fail
    go_ret
    exact ⟨(i : Int), rfl, by rw [hk.out.2.2, HA.out, hne, Bool.true_or]; simp, HB1.out⟩
   ·rw [Bool.not_eq_true] at hne
    rw [hne]
    have HA' := zA (show anyOff n l0 i = anyOff n l0 (i + 1) by rw [HA.out, hne, Bool.false_or])
    clear hne
    go_wp2_with fail
    rw [show wrap64 ((i : Int) + 1) = ((i + 1 : Nat) : Int) by have := HN.out; have := HI.out; unfold wrap64; omega]
    go_roundg k1
    case measure => have := hk.out.1; omega
    case rel => exact ⟨i + 1, rfl, ⟨by have h1 := hk.out; have := HI.out; exact ⟨by omega, by omega, by rw [h1.2.2, HA'.out]⟩⟩, ⟨HB1.out⟩⟩
  ·have hme : i = m := by have := hk.out.2.1; omega
   subst hme
   have hmm := HM.out
   have HA := zA (show anyOff n l0 0 = false by rw [hk.out.2.2]; unfold anyOff; rw [hmm, List.drop_length]; rfl)
   clear hmm hlt
   go_wp2_with fail
   go_ret
   exact ⟨-1, rfl, by rw [HA.out]; rfl, HB.out⟩
set_option maxHeartbeats 8000000 in
set_option maxRecDepth 100000 in
theorem sig_ContainsFunc.calls (g : Nat) (n : Int) (A0 : Option Addr) (c0 : Nat) (l0 : List S44) (w : World) (hs : w.cell? ⟨g, 2, none⟩ = some (.int .i64 n)) (hr0 : Kd.C k44 w A0 l0.length l0) (hn : l0.length ≤ 1000000) :
    Calls Tryd.prog 46 #[.slice A0 l0.length c0, .func (.func 47) #[] #[.pointer (some ⟨g, 0, none⟩)]] w fun e w' => e = .returned (.bool (anyOff n l0 0)) ∧ Below w.heap.size w w' := by
 have HS := zA hs
 have HR := zA hr0
 have HN := zA hn
 clear hs hr0 hn
 go_enter Tryd.func46, Tryd.ntmps46
 go_wp2_with fail
 refine (sig_IndexFunc.calls g n A0 c0 l0 _ HS.out HR.out HN.out).mono ?_
 rintro e w' ⟨r, rfl, hr, hb⟩
 have HB1 := zA hb
 clear hb
 go_wp2_with fail
 go_ret
 refine ⟨?_, HB1.out⟩
 rw [← hr]
 rfl
def sig_Check.f (a0_0 : Int) (a0_1 : Int) (a0_2 : Int) (l0_3 : List S44) : Option Int :=
 (sig_front.f a0_0 a0_1 a0_2 l0_3).bind fun e => if e = 0 then (blocks_Count.f a0_0 a0_1).bind fun n => if (l0_3.length : Int) = n then (if l0_3.length ≤ 1000000 then (if anyOff a0_2 l0_3 0 = true then some 5 else some 0) else none) else some 5 else some e
def sig_Check.T4 : Bool × List (List Nat × List Nat) := (true, [([], []), ([0], [0]), ([1], [1]), ([], []), ([3], [3]), ([], []), ([5], [5]), ([4, 6], [4, 6]), ([2, 7], [2, 7]), ([8, 7], [8])])
def sig_Check.B4 : List Nat := [0, 1, 3, 0, 8, 0, 32, 120, 255, 511]
theorem sig_Check.tab4 : rtab .any (opsOf Tryd.f19 4) = sig_Check.T4 := by kernel_rfl
theorem sig_Check.bits4 : waitsOk sig_Check.T4.2 sig_Check.B4 = true := by kernel_rfl
set_option maxHeartbeats 8000000 in
set_option maxRecDepth 100000 in
theorem sig_Check.calls (a0_0 : Int) (a0_1 : Int) (a0_2 : Int) (A0_3 : Option Addr) (c0_3 : Nat) (l0_3 : List S44) (r : Int) (w : World) (hr0_3 : Kd.C k44 w A0_3 l0_3.length l0_3) (hc0_3 : l0_3.length ≤ c0_3) (h : sig_Check.f a0_0 a0_1 a0_2 l0_3 = some r) :
    Calls Tryd.prog 19 #[.agg #[.int .i64 a0_0, .int .i64 a0_1, .int .i64 a0_2, .slice A0_3 l0_3.length c0_3]] w fun e w' => e = .returned (.int .i64 r) ∧ Below w.heap.size w w' := by
 have hu := Tryd.underlying26
 have HR := zA hr0_3
 have HC := zA hc0_3
 clear hr0_3 hc0_3
 obtain ⟨e1, he1, h⟩ := Option.bind_eq_some_iff.mp (show ((sig_front.f a0_0 a0_1 a0_2 l0_3).bind fun e => if e = 0 then (blocks_Count.f a0_0 a0_1).bind fun n => if (l0_3.length : Int) = n then (if l0_3.length ≤ 1000000 then (if anyOff a0_2 l0_3 0 = true then some 5 else some 0) else none) else some 5 else some e) = some r from h)
 replace h : (if e1 = 0 then (blocks_Count.f a0_0 a0_1).bind fun n => if (l0_3.length : Int) = n then (if l0_3.length ≤ 1000000 then (if anyOff a0_2 l0_3 0 = true then some 5 else some 0) else none) else some 5 else some e1) = some r := h
 have HE := zA he1
 have H := zA h
 clear he1 h
 go_enter Tryd.func19, Tryd.ntmps19
 go_wp2_with (first | ((with_reducible refine gate_dst (N := 1) rfl ?_); refine box_event ?hg (N := 1) ?hd (cs := #[.int .i64 a0_0, .int .i64 a0_1, .int .i64 a0_2, .slice A0_3 l0_3.length c0_3]) (t := 26) ?hr ?_; (case hd => rfl); (case hg => rfl); (case hr => first | (go_simp; done) | (go_simp; rfl)); intro g1 hg1 w1 hA hq; have HB := zA hq; have HBK := zA hA; have hc0 : w1.cell? ⟨g1, 0, none⟩ = some (.int .i64 a0_0) := (by rw [zc1 hA]; rfl); have hc1 : w1.cell? ⟨g1, 1, none⟩ = some (.int .i64 a0_1) := (by rw [zc1 hA]; rfl); have hc2 : w1.cell? ⟨g1, 2, none⟩ = some (.int .i64 a0_2) := (by rw [zc1 hA]; rfl); have hc3 : w1.cell? ⟨g1, 3, none⟩ = some (.slice A0_3 l0_3.length c0_3) := (by rw [zc1 hA]; rfl); clear hA hq hg1))
 refine (sig_front.calls a0_0 a0_1 a0_2 A0_3 c0_3 l0_3 e1 _ (Kd.C_below HR.out HB.out) HC.out HE.out).mono ?_
 rintro e w2 ⟨rfl, hb⟩
 have HB2 := zA (zb5 HB.out hb)
 have HBK2 := zA (zc6 HBK.out hb)
 replace hc0 : w2.cell? ⟨g1, 0, none⟩ = some (.int .i64 a0_0) := (by rw [zc1 HBK2.out]; rfl)
 replace hc1 : w2.cell? ⟨g1, 1, none⟩ = some (.int .i64 a0_1) := (by rw [zc1 HBK2.out]; rfl)
 replace hc2 : w2.cell? ⟨g1, 2, none⟩ = some (.int .i64 a0_2) := (by rw [zc1 HBK2.out]; rfl)
 replace hc3 : w2.cell? ⟨g1, 3, none⟩ = some (.slice A0_3 l0_3.length c0_3) := (by rw [zc1 HBK2.out]; rfl)
 clear hb
 by_cases he : e1 = 0
 ·subst he
  have H' := zA ((if_pos rfl).symm.trans H.out)
  clear H
  go_wp2_with fail
  obtain ⟨n, hn, h2⟩ := Option.bind_eq_some_iff.mp H'.out
  replace h2 : (if (l0_3.length : Int) = n then (if l0_3.length ≤ 1000000 then (if anyOff a0_2 l0_3 0 = true then some 5 else some 0) else none) else some 5) = some r := h2
  have HN := zA hn
  have H2 := zA h2
  clear hn h2 H'
  refine start_ (n := 10) (S := fun w' => w'.cell? ⟨g1, 0, none⟩ = some (.int .i64 a0_0) ∧ w'.cell? ⟨g1, 1, none⟩ = some (.int .i64 a0_1) ∧ w'.cell? ⟨g1, 3, none⟩ = some (.slice A0_3 l0_3.length c0_3)) (ds := []) #[false, false, false, false, false, false, false, false, false, false] (by kernel_rfl) rfl rfl ⟨hc0, hc1, hc3⟩ (fun hHeld => ?_); refine with_tabW sig_Check.tab4 sig_Check.bits4 (fun HT_ HW_ => ?_)
  refine pure_ (i := 0) (N := some 11) (v := ?_) (a' := ?_) #[true, false, false, false, false, false, false, false, false, false] rfl rfl (any_of HT_.out (by kernel_rfl)) (fun _ _ _ h => h) (Or.inl ⟨by rfl, ?_⟩) ?_ ?_
  rotate_left
  ·intro w'
   go_simp
   with_reducible rfl
  rotate_left
  ·simp only [Act.put, zs1, zs2, zs3, i64_w, i32_w]
   rfl
  refine pure_ (i := 3) (N := some 14) (v := ?_) (a' := ?_) #[true, false, false, true, false, false, false, false, false, false] rfl rfl (any_of HT_.out (by kernel_rfl)) (fun _ _ _ h => h) (Or.inl ⟨by rfl, ?_⟩) ?_ ?_
  rotate_left
  ·intro w'
   go_simp
   with_reducible rfl
  rotate_left
  ·simp only [Act.put, zs1, zs2, zs3, i64_w, i32_w]
   rfl
  refine pure_ (i := 5) (N := some 16) (v := ?_) (a' := ?_) #[true, false, false, true, false, true, false, false, false, false] rfl rfl (any_of HT_.out (by kernel_rfl)) (fun _ _ _ h => h) (Or.inl ⟨by rfl, ?_⟩) ?_ ?_
  rotate_left
  ·intro w'
   go_simp
   with_reducible rfl
  rotate_left
  ·simp only [Act.put, zs1, zs2, zs3, i64_w, i32_w]
   rfl
  refine take_ (i := 1) (N := some 12) (v := ?_) (a' := ?_) #[true, true, false, true, false, true, false, false, false, false] rfl rfl (take_ofW HT_.out HW_.out (by kernel_rfl)) (fun _ _ _ h => h) (Or.inl ⟨by rfl, ?_⟩) hHeld ?_ ?_
  rotate_left
  ·rintro w' ⟨s0, s1, s2⟩
   go_simp
   with_reducible rfl
  rotate_left
  ·simp only [Act.put, zs1, zs2, zs3, i64_w, i32_w]
   rfl
  refine pure_ (i := 2) (N := some 13) (v := ?_) (a' := ?_) #[true, true, true, true, false, true, false, false, false, false] rfl rfl (any_of HT_.out (by kernel_rfl)) (fun _ _ _ h => h) (Or.inl ⟨by rfl, ?_⟩) ?_ ?_
  rotate_left
  ·intro w'
   go_simp
   with_reducible rfl
  rotate_left
  ·simp only [Act.put, zs1, zs2, zs3, i64_w, i32_w]
   rfl
  refine take_ (i := 4) (N := some 15) (v := ?_) (a' := ?_) #[true, true, true, true, true, true, false, false, false, false] rfl rfl (take_ofW HT_.out HW_.out (by kernel_rfl)) (fun _ _ _ h => h) (Or.inl ⟨by rfl, ?_⟩) hHeld ?_ ?_
  rotate_left
  ·rintro w' ⟨s0, s1, s2⟩
   go_simp
   with_reducible rfl
  rotate_left
  ·simp only [Act.put, zs1, zs2, zs3, i64_w, i32_w]
   rfl
  refine take_ (i := 6) (N := some 17) (v := ?_) (a' := ?_) #[true, true, true, true, true, true, true, false, false, false] rfl rfl (take_ofW HT_.out HW_.out (by kernel_rfl)) (fun _ _ _ h => h) (Or.inl ⟨by rfl, ?_⟩) hHeld ?_ ?_
  rotate_left
  ·rintro w' ⟨s0, s1, s2⟩
   go_simp
   with_reducible rfl
  rotate_left
  ·simp only [Act.put, zs1, zs2, zs3, i64_w, i32_w]
   rfl
  refine one_ (i := 7) (N := some 18) #[true, true, true, true, true, true, true, true, false, false] rfl rfl (one_of HT_.out (by kernel_rfl)) (by decide) (fun K hK => ?_)
  refine goes_ Tryd.func45 (by kernel_rfl) rfl #[.int .i64 a0_0, .int .i64 a0_1] (by rfl) rfl rfl (by (try simp only [zm1, zm2, zm3]); first | done | rfl) ?_
  with_reducible refine (blocks_Count.calls a0_0 a0_1 n _ HN.out).mono ?_
  rintro e w' ⟨rfl, ⟨nd, rfl⟩⟩
  refine ⟨_, rfl, ?_⟩
  refine hK.out _ _ hHeld (fun hHeld => ?_)
  clear hK K
  refine norm_ (a' := ?_) ?_ ?_
  rotate_left
  ·show Act.put _ (some 18) _ = _
   simp only [Act.put, zs1, zs2, zs3, i64_w, i32_w]
   rfl
  refine pure_ (i := 8) (N := some 19) (v := ?_) (a' := ?_) #[true, true, true, true, true, true, true, true, true, false] rfl rfl (any_of HT_.out (by kernel_rfl)) (fun _ _ _ h => h) (Or.inl ⟨by rfl, ?_⟩) ?_ ?_
  rotate_left
  ·intro w'
   go_simp
   with_reducible rfl
  rotate_left
  ·simp only [Act.put, zs1, zs2, zs3, i64_w, i32_w]
   rfl
  refine pure_ (i := 9) (N := some 10) (v := ?_) (a' := ?_) #[true, true, true, true, true, true, true, true, true, true] rfl rfl (any_of HT_.out (by kernel_rfl)) (fun _ _ _ h => h) (Or.inl ⟨by rfl, ?_⟩) ?_ ?_
  rotate_left
  ·intro w'
   go_simp
   with_reducible rfl
  rotate_left
  ·simp only [Act.put, zs1, zs2, zs3, i64_w, i32_w]
   rfl
  refine done_ (done_of HT_.out (by kernel_rfl)) ?_
  go_simp
  clear hc0 hc1
  by_cases hl : (l0_3.length : Int) = n
  ·subst hl
   have H3 := (if_pos rfl).symm.trans H2.out
   clear H2
   by_cases hm : l0_3.length ≤ 1000000
   ·rw [if_pos hm] at H3
    have HM := zA hm
    have H3' := zA H3
    clear hm H3
    have d1 : ((l0_3.length : Int) != (l0_3.length : Int)) = false := by simp
    go_wp2_with fail
    refine (sig_ContainsFunc.calls g1 a0_2 A0_3 c0_3 l0_3 (w2.drewN (1 + nd)) hc2 (Kd.C_drewN (Kd.C_below HR.out HB2.out) _) HM.out).mono ?_
    rintro e w3 ⟨rfl, hb⟩
    have HB3 := zA (zb5 (zb1 HB2.out (1 + nd)) hb)
    clear hb
    by_cases ha : anyOff a0_2 l0_3 0 = true
    ·have H4 := zA (Option.some.inj ((if_pos ha).symm.trans H3'.out))
     rw [ha]
     clear ha
     go_wp2_with fail
     go_ret
     exact ⟨by rw [← H4.out]; rfl, HB3.out⟩
    ·have H4 := zA (Option.some.inj ((if_neg ha).symm.trans H3'.out))
     rw [Bool.not_eq_true] at ha
     rw [ha]
     clear ha
     go_wp2_with fail
     go_ret
     exact ⟨by rw [← H4.out]; rfl, HB3.out⟩
   ·rw [if_neg hm] at H3
    cases H3
  ·have H3 := zA (Option.some.inj ((if_neg hl).symm.trans H2.out))
   have d1 : ((l0_3.length : Int) != n) = true := by simpa using hl
   go_wp2_with fail
   go_ret
   exact ⟨by rw [← H3.out]; rfl, zb1 HB2.out _⟩
 ·have H' := zA (Option.some.inj ((if_neg he).symm.trans H.out))
  have d1 : (e1 != 0) = true := by simpa using he
  clear H
  go_wp2_with fail
  go_ret
  exact ⟨by rw [← H'.out]; rfl, HB2.out⟩


theorem bits32_range (op : BinOp) (x y : Int) : 0 ≤ Go.bits op .u32 x y ∧ Go.bits op .u32 x y ≤ 4294967295 := by
 unfold Go.bits
 simp only [IntKind.wrap_u32]
 omega
theorem and15_range (x : Int) : 0 ≤ Go.bits .and .u32 x 15 ∧ Go.bits .and .u32 x 15 < 16 := by
 unfold Go.bits
 simp only [IntKind.wrap_u32]
 have h : (BitVec.ofInt IntKind.u32.bits x &&& BitVec.ofInt IntKind.u32.bits 15).toNat ≤ 15 := by
  rw [BitVec.toNat_and]
  exact Nat.le_trans Nat.and_le_right (by decide)
 omega
theorem byte_at {k : IntKind} {w : World} {A : Option Addr} {n : Nat} {xs : List Int} (h : (Kd.int k).C w A n xs) (i : Nat) (hi : i < n) : ∃ ad, A = some ad ∧ w.cell? (ad.add i) = some (.int k (xs.getD i 0)) := by
 obtain ⟨ad, c, e, hs, hK, hc⟩ := Kd.C_get h (0 : Int) (i : Int) (by omega) (by omega)
 have hK' : c = [.int k (xs.getD i 0)] := by have := hK; rwa [Int.toNat_natCast] at this
 refine ⟨ad, e, ?_⟩
 have := hc 0 (.int k (xs.getD i 0)) (by rw [hK']; rfl)
 rwa [Int.toNat_natCast, show (Kd.int k).sz = 1 from rfl, Nat.mul_one, Nat.add_zero] at this
theorem row_at {e : Nat} {k : IntKind} {w : World} {A : Option Addr} {n : Nat} {xs : List (List Int)} (h : Kd.C (Kd.slice e (Kd.int k)) w A n xs) (i : Nat) (hi : i < n) :
    ∃ ad A0 c0, A = some ad ∧ w.cell? (ad.add i) = some (.slice A0 (xs.getD i []).length c0) ∧ (xs.getD i []).length ≤ c0 ∧ (Kd.int k).C w A0 (xs.getD i []).length (xs.getD i []) := by
 obtain ⟨ad, c, ea, hs, hK, hc⟩ := Kd.C_get h ([] : List Int) (i : Int) (by omega) (by omega)
 obtain ⟨A0, c0, rfl, hl, hr⟩ := hK
 rw [Int.toNat_natCast] at hl hr hc
 exact ⟨ad, A0, c0, ea, by have hq := hc 0 _ rfl; rwa [show (Kd.slice e (Kd.int k)).sz = 1 from rfl, Nat.mul_one, Nat.add_zero] at hq, hl, hr⟩
theorem foldl_take {α β : Type} (f : β → α → β) (z : β) (xs : List α) (d : α) (i : Nat) (h : i < xs.length) : (xs.take (i + 1)).foldl f z = f ((xs.take i).foldl f z) (xs.getD i d) := by
 rw [List.take_succ_eq_append_getElem h, List.foldl_append, List.getD_eq_getElem?_getD, List.getElem?_eq_getElem h]
 rfl
def crcHalf (x : Int) : Int := Go.bits .xor .u32 (x / 16) (tab_table[(Go.bits .and .u32 x 15).toNat]?.getD 0)
def crcByte (x c : Int) : Int := crcHalf (crcHalf (Go.bits .xor .u32 x (c % 4294967296)))
def crcRow (x : Int) (b : List Int) : Int := b.foldl crcByte x
def crc_Of.f (l0 : List (List Int)) : Option Int := some (Go.bits .xor .u32 4294967295 (l0.foldl crcRow 4294967295))
set_option maxHeartbeats 8000000 in
set_option maxRecDepth 100000 in
theorem crc_Of.calls (A0 : Option Addr) (c0 : Nat) (l0 : List (List Int)) (r : Int) (w : World) (hr0 : Kd.C (Kd.slice 5 (Kd.int .u8)) w A0 l0.length l0) (hc0 : l0.length ≤ c0) (h : crc_Of.f l0 = some r) (hG : GL w) :
    Calls Tryd.prog 76 #[.slice A0 l0.length c0] w fun e w' => e = .returned (.int .u32 r) ∧ Drawn0 w w' := by
 obtain rfl := Option.some.inj h
 have HR := zA hr0
 have HC := zA hc0
 have HG := zA hG
 have HN := zA (show l0.length ≤ 9223372036854775807 from hr0.2.1)
 clear hr0 hc0 h hG
 go_enter Tryd.func76, Tryd.ntmps76
 go_wp2
 go_loopg [3, 10] (l0.length + 1) (fun kq v3 v10 w' => ∃ i : Nat, v3 = .int .u32 ((l0.take i).foldl crcRow 4294967295) ∧ v10 = .int .i64 (i : Int) ∧ Aside0 (i + kq = l0.length + 1 ∧ i ≤ l0.length) ∧ w' = w)
 case atStart => exact ⟨0, rfl, rfl, ⟨by omega, by omega⟩, rfl⟩
 case round =>
  obtain ⟨i, rfl, rfl, hk, rfl⟩ := hrel
  by_cases hlt : i < l0.length
  ·obtain ⟨ad, A1, c1, e1, hx, hc1, hr1⟩ := row_at HR.out i hlt
   subst e1
   have hfold := foldl_take crcRow 4294967295 l0 [] i hlt
   generalize (l0.take i).foldl crcRow 4294967295 = x0 at hfold ⊢
   generalize hb : l0.getD i [] = b at hx hc1 hr1 hfold
   have HF := zA hfold
   have hn1 : b.length ≤ 9223372036854775807 := hr1.2.1
   have HR1 := zA hr1
   have HN1 := zA hn1
   have HLT := zA hlt
   have d1 : decide ((i : Int) < (l0.length : Int)) = true := zd1 (by omega)
   have d2 : decide (i < l0.length) = true := zd1 hlt
   have d3 := eq_true (show (i : Int) < (l0.length : Int) by omega)
   have d4 := eq_true (show (0 : Int) ≤ (i : Int) by omega)
   clear hfold hn1 hr1 hc1 hb hlt
   obtain ⟨k1, rfl⟩ : ∃ k1, gk = k1 + 1 := ⟨gk - 1, by have := hk.out; have := HLT.out; omega⟩
   go_wp2
   clear d1 d2 d3 d4 hx
   go_loopg [3, 16] (b.length + 1) (fun jq v3 v16 w' => ∃ j : Nat, v3 = .int .u32 ((b.take j).foldl crcByte x0) ∧ v16 = .int .i64 (j : Int) ∧ Aside0 (j + jq = b.length + 1 ∧ j ≤ b.length) ∧ w' = wr)
   case atStart => exact ⟨0, rfl, rfl, ⟨by omega, by omega⟩, rfl⟩
   case round =>
    obtain ⟨j, rfl, rfl, hj, rfl⟩ := hrel
    by_cases hlt : j < b.length
    ·obtain ⟨ab, e1, hy⟩ := byte_at HR1.out j hlt
     subst e1
     have hfold := foldl_take crcByte x0 b 0 j hlt
     generalize (b.take j).foldl crcByte x0 = y0 at hfold ⊢
     generalize b.getD j 0 = c at hy hfold
     have HFJ := zA hfold
     have HLJ := zA hlt
     have hr0 := fun x => eq_true (and15_range x).1
     have hr1 := fun x => eq_true (and15_range x).2
     have hcl : ∀ x, wr.cell? ⟨1, (Go.bits .and .u32 x 15).toNat, none⟩ = some (.int .u32 (tab_table[(Go.bits .and .u32 x 15).toNat]?.getD 0)) := fun x => by
      have := HG.out.crc_cell (Go.bits .and .u32 x 15).toNat (by have := and15_range x; omega)
      rwa [List.getD_eq_getElem?_getD] at this
     have d1 : decide ((j : Int) < (b.length : Int)) = true := zd1 (by omega)
     have d2 : decide (j < b.length) = true := zd1 hlt
     have d3 := eq_true (show (j : Int) < (b.length : Int) by omega)
     have d4 := eq_true (show (0 : Int) ≤ (j : Int) by omega)
     clear hfold hlt
     obtain ⟨j1, rfl⟩ : ∃ j1, gk = j1 + 1 := ⟨gk - 1, by have := hj.out; have := HLJ.out; omega⟩
     have hw : wrap64 ((j : Int) + 1) = ((j + 1 : Nat) : Int) := by have := HLJ.out; have := HN1.out; unfold wrap64; omega
     have HW := zA hw
     clear hw
     go_wp2
     clear hr0 hr1 hcl d1 d2 d3 d4 hy
     go_roundg j1
     case measure => omega
     case rel => exact ⟨j + 1, by rw [HFJ.out]; rfl, by rw [HW.out], ⟨by have := hj.out; omega, by have := HLJ.out; omega⟩, rfl⟩
    ·have e : j = b.length := by have := hj.out; omega
     have d1 : decide ((j : Int) < (b.length : Int)) = false := zd2 (by omega)
     have d2 : decide (j < b.length) = false := zd2 hlt
     have HE := zA e
     have hw : wrap64 ((i : Int) + 1) = ((i + 1 : Nat) : Int) := by have := HLT.out; have := HN.out; unfold wrap64; omega
     have HW := zA hw
     clear hlt e hw
     go_wp2
     clear d1 d2
     go_roundg k1
     case measure => omega
     case rel => exact ⟨i + 1, by rw [HF.out, HE.out, List.take_length]; rfl, by rw [HW.out], ⟨by have := hk.out; omega, by have := HLT.out; omega⟩, rfl⟩
  ·have e : i = l0.length := by have := hk.out; omega
   have d1 : decide ((i : Int) < (l0.length : Int)) = false := zd2 (by omega)
   have d2 : decide (i < l0.length) = false := zd2 hlt
   have HE := zA e
   clear hlt e
   rw [HE.out, List.take_length] at *
   go_wp2
   go_ret
   exact ⟨rfl, Drawn0.refl _⟩

def crc_seal.f (l0 : List Int) : Option (Int × Int × Int × Int) := (crc_Of.f [l0]).bind fun t => some (t % 256, (t / 256) % 256, (t / 65536) % 256, t / 16777216)
theorem C_one_row {e t : Nat} {k : IntKind} {w : World} {A0 : Option Addr} {c0 : Nat} {l0 : List Int} (h : (Kd.int k).C w A0 l0.length l0) (hc : l0.length ≤ c0) :
    Kd.C (Kd.slice e (Kd.int k)) (w.alloc (.cells #[.slice A0 l0.length c0] t)) (some ⟨w.heap.size, 0, none⟩) 1 [l0] := by
 refine ⟨rfl, by decide, fun _ => ⟨_, rfl, fun j p hp => ?_⟩⟩
 cases j with
 | succ j => simp at hp
 | zero =>
  obtain rfl : l0 = p := by simpa using hp
  refine ⟨[.slice A0 l0.length c0], rfl, ⟨A0, c0, rfl, hc, Kd.C_alloc h _⟩, fun i u hu => ?_⟩
  cases i with
  | succ i => simp at hu
  | zero =>
   obtain rfl : Value.slice A0 l0.length c0 = u := by simpa using hu
   rw [show 0 * (Kd.slice e (Kd.int k)).sz + 0 = 0 from rfl, add_plain, World.cell?_alloc_mark]
   rfl
set_option maxHeartbeats 8000000 in
set_option maxRecDepth 100000 in
theorem crc_seal.calls (A0 : Option Addr) (c0 : Nat) (l0 : List Int) (r1 r2 r3 r4 : Int) (w : World) (hr0 : Kd.C (Kd.int .u8) w A0 l0.length l0) (hc0 : l0.length ≤ c0) (h : crc_seal.f l0 = some (r1, r2, r3, r4)) (hG : GL w) :
    Calls Tryd.prog 54 #[.slice A0 l0.length c0] w fun e w' => e = .returned (.agg #[.int .u8 r1, .int .u8 r2, .int .u8 r3, .int .u8 r4]) ∧ Below w.heap.size w w' := by
 obtain ⟨t, ht, h⟩ := Option.bind_eq_some_iff.1 h
 simp only [Option.some.injEq, Prod.mk.injEq] at h
 obtain ⟨rfl, rfl, rfl, rfl⟩ := h
 have HR := zA hr0
 have HC := zA hc0
 have HG := zA hG
 have HT := zA ht
 have ht0 : 0 ≤ t ∧ t ≤ 4294967295 := by unfold crc_Of.f at ht; obtain rfl := Option.some.inj ht; exact bits32_range _ _ _
 have ht1 := ht0.1
 have ht2 := ht0.2
 clear hr0 hc0 hG ht ht0
 have hb1 : Below w.heap.size w (w.alloc (Obj.cells #[Value.int IntKind.u8 0, Value.int IntKind.u8 0, Value.int IntKind.u8 0, Value.int IntKind.u8 0] 70)) := zb3 (Below.refl _ _) _
 have HB1 := zA hb1
 have HG6 := zA (heap_new_ w (Obj.cells #[Value.int IntKind.u8 0, Value.int IntKind.u8 0, Value.int IntKind.u8 0, Value.int IntKind.u8 0] 70))
 go_enter Tryd.func54, Tryd.ntmps54
 clear hb1 h
 go_wp2_with fail
 have hC1 := C_one_row (e := 5) (t := 22) (Kd.C_below HR.out HB1.out) HC.out
 rw [World.size_alloc] at hC1
 refine (crc_Of.calls (some ⟨w.heap.size + 1, 0, none⟩) 1 [l0] t _ hC1 (Nat.le_refl _) HT.out (HG.out.below (zb3 HB1.out _))).mono ?_
 clear hC1
 rintro e w' ⟨rfl, hd⟩
 have HB2 := zA (zb3 HB1.out (Obj.cells #[.slice A0 l0.length c0] 22))
 obtain ⟨nd, rfl⟩ := hd.out
 clear hd
 go_wp2
 have hg0 := HG6.out
 have hg1 : ((w.alloc (Obj.cells #[Value.int IntKind.u8 0, Value.int IntKind.u8 0, Value.int IntKind.u8 0, Value.int IntKind.u8 0] 70)).alloc (Obj.cells #[.slice A0 l0.length c0] 22)).heap[w.heap.size]? = some (.cells #[Value.int IntKind.u8 0, Value.int IntKind.u8 0, Value.int IntKind.u8 0, Value.int IntKind.u8 0] 70 (0, 0)) := (Below.heap_alloc _ _ _ (by simp)).trans hg0
 generalize hW : (w.alloc (Obj.cells #[Value.int IntKind.u8 0, Value.int IntKind.u8 0, Value.int IntKind.u8 0, Value.int IntKind.u8 0] 70)).alloc (Obj.cells #[.slice A0 l0.length c0] 22) = W at hg1 HB2 ⊢
 have hg2 := blk_set (blk_set (blk_set (blk_set (show (W.drewN nd).heap[w.heap.size]? = _ from hg1) 0 (Value.int IntKind.u8 (t % 256))) 1 (Value.int IntKind.u8 (t / 256 % 256))) 2 (Value.int IntKind.u8 (t / 65536 % 256))) 3 (Value.int IntKind.u8 (t / 16777216))
 refine bodyPost_ret (results_cell_row rfl _ _ w.heap.size 70 #[.int .u8 (t % 256), .int .u8 (t / 256 % 256), .int .u8 (t / 65536 % 256), .int .u8 (t / 16777216)] (0, 0) _ rfl (hg2.trans rfl) Tryd.underlying70 rfl (by kernel_rfl)) rfl ⟨rfl, ?_⟩
 exact ((((zb1 HB2.out nd).setCell (Nat.le_refl _) _).setCell (Nat.le_refl _) _).setCell (Nat.le_refl _) _).setCell (Nat.le_refl _) _

def crc_Seal.f (l0 : List Int) : Option (List Int) := (crc_seal.f l0).bind fun t => if l0.length ≤ 1000000000 then some (l0 ++ [t.1, t.2.1, t.2.2.1, t.2.2.2]) else none
theorem C_alloc_lit4 (w : World) (k : IntKind) (e : TypeId) (a b c d : Int) : (Kd.int k).C (w.alloc (.cells #[.int k a, .int k b, .int k c, .int k d] e)) (some ⟨w.heap.size, 0, none⟩) 4 [a, b, c, d] := by
 refine Kd.C_of_reads (d := (0 : Int)) (h1 := fun _ => rfl) ⟨rfl, by decide, fun _ => ⟨_, rfl, fun j hj => ?_⟩⟩
 rw [add_plain, World.cell?_alloc_mark]
 match j, hj with
 | 0, _ => rfl
 | 1, _ => rfl
 | 2, _ => rfl
 | 3, _ => rfl
set_option maxHeartbeats 8000000 in
set_option maxRecDepth 100000 in
theorem crc_Seal.calls (A0 : Option Addr) (c0 : Nat) (l0 : List Int) (r : List Int) (w : World) (hr0 : Kd.C (Kd.int .u8) w A0 l0.length l0) (hc0 : l0.length ≤ c0) (h : crc_Seal.f l0 = some r) (hG : GL w) :
    Calls Tryd.prog 29 #[.slice A0 l0.length c0] w fun e w' => ∃ v0_ : Value, e = .returned v0_ ∧ Kd.R (Kd.int .u8) 5 w' w.heap.size (fun _ => True) v0_ r ∧ Below w.heap.size w w' := by
 obtain ⟨⟨t1, t2, t3, t4⟩, ht, h⟩ := Option.bind_eq_some_iff.1 h
 by_cases hle : l0.length ≤ 1000000000
 ·rw [if_pos hle] at h
  obtain rfl := Option.some.inj h
  have HR := zA hr0
  have HC := zA hc0
  have HG := zA hG
  have HT := zA ht
  have HL := zA hle
  have hl1 : (0 : Int) ≤ (l0.length : Int) + 4 := by omega
  have hl2 : (l0.length : Int) ≤ 1000000000 := by omega
  clear hr0 hc0 hG ht h hle
  go_enter Tryd.func29, Tryd.ntmps29
  go_wp2_with fail
  refine (crc_seal.calls A0 c0 l0 t1 t2 t3 t4 _ HR.out HC.out HT.out HG.out).mono ?_
  rintro e w1 ⟨rfl, hb⟩
  have HB := zA hb
  clear hb
  go_upto_region 2 with fail
  have hA := C_alloc_lit4 w1 .u8 70 t1 t2 t3 t4
  have hb1 := zb3 HB.out (Obj.cells #[Value.int .u8 t1, Value.int .u8 t2, Value.int .u8 t3, Value.int .u8 t4] 70)
  have hG1 := heap_new_ w1 (Obj.cells #[Value.int .u8 t1, Value.int .u8 t2, Value.int .u8 t3, Value.int .u8 t4] 70)
  generalize w1.alloc (Obj.cells #[Value.int .u8 t1, Value.int .u8 t2, Value.int .u8 t3, Value.int .u8 t4] 70) = WA at hA hb1 hG1 ⊢
  have HA := zA hA
  have HBA := zA hb1
  clear hA hb1 hG1
  go_wp2_with (first
   | ((with_reducible refine gate_dst (N := 10) rfl ?_)
      refine R_make0 (Kd.int .u8) WA.heap.size 5 rfl (N := 10) rfl 22 _ _ rfl ((l0.length : Int) + 4) rfl rfl Tryd.underlying22 (.int .u8 0) 1 info5 rfl (by decide) (by omega) (0 : Int) (ok := fun _ => True) (okp := fun _ => True) rfl (fun _ hk => hk) trivial hl1 (by have := HL.out; omega) (Below.refl WA.heap.size WA) (Nat.le_refl _) ?_
      intro v1 w2 ho hb hg _
      obtain ⟨A1, c1, e1⟩ := Kd.R_slice ho
      subst e1
      have HO := zA ho
      have HBB := zA hb
      clear ho hb hg)
   | ((with_reducible refine gate_dst (N := 13) rfl ?_)
      refine Kd.R_append_row (Value.int .u8) (0 : Int) (h1 := fun _ => rfl) (w0 := WA) WA.heap.size rfl (.tmp 11) (.tmp 12) 22 5 (.int .u8 0) 1 rfl Tryd.underlying22 info5 rfl (by decide) _ (List.replicate 0 (0 : Int)) l0 _ _ _ (fun _ => True) rfl rfl (fun _ _ => trivial) HO.out ?aR HBB.out HBB.out.size ?aL ?_
      (case aR => exact Kd.C_below (Kd.C_below HR.out HBA.out) HBB.out)
      (case aL => have := HL.out; simp only [List.length_replicate]; omega)
      intro v2 w3 ho hb hg hat
      rw [List.replicate_zero, List.nil_append] at ho
      obtain ⟨A2, c2, e2⟩ := Kd.R_slice ho
      subst e2
      have HO2 := zA ho
      have HB3 := zA hb
      clear ho hb hg hat)
   | ((with_reducible refine gate_dst (N := 16) rfl ?_)
      refine Kd.R_append_row (Value.int .u8) (0 : Int) (h1 := fun _ => rfl) (w0 := WA) WA.heap.size rfl (.tmp 14) (.tmp 15) 22 5 (.int .u8 0) 1 rfl Tryd.underlying22 info5 rfl (by decide) _ l0 [t1, t2, t3, t4] _ _ _ (fun _ => True) rfl rfl (fun _ _ => trivial) HO2.out ?aR HB3.out HB3.out.size ?aL ?_
      (case aR => exact Kd.C_below HA.out HB3.out)
      (case aL => have := HL.out; omega)
      intro v3 w4 ho hb hg hat
      obtain ⟨A3, c3, e3⟩ := Kd.R_slice ho
      subst e3
      have HO3 := zA ho
      have HB4 := zA hb
      clear ho hb hg hat))
  go_ret
  refine ⟨_, rfl, ?_, HBA.out.trans (HB4.out.mono HBA.out.size)⟩
  have h3 := Kd.R_lower HO3.out HBA.out.size
  have e3 : (l0 ++ [t1, t2, t3, t4]).length = l0.length + 4 := by simp
  rwa [e3] at h3
 ·rw [if_neg hle] at h
  cases h

def num_Size.l0 : Nat → Int → Int → Option (Int)
 | 0, _, _ => none
 | k + 1, x0, x3 => if x0 > 127 then (num_Size.l0 k (x0 / 128) (wrap64 (x3 + 1))) else (some x3)
def num_Size.f (k : Nat) (a0 : Int) : Option (Int) := num_Size.l0 k (mn (mx a0 0) 4611686018427387903) 1
theorem num_Size.mono_l : ∀ k, (∀ y0 y1, LeO (num_Size.l0 k y0 y1) (num_Size.l0 (k + 1) y0 y1))
 | 0 => fun _ _ r h => by simp [num_Size.l0] at h
 | k + 1 => by
  have ih0 := num_Size.mono_l k
  ·intro y0 y1
   unfold num_Size.l0
   repeat' first
   | (with_reducible exact ih0 _ _)
   | (with_reducible exact LeO.refl _)
   | (with_reducible exact LeO.none _)
   | (with_reducible refine LeO.ite ?_ ?_)
   | (with_reducible refine LeO.bind ?_ (fun _ => ?_))
   | exact ih0 _ _
   | exact LeO.none _
   | refine LeO.ite ?_ ?_
   | refine LeO.bind ?_ (fun _ => ?_)
theorem num_Size.mono : ∀ a0 k, LeO (num_Size.f k a0) (num_Size.f (k + 1) a0) := by
 intro a0 k
 have ih0 := num_Size.mono_l k
 unfold num_Size.f
 repeat' first
     | (with_reducible exact ih0 _ _)
     | (with_reducible exact LeO.refl _)
     | (with_reducible exact LeO.none _)
     | (with_reducible refine LeO.ite ?_ ?_)
     | (with_reducible refine LeO.bind ?_ (fun _ => ?_))
     | exact ih0 _ _
     | exact LeO.none _
     | refine LeO.ite ?_ ?_
     | refine LeO.bind ?_ (fun _ => ?_)
set_option maxHeartbeats 8000000 in
set_option maxRecDepth 100000 in
theorem num_Size.calls (k : Nat) (a0 : Int) (r : Int) (w : World) (h : num_Size.f k a0 = some r) :
    Calls Tryd.prog 79 #[.int .i64 a0] w fun e w' => e = .returned (.int .i64 r) ∧ Below w.heap.size w w' := by
 have HB := zA (Below.refl w.heap.size w)
 have H : (num_Size.l0 k (mn (mx a0 0) 4611686018427387903) 1) = some r := h
 clear h
 obtain ⟨ji2, hji2⟩ : ∃ j_ : Int, (mx a0 0) = j_ := ⟨_, rfl⟩
 replace H : (num_Size.l0 k (mn (ji2) 4611686018427387903) 1) = some r := by first | (rw [hji2] at H; exact H) | (simp only [hji2] at H ⊢; exact H)
 (try (have hji2l : 0 ≤ ji2 := by (rw [← hji2]; unfold mx; (repeat' split) <;> omega)))
 (try (have hji2m : 0 ≤ ji2 := by omega))
 have hji2_ : (if a0 < 0 then 0 else a0) = ji2 := hji2
 obtain ⟨ji3, hji3⟩ : ∃ j_ : Int, (mn (ji2) 4611686018427387903) = j_ := ⟨_, rfl⟩
 replace H : (num_Size.l0 k ji3 1) = some r := by first | (rw [hji3] at H; exact H) | (simp only [hji3] at H ⊢; exact H)
 have hji3_ : (if 4611686018427387903 < (ji2) then 4611686018427387903 else (ji2)) = ji3 := hji3
 have H' := zA H
 clear H
 go_enter Tryd.func79, Tryd.ntmps79
 go_wp2
 go_loopg [0, 3] k (fun kq v0 v3 w' => ∃ (x0_1 : Int) (x3_1 : Int), v0 = .int .i64 x0_1 ∧ v3 = .int .i64 x3_1 ∧ Aside0 (num_Size.l0 kq x0_1 x3_1 = some r) ∧ Aside0 (kq ≤ k) ∧ Aside0 (Below w.heap.size w w'))
 case atStart => exact ⟨(ji3), (1), (by first | rfl | (simp; done) | (simp only [← hji3] <;> (first | rfl | simp)) | (simp [*]; done)), (by first | rfl | (simp; done) | (simp [*]; done)), H', ⟨Nat.le_refl _⟩, ⟨by repeat (first | (with_reducible first | exact HB.out | apply zb3 | apply zb1 | apply zb2) | exact HB.out)⟩⟩
 case round =>
  clear H'
  try clear p2
  obtain ⟨x0_1, x3_1, rfl, rfl, HA, HK1, HB⟩ := hrel
  cases gk with
  | zero => exact absurd HA.out (by simp [num_Size.l0])
  | succ k1 =>
   have H := HA.out
   clear HA
   simp only [num_Size.l0] at H
   by_cases c4 : x0_1 > 127
   ·rw [if_pos c4] at H
    have c4b0 : decide (127 < x0_1) = true := zd1 c4
    clear c4
    have H' := zA H
    clear H
    go_wp2
    go_roundg k1
    case measure => have := HK1.out; omega
    case rel => exact ⟨(x0_1 / 128), (wrap64 (x3_1 + 1)), (by first | rfl | (simp; done) | (simp [*]; done)), (by first | rfl | (simp; done) | (simp [*]; done)), H', ⟨by have := HK1.out; omega⟩, ⟨by repeat (first | (with_reducible first | exact HB.out | apply zb3 | apply zb1 | apply zb2) | exact HB.out)⟩⟩
   ·rw [if_neg c4] at H
    have c4b0 : decide (127 < x0_1) = false := zd2 c4
    clear c4
    obtain rfl := Option.some.inj H
    go_wp2
    go_ret
    exact ⟨by first | rfl | (simp [errW_none, errW_some] <;> rfl) | (simp only [← hji2, ← hji3]; first | rfl | (simp [errW_none, errW_some] <;> rfl)) | (simp [*, errW_none, errW_some] <;> rfl), by repeat (first | (with_reducible first | exact HB.out | apply zb3 | apply zb1 | apply zb2) | exact HB.out)⟩

def num_Put.l0 : Nat → Int → List Int → Int → Int → Option (List Int)
 | 0, _, _, _, _ => none
 | k + 1, x1, x5, x19, x20 => if x20 < x19 then (if x5.length < 140737488355328 then (num_Put.l0 k (x1 / 128) (x5 ++ [(Go.bits .or .i64 (Go.bits .and .i64 x1 127) 128) % 256]) x19 (wrap64 (x20 + 1))) else (none)) else (if x5.length < 140737488355328 then (some (x5 ++ [(x1) % 256])) else (none))
def num_Put.f (k : Nat) (l0 : List Int) (a1 : Int) : Option (List Int) := (num_Size.f k (mn (mx a1 0) 4611686018427387903)).bind fun t127 => (if 0 ≤ (wrap64 ((l0.length : Int) + t127)) then (if (wrap64 ((l0.length : Int) + t127) : Int).toNat ≤ 281474976710656 then ((some (List.replicate 0 0 : List Int)).bind fun y128 => (if y128.length + l0.length < 140737488355328 then ((num_Size.f k (mn (mx a1 0) 4611686018427387903)).bind fun t134 => (num_Put.l0 k (mn (mx a1 0) 4611686018427387903) (y128 ++ l0) (wrap64 (t134 - 1)) 0)) else (none))) else (none)) else (none))
theorem num_Put.mono_l : ∀ k, (∀ y0 y1 y2 y3, LeO (num_Put.l0 k y0 y1 y2 y3) (num_Put.l0 (k + 1) y0 y1 y2 y3))
 | 0 => fun _ _ _ _ r h => by simp [num_Put.l0] at h
 | k + 1 => by
  have ih0 := num_Put.mono_l k
  ·intro y0 y1 y2 y3
   unfold num_Put.l0
   repeat' first
   | (with_reducible exact ih0 _ _ _ _)
   | (with_reducible exact num_Size.mono _ _)
   | (with_reducible exact LeO.refl _)
   | (with_reducible exact LeO.none _)
   | (with_reducible refine LeO.ite ?_ ?_)
   | (with_reducible refine LeO.bind ?_ (fun _ => ?_))
   | exact ih0 _ _ _ _
   | exact num_Size.mono _ _
   | exact LeO.none _
   | refine LeO.ite ?_ ?_
   | refine LeO.bind ?_ (fun _ => ?_)
theorem num_Put.mono : ∀ a0 a1 k, LeO (num_Put.f k a0 a1) (num_Put.f (k + 1) a0 a1) := by
 intro a0 a1 k
 have ih0 := num_Put.mono_l k
 unfold num_Put.f
 repeat' first
     | (with_reducible exact ih0 _ _ _ _)
     | (with_reducible exact num_Size.mono _ _)
     | (with_reducible exact LeO.refl _)
     | (with_reducible exact LeO.none _)
     | (with_reducible refine LeO.ite ?_ ?_)
     | (with_reducible refine LeO.bind ?_ (fun _ => ?_))
     | exact ih0 _ _ _ _
     | exact num_Size.mono _ _
     | exact LeO.none _
     | refine LeO.ite ?_ ?_
     | refine LeO.bind ?_ (fun _ => ?_)
set_option maxHeartbeats 8000000 in
set_option maxRecDepth 100000 in
theorem num_Put.calls (k : Nat) (A0 : Option Addr) (c0 : Nat) (l0 : List Int) (a1 : Int) (r : List Int) (w : World) (hr0 : Kd.C (Kd.int .u8) w A0 l0.length l0) (hc0 : l0.length ≤ c0) (h : num_Put.f k l0 a1 = some r) :
    Calls Tryd.prog 63 #[.slice A0 l0.length c0, .int .i64 a1] w fun e w' => ∃ v0_ : Value, e = .returned (v0_) ∧ Kd.R (Kd.int .u8) 5 w' w.heap.size (fun _ => True) v0_ r ∧ Below w.heap.size w w' := by
 have HR0 := zA hr0
 have HC0 := zA hc0
 clear hr0 hc0
 have HB := zA (Below.refl w.heap.size w)
 have H : ((num_Size.f k (mn (mx a1 0) 4611686018427387903)).bind fun t127 => (if 0 ≤ (wrap64 ((l0.length : Int) + t127)) then (if (wrap64 ((l0.length : Int) + t127) : Int).toNat ≤ 281474976710656 then ((some (List.replicate 0 0 : List Int)).bind fun y128 => (if y128.length + l0.length < 140737488355328 then ((num_Size.f k (mn (mx a1 0) 4611686018427387903)).bind fun t134 => (num_Put.l0 k (mn (mx a1 0) 4611686018427387903) (y128 ++ l0) (wrap64 (t134 - 1)) 0)) else (none))) else (none)) else (none))) = some r := h
 clear h
 obtain ⟨ji3, hji3⟩ : ∃ j_ : Int, (mx a1 0) = j_ := ⟨_, rfl⟩
 replace H : ((num_Size.f k (mn (ji3) 4611686018427387903)).bind fun t127 => (if 0 ≤ (wrap64 ((l0.length : Int) + t127)) then (if (wrap64 ((l0.length : Int) + t127) : Int).toNat ≤ 281474976710656 then ((some (List.replicate 0 0 : List Int)).bind fun y128 => (if y128.length + l0.length < 140737488355328 then ((num_Size.f k (mn (ji3) 4611686018427387903)).bind fun t134 => (num_Put.l0 k (mn (ji3) 4611686018427387903) (y128 ++ l0) (wrap64 (t134 - 1)) 0)) else (none))) else (none)) else (none))) = some r := by first | (rw [hji3] at H; exact H) | (simp only [hji3] at H ⊢; exact H)
 (try (have hji3l : 0 ≤ ji3 := by (rw [← hji3]; unfold mx; (repeat' split) <;> omega)))
 (try (have hji3m : 0 ≤ ji3 := by omega))
 have hji3_ : (if a1 < 0 then 0 else a1) = ji3 := hji3
 obtain ⟨ji4, hji4⟩ : ∃ j_ : Int, (mn (ji3) 4611686018427387903) = j_ := ⟨_, rfl⟩
 replace H : ((num_Size.f k (ji4)).bind fun t127 => (if 0 ≤ (wrap64 ((l0.length : Int) + t127)) then (if (wrap64 ((l0.length : Int) + t127) : Int).toNat ≤ 281474976710656 then ((some (List.replicate 0 0 : List Int)).bind fun y128 => (if y128.length + l0.length < 140737488355328 then ((num_Size.f k (ji4)).bind fun t134 => (num_Put.l0 k ji4 (y128 ++ l0) (wrap64 (t134 - 1)) 0)) else (none))) else (none)) else (none))) = some r := by first | (rw [hji4] at H; exact H) | (simp only [hji4] at H ⊢; exact H)
 have hji4_ : (if 4611686018427387903 < (ji3) then 4611686018427387903 else (ji3)) = ji4 := hji4
 replace H := Option.bind_eq_some_iff.mp H
 obtain ⟨t127, A50, H⟩ := H
 replace H : (if 0 ≤ (wrap64 ((l0.length : Int) + t127)) then (if (wrap64 ((l0.length : Int) + t127) : Int).toNat ≤ 281474976710656 then ((some (List.replicate 0 0 : List Int)).bind fun y128 => (if y128.length + l0.length < 140737488355328 then ((num_Size.f k (ji4)).bind fun t134 => (num_Put.l0 k ji4 (y128 ++ l0) (wrap64 (t134 - 1)) 0)) else (none))) else (none)) else (none)) = some r := H
 have A5 := zA A50
 clear A50
 obtain ⟨ji6, hji6⟩ : ∃ j_ : Int, (wrap64 ((l0.length : Int) + t127)) = j_ := ⟨_, rfl⟩
 replace H : (if 0 ≤ (ji6) then (if (ji6 : Int).toNat ≤ 281474976710656 then ((some (List.replicate 0 0 : List Int)).bind fun y128 => (if y128.length + l0.length < 140737488355328 then ((num_Size.f k (ji4)).bind fun t134 => (num_Put.l0 k ji4 (y128 ++ l0) (wrap64 (t134 - 1)) 0)) else (none))) else (none)) else (none)) = some r := by first | (rw [hji6] at H; exact H) | (simp only [hji6] at H ⊢; exact H)
 (try rw [hji6] at A5)
 have hji6w : (IntKind.i64.wrap ((l0.length : Int) + t127)) = ji6 := (i64_w _).trans hji6
 by_cases c7 : 0 ≤ (ji6)
 ·rw [if_pos c7] at H
  have c7b0 := eq_true c7
  have c7b1 : decide (0 ≤ (ji6)) = true := zd1 c7
  clear c7
  by_cases c8 : (ji6 : Int).toNat ≤ 281474976710656
  ·rw [if_pos c8] at H
   have c8b0 := eq_true c8
   have c8b1 : decide ((ji6 : Int).toNat ≤ 281474976710656) = true := zd1 c8
   clear c8
   obtain ⟨y128, hy128⟩ : ∃ y_ : List Int, y_ = (List.replicate 0 0) := ⟨_, rfl⟩
   replace H : (if y128.length + l0.length < 140737488355328 then ((num_Size.f k (ji4)).bind fun t134 => (num_Put.l0 k ji4 (y128 ++ l0) (wrap64 (t134 - 1)) 0)) else (none)) = some r := by first | (rw [hy128]; with_reducible exact H) | (have H2_ := (Option.bind_some _ _).symm.trans H; rw [hy128]; with_reducible exact H2_) | (have H2_ := (Option.bind_some _ _).symm.trans H; with_reducible exact H2_) | with_reducible exact H | (rw [hy128]; exact H) | exact H
   have Ny128 := zA hy128
   clear hy128
   by_cases c9 : y128.length + l0.length < 140737488355328
   ·rw [if_pos c9] at H
    have LMc9 := zA c9
    clear c9
    obtain ⟨y131, hy131⟩ : ∃ y_ : List Int, y_ = (y128 ++ l0) := ⟨_, rfl⟩
    replace H : ((num_Size.f k (ji4)).bind fun t134 => (num_Put.l0 k ji4 y131 (wrap64 (t134 - 1)) 0)) = some r := by first | (rw [hy131]; with_reducible exact H) | (have H2_ := (Option.bind_some _ _).symm.trans H; rw [hy131]; with_reducible exact H2_) | (have H2_ := (Option.bind_some _ _).symm.trans H; with_reducible exact H2_) | with_reducible exact H | (rw [hy131]; exact H) | exact H
    have Ny131 := zA hy131
    clear hy131
    replace H := Option.bind_eq_some_iff.mp H
    obtain ⟨t134, A100, H⟩ := H
    replace H : (num_Put.l0 k ji4 y131 (wrap64 (t134 - 1)) 0) = some r := H
    have A10 := zA A100
    clear A100
    have H' := zA H
    clear H
    go_enter Tryd.func63, Tryd.ntmps63
    go_wp2_with (first | ((with_reducible refine gate_callee (f := 79) rfl ?_); refine goesL_ (some 12) rfl rfl Tryd.func79 (by kernel_rfl) rfl #[.int .i64 ji4] rfl (by (try simp only [zm1, zm2, zm3]); first | done | (simp only [hji4]; rfl) | rfl | (simp only [List.length_drop, List.length_take]; rfl)) ?_; (with_reducible refine (num_Size.calls k ji4 t127 _ A5.out).mono ?_); rintro e w11 ⟨rfl, hb⟩; refine ⟨_, rfl, ?_⟩; have n0_ := zA (zb5 (by repeat (first | (with_reducible first | exact HB.out | apply zb3 | apply zb1 | apply zb2) | exact HB.out)) hb); clear HB; have HB := n0_; clear n0_; (try clear hb); (try clear hb2); (try clear hk); (try clear hi)) | ((with_reducible refine gate_dst (N := 14) rfl ?_); refine R_make0 (Kd.int .u8) _ 5 rfl (N := 14) rfl 22 _ _ rfl ji6 rfl rfl Tryd.underlying22 (.int .u8 0) 1 info5 rfl (by decide) (by omega) 0 (ok := fun _ => True) (okp := fun _ => True) rfl (fun _ hk => hk) trivial (zd3 (by first | (with_reducible assumption) | assumption)) (Nat.le_trans (Nat.mul_le_mul_right _ (zd3 (by first | (with_reducible assumption) | assumption) : ji6.toNat ≤ 281474976710656)) (by omega)) (Below.refl _ _) (Nat.le_refl _) ?_; intro v129 w12 ho13 hb hg_ hnew_; clear hg_ hnew_; (first | rw [← Ny128.out] at ho13 | (simp only [Int.reduceToNat] at ho13; rw [← Ny128.out] at ho13)); have n0_ := zA (Kd.R_lower ho13 (zb6 (by repeat (first | (with_reducible first | exact HB.out | apply zb3 | apply zb1 | apply zb2) | exact HB.out)))); have n1_ := zA (zb5 (by repeat (first | (with_reducible first | exact HB.out | apply zb3 | apply zb1 | apply zb2) | exact HB.out)) hb); clear HB; have HO130 := n0_; have HB := n1_; clear n0_ n1_; clear hb ho13) | ((with_reducible refine gate_builtin (b := .append) (xs := #[.tmp 14, .tmp 15]) rfl ?_); at_builtin; refine Kd.R_append_rows (Kd.int .u8) (w0 := w) w.heap.size rfl (.tmp 14) (.tmp 15) 22 5 (.int .u8 0) 1 rfl Tryd.underlying22 info5 rfl (by decide) (by omega) v129 y128 l0 _ _ _ (fun _ => True) (fun _ => False) rfl rfl ?aO ?aR (fun _ _ h => h) (fun _ h => h.elim) ?aF ?aB ?aS ?aL ?_; (case aR => repeat (first | exact (Kd.C_below HR0.out HB.out) | (with_reducible refine Kd.C_alloc ?_ _) | (with_reducible refine Kd.C_drewN ?_ _) | (with_reducible refine Kd.C_drew ?_))); (case aB => exact (by repeat (first | (with_reducible first | exact HB.out | apply zb3 | apply zb1 | apply zb2) | exact HB.out))); (case aF => exact (fun _ _ => trivial)); (case aO => exact (by (with_reducible repeat (first | apply Kd.R_alloc | apply Kd.R_drewN | apply Kd.R_drew)); exact HO130.out)); (case aS => exact (zb6 (by repeat (first | (with_reducible first | exact HB.out | apply zb3 | apply zb1 | apply zb2) | exact HB.out)))); (case aL => have := LMc9.out; omega); intro v132 w14 ho hb hg hat; rw [← Ny131.out] at ho; have n0_ := zA (hb); have n1_ := zA (ho); clear HB; clear HO130; have HB := n0_; have HO133 := n1_; clear n0_ n1_; clear ho hb hg hat) | ((with_reducible refine gate_callee (f := 79) rfl ?_); refine goesL_ (some 18) rfl rfl Tryd.func79 (by kernel_rfl) rfl #[.int .i64 ji4] rfl (by (try simp only [zm1, zm2, zm3]); first | done | (simp only [hji4]; rfl) | rfl | (simp only [List.length_drop, List.length_take]; rfl)) ?_; (with_reducible refine (num_Size.calls k ji4 t134 _ A10.out).mono ?_); rintro e w15 ⟨rfl, hb⟩; refine ⟨_, rfl, ?_⟩; have n0_ := zA (Kd.R_below (by (with_reducible repeat (first | apply Kd.R_alloc | apply Kd.R_drewN | apply Kd.R_drew)); exact HO133.out) hb); have n1_ := zA (zb5 (by repeat (first | (with_reducible first | exact HB.out | apply zb3 | apply zb1 | apply zb2) | exact HB.out)) hb); clear HO133; clear HB; have HO133 := n0_; have HB := n1_; clear n0_ n1_; (try clear hb); (try clear hb2); (try clear hk); (try clear hi)))
    go_loopg [1, 5, 20] k (fun kq v1 v5 v20 w' => ∃ (x1_1 : Int) (x5_1 : List Int) (x20_1 : Int), v1 = .int .i64 x1_1 ∧ v20 = .int .i64 x20_1 ∧ Aside0 (num_Put.l0 kq x1_1 x5_1 (wrap64 (t134 - 1)) x20_1 = some r) ∧ Aside0 (kq ≤ k) ∧ Aside0 (Kd.R (Kd.int .u8) 5 w' w.heap.size (fun _ => True) v5 x5_1) ∧ Aside0 (Below w.heap.size w w'))
    case atStart => exact ⟨(ji4), (y131), (0), (by first | rfl | (simp; done) | (simp only [← hji4] <;> (first | rfl | simp)) | (simp [*]; done)), (by first | rfl | (simp; done) | (simp [*]; done)), H', ⟨Nat.le_refl _⟩, ⟨by (with_reducible repeat (first | apply Kd.R_alloc | apply Kd.R_drewN | apply Kd.R_drew)); exact HO133.out⟩, ⟨by repeat (first | (with_reducible first | exact HB.out | apply zb3 | apply zb1 | apply zb2) | exact HB.out)⟩⟩
    case round =>
     clear H'
     try clear p2
     try clear c6
     try clear p6
     try clear c7
     try clear c7b0
     try clear c7b1
     try clear c8
     try clear c8b0
     try clear c8b1
     try clear c9
     obtain ⟨x1_1, x5_1, x20_1, rfl, rfl, HA, HK1, HO_5, HB⟩ := hrel
     cases gk with
     | zero => exact absurd HA.out (by simp [num_Put.l0])
     | succ k1 =>
      have H := HA.out
      clear HA
      simp only [num_Put.l0] at H
      by_cases c16 : x20_1 < (wrap64 (t134 - 1))
      ·rw [if_pos c16] at H
       have c16b0 : decide (x20_1 < (wrap64 (t134 - 1))) = true := zd1 c16
       clear c16
       by_cases c17 : x5_1.length < 140737488355328
       ·rw [if_pos c17] at H
        have LMc17 := zA c17
        clear c17
        obtain ⟨y135, hy135⟩ : ∃ y_ : List Int, y_ = (x5_1 ++ [(Go.bits .or .i64 (Go.bits .and .i64 x1_1 127) 128) % 256]) := ⟨_, rfl⟩
        replace H : (num_Put.l0 k1 (x1_1 / 128) y135 (wrap64 (t134 - 1)) (wrap64 (x20_1 + 1))) = some r := by first | (rw [hy135]; with_reducible exact H) | (have H2_ := (Option.bind_some _ _).symm.trans H; rw [hy135]; with_reducible exact H2_) | (have H2_ := (Option.bind_some _ _).symm.trans H; with_reducible exact H2_) | with_reducible exact H | (rw [hy135]; exact H) | exact H
        have Ny135 := zA hy135
        clear hy135
        have H' := zA H
        clear H
        go_wp2_with (first | ((with_reducible refine gate_builtin (b := .append) (xs := #[.tmp 22, .tmp 27]) rfl ?_); at_builtin; refine Kd.R_append (Kd.int .u8) (w0 := w) w.heap.size rfl (.tmp 22) (.tmp 27) 22 5 (.int .u8 0) 1 rfl Tryd.underlying22 info5 rfl (by decide) (by omega) u5 x5_1 ((Go.bits .or .i64 (Go.bits .and .i64 x1_1 127) 128) % 256) [.int .u8 ((Go.bits .or .i64 (Go.bits .and .i64 x1_1 127) 128) % 256)] (fun _ => True) (fun _ => False) rfl rfl ?aP (fun _ hk => hk.elim) ?aF ?aO ?aB ?aS ?aL ?_; (case aP => exact rfl); (case aB => exact (by repeat (first | (with_reducible first | exact HB.out | apply zb3 | apply zb1 | apply zb2) | exact HB.out))); (case aF => exact (fun _ _ => trivial)); (case aO => exact (by (with_reducible repeat (first | apply Kd.R_alloc | apply Kd.R_drewN | apply Kd.R_drew)); exact HO_5.out)); (case aS => exact (zb6 (by repeat (first | (with_reducible first | exact HB.out | apply zb3 | apply zb1 | apply zb2) | exact HB.out)))); (case aL => have := LMc17.out; omega); intro v136 w18 ho hb hg hat; rw [← Ny135.out] at ho; have n0_ := zA (hb); have n1_ := zA (ho); clear HB; clear HO_5; have HB := n0_; have HO137 := n1_; clear n0_ n1_; clear ho hb hg hat))
        go_roundg k1
        case measure => have := HK1.out; omega
        case rel => exact ⟨(x1_1 / 128), (y135), (wrap64 (x20_1 + 1)), (by first | rfl | (simp; done) | (simp [*]; done)), (by first | rfl | (simp; done) | (simp [*]; done)), H', ⟨by have := HK1.out; omega⟩, ⟨by (with_reducible repeat (first | apply Kd.R_alloc | apply Kd.R_drewN | apply Kd.R_drew)); exact HO137.out⟩, ⟨by repeat (first | (with_reducible first | exact HB.out | apply zb3 | apply zb1 | apply zb2) | exact HB.out)⟩⟩
       ·rw [if_neg c17] at H
        exact absurd H (by simp)
      ·rw [if_neg c16] at H
       have c16b0 : decide (x20_1 < (wrap64 (t134 - 1))) = false := zd2 c16
       clear c16
       by_cases c19 : x5_1.length < 140737488355328
       ·rw [if_pos c19] at H
        have LMc19 := zA c19
        clear c19
        obtain ⟨y138, hy138⟩ : ∃ y_ : List Int, y_ = (x5_1 ++ [(x1_1) % 256]) := ⟨_, rfl⟩
        replace H : (some y138) = some r := by first | (rw [hy138]; with_reducible exact H) | (have H2_ := (Option.bind_some _ _).symm.trans H; rw [hy138]; with_reducible exact H2_) | (have H2_ := (Option.bind_some _ _).symm.trans H; with_reducible exact H2_) | with_reducible exact H | (rw [hy138]; exact H) | exact H
        have Ny138 := zA hy138
        clear hy138
        obtain rfl := Option.some.inj H
        go_wp2_with (first | ((with_reducible refine gate_builtin (b := .append) (xs := #[.tmp 32, .tmp 35]) rfl ?_); at_builtin; refine Kd.R_append (Kd.int .u8) (w0 := w) w.heap.size rfl (.tmp 32) (.tmp 35) 22 5 (.int .u8 0) 1 rfl Tryd.underlying22 info5 rfl (by decide) (by omega) u5 x5_1 ((x1_1) % 256) [.int .u8 ((x1_1) % 256)] (fun _ => True) (fun _ => False) rfl rfl ?aP (fun _ hk => hk.elim) ?aF ?aO ?aB ?aS ?aL ?_; (case aP => exact rfl); (case aB => exact (by repeat (first | (with_reducible first | exact HB.out | apply zb3 | apply zb1 | apply zb2) | exact HB.out))); (case aF => exact (fun _ _ => trivial)); (case aO => exact (by (with_reducible repeat (first | apply Kd.R_alloc | apply Kd.R_drewN | apply Kd.R_drew)); exact HO_5.out)); (case aS => exact (zb6 (by repeat (first | (with_reducible first | exact HB.out | apply zb3 | apply zb1 | apply zb2) | exact HB.out)))); (case aL => have := LMc19.out; omega); intro v139 w20 ho hb hg hat; rw [← Ny138.out] at ho; have n0_ := zA (hb); have n1_ := zA (ho); clear HB; clear HO_5; have HB := n0_; have HO140 := n1_; clear n0_ n1_; clear ho hb hg hat))
        go_ret
        exact ⟨_, by first | rfl | (simp [errW_none, errW_some] <;> rfl) | (simp only [← hji3, ← hji4, ← hji6]; first | rfl | (simp [errW_none, errW_some] <;> rfl)) | (simp [*, errW_none, errW_some] <;> rfl), by (with_reducible repeat (first | apply Kd.R_alloc | apply Kd.R_drewN | apply Kd.R_drew)); exact HO140.out, by repeat (first | (with_reducible first | exact HB.out | apply zb3 | apply zb1 | apply zb2) | exact HB.out)⟩
       ·rw [if_neg c19] at H
        exact absurd H (by simp)
   ·rw [if_neg c9] at H
    exact absurd H (by simp)
  ·rw [if_neg c8] at H
   exact absurd H (by simp)
 ·rw [if_neg c7] at H
  exact absurd H (by simp)

end Go.Proofs.YtjhgeppjpofjpaaDoor.PSigReads
