-- Written by a program of this session (the kit's printer with hand-written contracts among its functions).
-- squeezed
import Derived.Test.YtkihlcmjjoiccaaPMatchCostsx0
import Derived.Test.YtkihlcmjjoiccaaPMatchCostsx1
import Derived.Test.YtkihlcmjjoiccaaPMatchCostsx8
import Derived.Test.YtkihlcmjjoiccaaRq
namespace Go.Proofs.Ytkihlcmjjoiccaa.PMatchCosts
open Go.RowKit Go.Proofs.YtkihlcmjjoiccaaW.PrintWords Go.Proofs.YtkihlcmjjoiccaaW.PrintLast Go.Proofs.YtkihlcmjjoiccaaW.PrintMore
attribute [local go_sem] max2_int min2_int max_two min_two max_three min_three max_four min_four   -- for this text's walks alone
set_option linter.unusedVariables false
set_option linter.unusedSimpArgs false

def sigMs (k : Nat) (l0 : List Int) (B a2 : Int) : Nat → Option (List S55)
 | 0 => some []
 | n + 1 => (sigMs k l0 B a2 n).bind fun l => (sig_mark.f k (cutRow l0 B n) a2).bind fun m => some (l ++ [⟨m.1, m.2⟩])
theorem sigMs_mono (l0 : List Int) (B a2 : Int) (n : Nat) : ∀ k, LeO (sigMs k l0 B a2 n) (sigMs (k + 1) l0 B a2 n) := by
 intro k
 induction n with
 | zero => exact LeO.refl _
 | succ n ih => exact LeO.bind ih (fun _ => LeO.bind (sig_mark.mono _ _ _) (fun _ => LeO.refl _))
theorem sigMs_at {k : Nat} {l0 : List Int} {B a2 : Int} : ∀ {N : Nat} {ms : List S55}, sigMs k l0 B a2 N = some ms → ∀ i, i < N → ∃ li m, sigMs k l0 B a2 i = some li ∧ sig_mark.f k (cutRow l0 B i) a2 = some m ∧ sigMs k l0 B a2 (i + 1) = some (li ++ [⟨m.1, m.2⟩])
 | 0, _, _, i, hi => absurd hi (Nat.not_lt_zero i)
 | N + 1, ms, h, i, hi => by
  obtain ⟨l, hl, h2⟩ := Option.bind_eq_some_iff.mp (show ((sigMs k l0 B a2 N).bind fun l => (sig_mark.f k (cutRow l0 B N) a2).bind fun m => some (l ++ [(⟨m.1, m.2⟩ : S55)])) = some ms from h)
  obtain ⟨m, hm, h3⟩ := Option.bind_eq_some_iff.mp h2
  by_cases e : i = N
  ·subst e
   exact ⟨l, m, hl, hm, h.trans h3.symm⟩
  ·exact sigMs_at hl i (by omega)
theorem sigMs_len {k : Nat} {l0 : List Int} {B a2 : Int} : ∀ {N : Nat} {ms : List S55}, sigMs k l0 B a2 N = some ms → ms.length = N
 | 0, ms, h => by obtain rfl := Option.some.inj h; rfl
 | N + 1, ms, h => by
  obtain ⟨l, hl, h2⟩ := Option.bind_eq_some_iff.mp (show ((sigMs k l0 B a2 N).bind fun l => (sig_mark.f k (cutRow l0 B N) a2).bind fun m => some (l ++ [(⟨m.1, m.2⟩ : S55)])) = some ms from h)
  obtain ⟨m, hm, h3⟩ := Option.bind_eq_some_iff.mp h2
  obtain rfl := Option.some.inj h3
  rw [List.length_append, sigMs_len hl]
  rfl
def sigMl (k : Nat) (l0 : List Int) (B a2 : Int) (n : Nat) : List S55 := (sigMs k l0 B a2 n).getD []
def sig_Of.f (k : Nat) (l0 : List Int) (a1 : Int) (a2 : Int) : Option (Int × Int × Int × List S55 × Int) :=
 if (1 ≤ a2 ∧ a2 ≤ 32) ∧ (a1 = 0 ∨ (16 ≤ a1 ∧ a1 ≤ 4096)) then
  if l0.length ≤ 131072 then
   ((if a1 = 0 then blocks_Length.f k (l0.length : Int) else some a1).bind fun B =>
    if 16 ≤ B ∧ B ≤ 4096 then (sigMs k l0 B a2 (cutNum l0 B)).bind fun ms => some ((l0.length : Int), B, a2, ms, 0) else none)
  else some (0, 0, 0, [], 7)
 else some (0, 0, 0, [], 2)
theorem sig_Of.mono : ∀ a0 a1 a2 k, LeO (sig_Of.f k a0 a1 a2) (sig_Of.f (k + 1) a0 a1 a2) := by
 intro a0 a1 a2 k
 unfold sig_Of.f
 repeat' first
 | (with_reducible exact LeO.refl _)
 | (with_reducible exact blocks_Length.mono _ _)
 | (with_reducible exact sigMs_mono _ _ _ _ _)
 | (with_reducible refine LeO.ite ?_ ?_)
 | (with_reducible refine LeO.bind ?_ (fun _ => ?_))
def sig_Of.T10 : Bool × List (List Nat × List Nat) := (true, [([], []), ([0], [0]), ([], []), ([], []), ([2, 3], [2, 3]), ([4], [4]), ([1, 5, 4], [1, 5]), ([0, 1, 2, 3, 4, 5, 6], []), ([7, 6, 6, 0, 1, 2, 3, 4, 5, 6], [6, 7])])
def sig_Of.B10 : List Nat := [0, 1, 0, 0, 12, 28, 63, 127, 255]
theorem sig_Of.tab10 : rtab .any (opsOf Try.f19 10) = sig_Of.T10 := by kernel_rfl
theorem sig_Of.bits10 : waitsOk sig_Of.T10.2 sig_Of.B10 = true := by kernel_rfl
set_option maxHeartbeats 16000000 in
set_option maxRecDepth 100000 in
theorem sig_Of.calls (k : Nat) (A0 : Option Addr) (c0 : Nat) (l0 : List Int) (a1 : Int) (a2 : Int) (r1 : Int) (r2 : Int) (r3 : Int) (r4 : List S55) (r5 : Int) (w : World) (hr0 : Kd.C (Kd.int .u8) w A0 l0.length l0) (hc0 : l0.length ≤ c0) (h : sig_Of.f k l0 a1 a2 = some (r1, r2, r3, r4, r5)) :
    Calls Try.prog 19 #[.slice A0 l0.length c0, .int .i64 a1, .int .i64 a2] w fun e w' => ∃ v3_ : Value, e = .returned (.tuple #[.agg #[.int .i64 r1, .int .i64 r2, .int .i64 r3, v3_], .int .i64 r5]) ∧ Kd.R k55 55 w' w.heap.size (fun _ => True) v3_ r4 ∧ Below w.heap.size w w' := by
 have hu := Try.underlying24
 have HR0 := zA hr0
 have HC0 := zA hc0
 clear hr0 hc0
 unfold sig_Of.f at h
 by_cases h1 : (1 ≤ a2 ∧ a2 ≤ 32) ∧ (a1 = 0 ∨ (16 ≤ a1 ∧ a1 ≤ 4096))
 ·rw [if_pos h1] at h
  have HS := zA (show sig_strong.f a2 = some true by unfold sig_strong.f; rw [if_pos h1.1.1, zd1 h1.1.2])
  by_cases h2 : l0.length ≤ 131072
  ·rw [if_pos h2] at h
   have H2 := zA h2
   have c1 : decide (131072 < (l0.length : Int)) = false := by simp; omega
   have c2 : decide (131072 < l0.length) = false := by simp; omega
   clear h2
   by_cases h3 : a1 = 0
   ·subst h3
    rw [if_pos rfl] at h
    clear h1
    obtain ⟨B, hB, h⟩ := Option.bind_eq_some_iff.mp h
    have h4 : 16 ≤ B ∧ B ≤ 4096 := by
     by_cases h4 : 16 ≤ B ∧ B ≤ 4096
     ·exact h4
     ·rw [if_neg h4] at h; cases h
    rw [if_pos h4] at h
    obtain ⟨ms, hms, h⟩ := Option.bind_eq_some_iff.mp h
    simp only [Option.some.injEq, Prod.mk.injEq] at h
    obtain ⟨rfl, rfl, rfl, rfl, rfl⟩ := h
    obtain ⟨f1, f2, f3⟩ := cut_facts h4.1 h4.2 H2.out
    have F1 := zA f1
    have F2 := zA f2
    have F3 := zA f3
    have HMS := zA hms
    have HL := zA hB
    clear hB hms h4 f1 f2 f3
    refine RdKit.calls_marks Try.func19 rfl ?_
    simp only [Try.ntmps19, List.size_toArray, List.length_cons, List.length_nil, Nat.reduceAdd, Nat.reduceSub, Array.replicate_succ, Array.replicate_zero, List.push_toArray, List.append_toArray, List.nil_append, List.cons_append]
    go_wp2_with (first | ((with_reducible refine gate_dst (N := 5) rfl ?_); refine box_event ?hg (N := 5) ?hd (cs := #[.int .i64 a2]) (t := 3) ?hr ?_; (case hd => rfl); (case hg => rfl); (case hr => first | (go_simp; done) | (go_simp; rfl)); intro gB hgB wB hA hq; have HB := zA hq; have HKB := zA hA; have hcB : wB.cell? ⟨gB, 0, none⟩ = some (.int .i64 a2) := (by rw [zc1 hA]; rfl); clear hA hq hgB) | ((with_reducible refine gate_dst (N := 6) rfl ?_); refine box_event ?hg (N := 6) ?hd (cs := #[.int .i64 0, .int .i64 0, .int .i64 0, .slice none 0 0]) (t := 24) ?hr ?_; (case hd => rfl); (case hg => rfl); (case hr => first | (go_simp; done) | (go_simp; rfl)); intro gR hgR wR hA hq; have HGR := zA hgR; have HKR := zA hA; have HKB := zA (zc6 HKB.out hq); have HBR := zA (zb5 HB.out hq); replace hcB : wR.cell? ⟨gB, 0, none⟩ = some (.int .i64 a2) := (by rw [zc1 HKB.out]; rfl); clear hA hq hgR) | ((with_reducible refine gate_dst (N := 8) rfl ?_); refine box_event ?hg (N := 8) ?hd (cs := #[.int .i64 0, .int .i64 0, .int .i64 0, .slice none 0 0]) (t := 24) ?hr ?_; (case hd => rfl); (case hg => rfl); (case hr => first | (go_simp; done) | (go_simp; rfl)); intro gS hgS wS hA hq; have HKS := zA hA; have HKB2 := zA (zc6 (g := gB) (by exact HKB.out) hq); have HKR2 := zA (zc6 (g := gR) (by exact HKR.out) hq); have HBS := zA (zb5 (zb1 HBR.out _) hq); have GES := zA (show w.heap.size ≤ gS by rw [hgS]; exact zb6 (zb1 HBR.out _)); have NBS := zA (show gB ≠ gS by rw [hgS]; exact Nat.ne_of_lt (blk_lt HKB.out)); have NRS := zA (show gR ≠ gS by rw [hgS]; exact Nat.ne_of_lt (blk_lt HKR.out)); replace hcB : wS.cell? ⟨gB, 0, none⟩ = some (.int .i64 a2) := (by rw [zc1 HKB2.out]; rfl); have hz0 : wS.cell? ⟨gS, 0, none⟩ = some (.int .i64 0) := (zc1 HKS.out 0).trans rfl; have hz1 : wS.cell? ⟨gS, 1, none⟩ = some (.int .i64 0) := (zc1 HKS.out 1).trans rfl; have hz2 : wS.cell? ⟨gS, 2, none⟩ = some (.int .i64 0) := (zc1 HKS.out 2).trans rfl; have hz3 : wS.cell? ⟨gS, 3, none⟩ = some (.slice none 0 0) := (zc1 HKS.out 3).trans rfl; have hf0 := zc5 HKS.out 0; have hf1 := zc5 HKS.out 1; have hf2 := zc5 HKS.out 2; have hf3 := zc5 HKS.out 3; clear hA hq hgS) | (go_at_call 33; (with_reducible refine (sig_strong.calls a2 true _ HS.out).mono ?_); rintro e w' ⟨rfl, ⟨nd, rfl⟩⟩) | (go_at_call 35; (with_reducible refine (blocks_Length.calls k _ B _ HL.out).mono ?_); rintro e w' ⟨rfl, ⟨nd2, rfl⟩⟩))
    refine (each_calls A0 c0 l0 B _ (Kd.C_below HR0.out (zb4 (zb4 (zb4 (zb4 HBS.out GES.out) GES.out) GES.out) GES.out))).mono ?_
    rintro e w2 ⟨g1, g2, rfl, hIt, hb, _⟩
    have HI := zA hIt
    have HB2 := zA (zb5 (zb4 (zb4 (zb4 (zb4 HBS.out GES.out) GES.out) GES.out) GES.out) hb)
    have HKS2 := zA (zc6 (blk_put (blk_put (blk_put (blk_put HKS.out 0 (.int .i64 (l0.length : Int)) rfl) 1 (.int .i64 B) rfl) 2 (.int .i64 a2) rfl) 3 (.slice none 0 0) rfl) hb)
    have HKB3 := zA (zc6 (zc7 (zc7 (zc7 (zc7 HKB2.out NBS.out _) NBS.out _) NBS.out _) NBS.out _) hb)
    have HKR3 := zA (zc6 (zc7 (zc7 (zc7 (zc7 HKR2.out NRS.out _) NRS.out _) NRS.out _) NRS.out _) hb)
    clear hIt hb
    replace HI := HI
    go_wp2_with fail
    obtain ⟨L, hL⟩ : ∃ L, L = w2.heap.size := ⟨_, rfl⟩
    have HLS := zA (show gS < L by rw [hL]; exact (Array.getElem?_eq_some_iff.1 HKS2.out).1)
    have HLB := zA (show gB < L by rw [hL]; exact (Array.getElem?_eq_some_iff.1 HKB3.out).1)
    have HLR := zA (show gR < L by rw [hL]; exact (Array.getElem?_eq_some_iff.1 HKR3.out).1)
    have HGE := zA (show w.heap.size ≤ gR by rw [HGR.out]; exact HB.out.size)
    refine RdKit.wp_range_rd (gf := 55) rfl (fun args w => enters_ Try.func55 (by kernel_rfl) rfl args w) (each_iter g1 g2 A0 c0 l0 B (cutNum l0 B) (cutRow l0 B) HC0.out H2.out F1.out F2.out F3.out)
     (fun i args W hr => by obtain ⟨A, c, rfl, _⟩ := hr; rfl)
     (fun i args W r o hr hl => hr.put hl) (fun W r o hi hl => hi.put hl) (fun W W' hi hb => hi.below hb)
     (fun i W => ∃ v, W.heap[gS]? = some (.cells #[.int .i64 (l0.length : Int), .int .i64 B, .int .i64 a2, v] 24 (0, 0)) ∧ W.heap[gB]? = some (.cells #[.int .i64 a2] 3 (0, 0)) ∧ W.heap[gR]? = some (.cells #[.int .i64 0, .int .i64 0, .int .i64 0, .slice none 0 0] 24 (0, 0)) ∧ Kd.R k55 55 W (L + 2) (fun _ => True) v (sigMl k l0 B a2 i) ∧ Below w.heap.size w W)
     (fun _ _ => False) ?hIb ?hIp (fun _ _ _ _ h _ => h) ⟨_, HKS2.out, HKB3.out, HKR3.out, Kd.R_nil _ _ _ _ _, HB2.out⟩ HI.out
     (fun args => { tmps := #[.slice A0 l0.length c0, .int .i64 B, .int .i64 a2, undef, undef, .pointer (some ⟨gB, 0, none⟩), .pointer (some ⟨gR, 0, none⟩), .int .i64 0, .pointer (some ⟨gS, 0, none⟩), undef, args.getD 1 undef, .bool false, .int .i64 a2, .bool true, .bool false, .bool false, .int .i64 0, .bool false, .bool false, undef, undef, undef, .bool false, .bool false, undef, .bool false, .slice A0 l0.length c0, .int .i64 (l0.length : Int), .bool false, undef, .int .i64 0, .bool true, .slice A0 l0.length c0, .int .i64 (l0.length : Int), .int .i64 B, .slice A0 l0.length c0, .int .i64 (l0.length : Int), .int .i64 B, .int .i64 a2, .agg #[.int .i64 (l0.length : Int), .int .i64 B, .int .i64 a2, .slice none 0 0], .slice A0 l0.length c0, .int .i64 B, .func (.func 55) #[] #[.pointer (some ⟨g1, 0, none⟩), .pointer (some ⟨g2, 0, none⟩)], args.getD 0 undef, args.getD 1 undef, undef, undef, undef, undef, undef, undef, undef, undef, undef], defers := [] }) ?hassign ?hbody ?hdone (fun _ _ h _ => h.elim)
    case hIb =>
     rintro i W W' ⟨v, h1, h2, h3, h4, h5⟩ hb
     exact ⟨v, zc6 h1 hb, zc6 h2 hb, zc6 h3 hb, Kd.R_below h4 hb, zb5 h5 hb⟩
    case hIp =>
     rintro i W r o ⟨v, h1, h2, h3, h4, h5⟩ hl
     have hs := HLS.out; have hbb := HLB.out; have hr := HLR.out; have hb2 := HB2.out.size
     refine ⟨v, (World.putObj_heap_other (by omega)).trans h1, (World.putObj_heap_other (by omega)).trans h2, (World.putObj_heap_other (by omega)).trans h3, Kd.R_mono (Kd.R_move (Kd.R_bound h4) (fun k hk => World.putObj_heap_other (by have := hk.2.1; omega))) (fun _ _ => trivial), h5.trans (RdKit.putObj_below (by omega))⟩
    case hassign =>
     rintro i args W K ⟨A, c, rfl, _, _⟩ hK
     refine RdKit.region_round (l := [_]) (by kernel_rfl) (fun ⟨_, _, h⟩ => h) ?_
     go_wp2
     exact hK
    case hbody =>
     rintro i args W hi ⟨v, hgs, hgb, hgr, hR, hbw⟩ hIt ⟨A, c, rfl, hC, hcc⟩ ⟨r, hlr⟩ hD
     rw [← hL] at hlr hD
     obtain ⟨li, ⟨m1, m2⟩, hli, hm, hn⟩ := sigMs_at HMS.out i hi
     have HM := zA hm
     have hl1 : sigMl k l0 B a2 i = li := by unfold sigMl; rw [hli]; rfl
     have HL2 := zA (show sigMl k l0 B a2 (i + 1) = li ++ [⟨m1, m2⟩] by unfold sigMl; rw [hn]; rfl)
     rw [hl1] at hR
     have HLN := zA (sigMs_len hli)
     obtain ⟨Av, cv, rfl⟩ := Kd.R_slice hR
     have HIN := zA hi
     have HGS := zA hgs
     have HGB := zA hgb
     have HGZ := zA hgr
     have HBw := zA hbw
     have HIt := zA hIt
     have HLR1 := zA hlr
     have HD := zA hD
     have HCC := zA hcc
     have HLW := zA (show L + 2 ≤ W.heap.size from (Array.getElem?_eq_some_iff.1 hlr).1)
     have hb := below_drew (Below.refl W.heap.size W)
     have HC1 := zA (Kd.C_below hC hb)
     have HR1 := zA (Kd.R_below hR hb)
     have HBW := zA (hb.mono HLW.out)
     have hsz9 : L + 2 ≤ W.drew.heap.size := HLW.out
     have HCL := zA (show W.cell? ⟨gS, 3, none⟩ = some (.slice Av li.length cv) from (zc1 hgs 3).trans rfl)
     have HCB := zA (show W.cell? ⟨gB, 0, none⟩ = some (.int .i64 a2) from (zc1 hgb 0).trans rfl)
     have hcell : W.drew.cell? ⟨gS, 3, none⟩ = some (.slice Av li.length cv) := HCL.out
     have hcell2 : W.drew.cell? ⟨gB, 0, none⟩ = some (.int .i64 a2) := HCB.out
     clear hi hgs hgb hgr hbw hIt hlr hD hcc hb hC hR hm hn hli hl1
     refine wpIn_block ?_
     refine start_round (n := 9) (S := fun w' => w'.cell? ⟨gS, 3, none⟩ = some (.slice Av li.length cv) ∧ w'.cell? ⟨gB, 0, none⟩ = some (.int .i64 a2)) (ds := [8]) (qq 9 0) (by kernel_rfl) rfl (by kernel_rfl) (by kernel_rfl) (fun ⟨_, _, h⟩ => h) ⟨hcell, hcell2⟩ (fun hHeld => ?_)
     refine with_tabW sig_Of.tab10 sig_Of.bits10 (fun HT_ HW_ => ?_)
     generalize W.drew = w9 at HC1 HR1 HBW hsz9 hHeld ⊢
     clear hcell hcell2
     refine ord_ [(0, 0, 1), (0, 2, 5), (1, 1, 7), (1, 3, 15)] ?_
     repeat (first | (refine kk_ 0 ?_; refine oP_ (v := ?_) (a' := ?_) HT_ rfl rfl (by kernel_rfl) (fun _ _ _ h => h) (Or.inl ⟨by rfl, ?_⟩) ?_ ?_; rotate_left; (intro w'; go_simp; with_reducible rfl); rotate_left; (simp only [Act.put, zs1, zs2, zs3, i64_w, i32_w]; rfl)) | (refine kk_ 1 ?_; refine oT_ (v := ?_) (a' := ?_) HT_ HW_ rfl rfl (by kernel_rfl) (fun _ _ _ h => h) (Or.inl ⟨by rfl, ?_⟩) hHeld ?_ ?_; rotate_left; (rintro w' ⟨s0, s1⟩; go_simp; with_reducible rfl); rotate_left; (simp only [Act.put, zs1, zs2, zs3, i64_w, i32_w]; rfl)))
     refine oend_ ?_
     refine one_ (i := 4) (N := some 49) (qq 9 31) rfl rfl (one_of HT_.out (by kernel_rfl)) (by decide) (fun K hK => ?_)
     refine goes_ Try.func37 (by kernel_rfl) rfl #[.slice A (cutRow l0 B i).length c, .int .i64 a2] (by rfl) rfl rfl (by (try simp only [zm1, zm2, zm3]); first | done | rfl) ?_
     with_reducible refine (sig_mark.calls k A c (cutRow l0 B i) a2 m1 m2 _ HC1.out HCC.out HM.out).mono ?_
     rintro e w10 ⟨rfl, hb⟩
     have HB10 := zA (HBW.out.trans (hb.mono hsz9))
     have HR10 := zA (Kd.R_below HR1.out hb)
     have hsz10 : L + 2 ≤ w10.heap.size := Nat.le_trans HLW.out HB10.out.size
     have HS10 := zA (show gS < w10.heap.size by have := HLS.out; omega)
     have HG10 := zA (show gB < w10.heap.size by have := HLB.out; omega)
     have hc10 : w10.cell? ⟨gS, 3, none⟩ = some (.slice Av li.length cv) := (HB10.out.cell (p := ⟨gS, 3, none⟩) (show gS < L + 2 by have := HLS.out; omega)).trans HCL.out
     have hb10 : w10.cell? ⟨gB, 0, none⟩ = some (.int .i64 a2) := (HB10.out.cell (p := ⟨gB, 0, none⟩) (show gB < L + 2 by have := HLB.out; omega)).trans HCB.out
     clear hb HR1 HBW hsz9
     refine ⟨_, rfl, ?_⟩
     refine hK.out _ _ ⟨hc10, hb10⟩ (fun hHeld => ?_)
     clear hK K
     refine norm_ (a' := ?_) ?_ ?_
     rotate_left
     ·show Act.put _ (some 49) _ = _
      simp only [Act.put, zs1, zs2, zs3, i64_w, i32_w]
      rfl
     refine one_ (i := 5) (N := some 50) (qq 9 63) rfl rfl (one_of HT_.out (by kernel_rfl)) (by decide) (fun K hK => ?_)
     refine value_ (w1 := ?_) (v := ?_) (by rfl) rfl ?_ ?_
     rotate_left 2
     ·go_simp
      constructor
      ·rfl
      ·rfl
     refine hK.out _ _ ⟨(Below.cell (zb3 (Below.refl _ _) _) (p := ⟨gS, 3, none⟩) HS10.out).trans hc10, (Below.cell (zb3 (Below.refl _ _) _) (p := ⟨gB, 0, none⟩) HG10.out).trans hb10⟩ (fun hHeld => ?_)
     clear hK K
     refine norm_ (a' := ?_) ?_ ?_
     rotate_left
     ·show Act.put _ (some 50) _ = _
      simp only [Act.put, zs1, zs2, zs3, i64_w, i32_w]
      rfl
     refine one_ (i := 6) (N := some 51) (qq 9 127) rfl rfl (one_of HT_.out (by kernel_rfl)) (by decide) (fun K hK => ?_)
     refine Kd.R_append_step k55 (w0 := W) (L + 2) (by rfl) (.tmp 46) (.tmp 50) 22 55 (.agg #[(.int .u32 0), (.string ⟨#[]⟩)]) 24 rfl Try.underlying22 info55 rfl (by decide) (by omega) (.slice Av li.length cv) li (⟨m1, m2⟩ : S55) [.int .u32 m1, .string m2] (fun _ => True) (fun _ => False) rfl rfl (k55_mkM _ _ _ (⟨m1, m2⟩ : S55)) (fun _ hk => hk.elim) (fun _ _ => trivial) HR10.out HB10.out hsz10 (by have := HIN.out; have := F2.out; have := HLN.out; omega) ?_
     intro v2 w11 ho hb hg hat
     rw [← HL2.out] at ho
     have HS4 := zA ho
     have HB4 := zA hb
     have hcell11 : w11.cell? ⟨gS, 3, none⟩ = some (.slice Av li.length cv) := (hb.cell (p := ⟨gS, 3, none⟩) (show gS < L + 2 by have := HLS.out; omega)).trans HCL.out
     have hcellb : w11.cell? ⟨gB, 0, none⟩ = some (.int .i64 a2) := (hb.cell (p := ⟨gB, 0, none⟩) (show gB < L + 2 by have := HLB.out; omega)).trans HCB.out
     have hblk11 := (hb.block gS (by have := HLS.out; omega)).trans HGS.out
     have hblkb := (hb.block gB (by have := HLB.out; omega)).trans HGB.out
     have hblkr := (hb.block gR (by have := HLR.out; omega)).trans HGZ.out
     obtain ⟨A4, c4, e4⟩ := Kd.R_slice HS4.out
     subst e4
     clear ho hb hg hat HR10 HB10 hc10 hb10
     refine hK.out _ _ ⟨hcell11, hcellb⟩ (fun hHeld => ?_)
     clear hK K
     refine norm_ (a' := ?_) ?_ ?_
     rotate_left
     ·show Act.put _ (some 51) _ = _
      simp only [Act.put, zs1, zs2, zs3, i64_w, i32_w]
      rfl
     refine pure_ (i := 7) (N := some 52) (v := ?_) (a' := ?_) (qq 9 255) rfl rfl (any_of HT_.out (by kernel_rfl)) (fun _ _ _ h => h) (Or.inl ⟨by rfl, ?_⟩) ?_ ?_
     rotate_left
     ·intro w'
      go_simp
      with_reducible rfl
     rotate_left
     ·simp only [Act.put, zs1, zs2, zs3, i64_w, i32_w]
      rfl
     refine last_ (i := 8) (N := none) (qq 9 511) rfl rfl (one_of HT_.out (by kernel_rfl)) (by decide) (fun K hK => ?_)
     have hfz : w11.frozen? ⟨gS, 3, none⟩ = false := zc5 hblk11 3
     go_simp
     refine hK.out _ _ ?_
     refine done_ (done_of HT_.out (by kernel_rfl)) ?_
     clear hK K HT_ HW_
     have hls := HLS.out
     have hlr := HLR.out
     have hlb := HLB.out
     have hbe := HB4.out
     have hbase : Below w.heap.size w (w11.setCell ⟨gS, 3, none⟩ (.slice A4 (sigMl k l0 B a2 (i + 1)).length c4)) := (HBw.out.trans (hbe.mono (by have := HB2.out.size; omega))).setCell GES.out _
     refine ⟨?_, ?_, ⟨.slice A4 (sigMl k l0 B a2 (i + 1)).length c4, blk_put hblk11 3 _ rfl, zc7 hblkb NBS.out _, zc7 hblkr NRS.out _, ?_, hbase⟩, ?_⟩
     ·rw [← hL]
      exact (Below.heap_setCell _ _ _ _ (by show L + 1 ≠ gS; omega)).trans (hbe.block _ (by omega))
     ·rw [← hL]
      exact (Below.heap_setCell _ _ _ _ (by show L ≠ gS; omega)).trans (hbe.block _ (by omega))
     ·exact Kd.R_mono (Kd.R_move (Kd.R_bound HS4.out) (fun k hk => Below.heap_setCell _ _ _ _ (by have := hk.2.1; show k ≠ gS; omega))) (fun _ _ => trivial)
     ·refine ⟨?_, ?_, Kd.C_below HR0.out hbase⟩
      ·refine (Below.heap_setCell _ _ _ _ (fun e => ?_)).trans ((hbe.block _ (by have := (Array.getElem?_eq_some_iff.1 HI.out.1).1; omega)).trans HIt.out.1)
       have e' : g1 = gS := e
       have := HIt.out.1
       rw [e', HGS.out] at this
       injection this with this
       injection this with _ this
       exact absurd this (by decide)
      ·refine (Below.heap_setCell _ _ _ _ (fun e => ?_)).trans ((hbe.block _ (by have := (Array.getElem?_eq_some_iff.1 HI.out.2.1).1; omega)).trans HIt.out.2.1)
       have e' : g2 = gS := e
       have := HIt.out.2.1
       rw [e', HGS.out] at this
       injection this with this
       injection this with _ this
       exact absurd this (by decide)
    case hdone =>
     rintro W ⟨v, hgs, hgb, hgr, hR, hbw⟩ hD
     rw [← hL] at hD
     have hl1 : sigMl k l0 B a2 (cutNum l0 B) = ms := by unfold sigMl; rw [HMS.out]; rfl
     rw [hl1] at hR
     obtain ⟨Av, cv, rfl⟩ := Kd.R_slice hR
     have hz0 : W.cell? ⟨gS, 0, none⟩ = some (.int .i64 (l0.length : Int)) := (zc1 hgs 0).trans rfl
     have hz1 : W.cell? ⟨gS, 1, none⟩ = some (.int .i64 B) := (zc1 hgs 1).trans rfl
     have hz2 : W.cell? ⟨gS, 2, none⟩ = some (.int .i64 a2) := (zc1 hgs 2).trans rfl
     have hz3 : W.cell? ⟨gS, 3, none⟩ = some (.slice Av ms.length cv) := (zc1 hgs 3).trans rfl
     have hf0 := zc5 hgr 0
     have hf1 := zc5 hgr 1
     have hf2 := zc5 hgr 2
     have hf3 := zc5 hgr 3
     have hy0 : W.cell? ⟨gR, 0, none⟩ = some (.int .i64 0) := (zc1 hgr 0).trans rfl
     have hy1 : W.cell? ⟨gR, 1, none⟩ = some (.int .i64 0) := (zc1 hgr 1).trans rfl
     have hy2 : W.cell? ⟨gR, 2, none⟩ = some (.int .i64 0) := (zc1 hgr 2).trans rfl
     have hy3 : W.cell? ⟨gR, 3, none⟩ = some (.slice none 0 0) := (zc1 hgr 3).trans rfl
     have HGZ := zA hgr
     have HR := zA hR
     have HBw := zA hbw
     have HD := zA hD
     clear hgs hgb hgr hR hbw hD hl1
     go_wp2
     rw [← hL]
     have hlr := HLR.out
     refine RdKit.marks_ret1 (D := L) ?_ ?_
     ·exact (Below.heap_setCell _ _ _ _ (by show L ≠ gR; omega)).trans ((Below.heap_setCell _ _ _ _ (by show L ≠ gR; omega)).trans ((Below.heap_setCell _ _ _ _ (by show L ≠ gR; omega)).trans ((Below.heap_setCell _ _ _ _ (by show L ≠ gR; omega)).trans HD.out)))
     refine ⟨_, results_ct rfl _ _ gR 24 #[.int .i64 (l0.length : Int), .int .i64 B, .int .i64 a2, .slice Av ms.length cv] (0, 0) _ rfl ((World.putObj_heap_other (show gR ≠ L by omega)).trans (blk_put (blk_put (blk_put (blk_put HGZ.out 0 (.int .i64 (l0.length : Int)) rfl) 1 (.int .i64 B) rfl) 2 (.int .i64 a2) rfl) 3 (.slice Av ms.length cv) rfl)) Try.underlying24 rfl (by kernel_rfl), ?_⟩
     refine ⟨_, rfl, Kd.R_lower (Kd.R_mono (Kd.R_move (Kd.R_bound HR.out) (fun k hk => ?_)) (fun _ _ => trivial)) (by have := HB2.out.size; omega), ?_⟩
     ·have := hk.2.1
      exact (World.putObj_heap_other (by omega)).trans ((Below.heap_setCell _ _ _ _ (by show k ≠ gR; omega)).trans ((Below.heap_setCell _ _ _ _ (by show k ≠ gR; omega)).trans ((Below.heap_setCell _ _ _ _ (by show k ≠ gR; omega)).trans (Below.heap_setCell _ _ _ _ (by show k ≠ gR; omega)))))
     ·exact (zb4 (zb4 (zb4 (zb4 HBw.out HGE.out) HGE.out) HGE.out) HGE.out).trans (RdKit.putObj_below (by have := HB2.out.size; omega))
   ·rw [if_neg h3, Option.bind_some] at h
    have h4 : 16 ≤ a1 ∧ a1 ≤ 4096 := h1.2.resolve_left h3
    rw [if_pos h4] at h
    obtain ⟨ms, hms, h⟩ := Option.bind_eq_some_iff.mp h
    simp only [Option.some.injEq, Prod.mk.injEq] at h
    obtain ⟨rfl, rfl, rfl, rfl, rfl⟩ := h
    obtain ⟨f1, f2, f3⟩ := cut_facts h4.1 h4.2 H2.out
    have F1 := zA f1
    have F2 := zA f2
    have F3 := zA f3
    have HMS := zA hms
    have HK := zA (show sig_block.f a1 = some true by unfold sig_block.f; rw [if_pos h4.1, zd1 h4.2])
    have n1 : decide (a1 = 0) = false := zd2 h3
    clear hms h4 f1 f2 f3 h1
    refine RdKit.calls_marks Try.func19 rfl ?_
    simp only [Try.ntmps19, List.size_toArray, List.length_cons, List.length_nil, Nat.reduceAdd, Nat.reduceSub, Array.replicate_succ, Array.replicate_zero, List.push_toArray, List.append_toArray, List.nil_append, List.cons_append]
    go_wp2_with (first | ((with_reducible refine gate_dst (N := 5) rfl ?_); refine box_event ?hg (N := 5) ?hd (cs := #[.int .i64 a2]) (t := 3) ?hr ?_; (case hd => rfl); (case hg => rfl); (case hr => first | (go_simp; done) | (go_simp; rfl)); intro gB hgB wB hA hq; have HB := zA hq; have HKB := zA hA; have hcB : wB.cell? ⟨gB, 0, none⟩ = some (.int .i64 a2) := (by rw [zc1 hA]; rfl); clear hA hq hgB) | ((with_reducible refine gate_dst (N := 6) rfl ?_); refine box_event ?hg (N := 6) ?hd (cs := #[.int .i64 0, .int .i64 0, .int .i64 0, .slice none 0 0]) (t := 24) ?hr ?_; (case hd => rfl); (case hg => rfl); (case hr => first | (go_simp; done) | (go_simp; rfl)); intro gR hgR wR hA hq; have HGR := zA hgR; have HKR := zA hA; have HKB := zA (zc6 HKB.out hq); have HBR := zA (zb5 HB.out hq); replace hcB : wR.cell? ⟨gB, 0, none⟩ = some (.int .i64 a2) := (by rw [zc1 HKB.out]; rfl); clear hA hq hgR) | ((with_reducible refine gate_dst (N := 8) rfl ?_); refine box_event ?hg (N := 8) ?hd (cs := #[.int .i64 0, .int .i64 0, .int .i64 0, .slice none 0 0]) (t := 24) ?hr ?_; (case hd => rfl); (case hg => rfl); (case hr => first | (go_simp; done) | (go_simp; rfl)); intro gS hgS wS hA hq; have HKS := zA hA; have HKB2 := zA (zc6 (g := gB) (by exact HKB.out) hq); have HKR2 := zA (zc6 (g := gR) (by exact HKR.out) hq); have HBS := zA (zb5 (zb1 HBR.out _) hq); have GES := zA (show w.heap.size ≤ gS by rw [hgS]; exact zb6 (zb1 HBR.out _)); have NBS := zA (show gB ≠ gS by rw [hgS]; exact Nat.ne_of_lt (blk_lt HKB.out)); have NRS := zA (show gR ≠ gS by rw [hgS]; exact Nat.ne_of_lt (blk_lt HKR.out)); replace hcB : wS.cell? ⟨gB, 0, none⟩ = some (.int .i64 a2) := (by rw [zc1 HKB2.out]; rfl); have hz0 : wS.cell? ⟨gS, 0, none⟩ = some (.int .i64 0) := (zc1 HKS.out 0).trans rfl; have hz1 : wS.cell? ⟨gS, 1, none⟩ = some (.int .i64 0) := (zc1 HKS.out 1).trans rfl; have hz2 : wS.cell? ⟨gS, 2, none⟩ = some (.int .i64 0) := (zc1 HKS.out 2).trans rfl; have hz3 : wS.cell? ⟨gS, 3, none⟩ = some (.slice none 0 0) := (zc1 HKS.out 3).trans rfl; have hf0 := zc5 HKS.out 0; have hf1 := zc5 HKS.out 1; have hf2 := zc5 HKS.out 2; have hf3 := zc5 HKS.out 3; clear hA hq hgS) | (go_at_call 33; (with_reducible refine (sig_strong.calls a2 true _ HS.out).mono ?_); rintro e w' ⟨rfl, ⟨nd, rfl⟩⟩) | (go_at_call 34; (with_reducible refine (sig_block.calls a1 true _ HK.out).mono ?_); rintro e w' ⟨rfl, ⟨nd2, rfl⟩⟩))
    refine (each_calls A0 c0 l0 a1 _ (Kd.C_below HR0.out (zb4 (zb4 (zb4 (zb4 HBS.out GES.out) GES.out) GES.out) GES.out))).mono ?_
    rintro e w2 ⟨g1, g2, rfl, hIt, hb, _⟩
    have HI := zA hIt
    have HB2 := zA (zb5 (zb4 (zb4 (zb4 (zb4 HBS.out GES.out) GES.out) GES.out) GES.out) hb)
    have HKS2 := zA (zc6 (blk_put (blk_put (blk_put (blk_put HKS.out 0 (.int .i64 (l0.length : Int)) rfl) 1 (.int .i64 a1) rfl) 2 (.int .i64 a2) rfl) 3 (.slice none 0 0) rfl) hb)
    have HKB3 := zA (zc6 (zc7 (zc7 (zc7 (zc7 HKB2.out NBS.out _) NBS.out _) NBS.out _) NBS.out _) hb)
    have HKR3 := zA (zc6 (zc7 (zc7 (zc7 (zc7 HKR2.out NRS.out _) NRS.out _) NRS.out _) NRS.out _) hb)
    clear hIt hb
    replace HI := HI
    go_wp2_with fail
    obtain ⟨L, hL⟩ : ∃ L, L = w2.heap.size := ⟨_, rfl⟩
    have HLS := zA (show gS < L by rw [hL]; exact (Array.getElem?_eq_some_iff.1 HKS2.out).1)
    have HLB := zA (show gB < L by rw [hL]; exact (Array.getElem?_eq_some_iff.1 HKB3.out).1)
    have HLR := zA (show gR < L by rw [hL]; exact (Array.getElem?_eq_some_iff.1 HKR3.out).1)
    have HGE := zA (show w.heap.size ≤ gR by rw [HGR.out]; exact HB.out.size)
    refine RdKit.wp_range_rd (gf := 55) rfl (fun args w => enters_ Try.func55 (by kernel_rfl) rfl args w) (each_iter g1 g2 A0 c0 l0 a1 (cutNum l0 a1) (cutRow l0 a1) HC0.out H2.out F1.out F2.out F3.out)
     (fun i args W hr => by obtain ⟨A, c, rfl, _⟩ := hr; rfl)
     (fun i args W r o hr hl => hr.put hl) (fun W r o hi hl => hi.put hl) (fun W W' hi hb => hi.below hb)
     (fun i W => ∃ v, W.heap[gS]? = some (.cells #[.int .i64 (l0.length : Int), .int .i64 a1, .int .i64 a2, v] 24 (0, 0)) ∧ W.heap[gB]? = some (.cells #[.int .i64 a2] 3 (0, 0)) ∧ W.heap[gR]? = some (.cells #[.int .i64 0, .int .i64 0, .int .i64 0, .slice none 0 0] 24 (0, 0)) ∧ Kd.R k55 55 W (L + 2) (fun _ => True) v (sigMl k l0 a1 a2 i) ∧ Below w.heap.size w W)
     (fun _ _ => False) ?hIb ?hIp (fun _ _ _ _ h _ => h) ⟨_, HKS2.out, HKB3.out, HKR3.out, Kd.R_nil _ _ _ _ _, HB2.out⟩ HI.out
     (fun args => { tmps := #[.slice A0 l0.length c0, .int .i64 a1, .int .i64 a2, undef, undef, .pointer (some ⟨gB, 0, none⟩), .pointer (some ⟨gR, 0, none⟩), .int .i64 0, .pointer (some ⟨gS, 0, none⟩), undef, args.getD 1 undef, .bool false, .int .i64 a2, .bool true, .bool false, .bool false, .int .i64 a1, .bool (a1 != 0), .bool (a1 != 0), .int .i64 a1, .bool true, .bool false, .bool false, .bool false, undef, .bool false, .slice A0 l0.length c0, .int .i64 (l0.length : Int), .bool false, undef, .int .i64 a1, .bool false, undef, undef, undef, .slice A0 l0.length c0, .int .i64 (l0.length : Int), .int .i64 a1, .int .i64 a2, .agg #[.int .i64 (l0.length : Int), .int .i64 a1, .int .i64 a2, .slice none 0 0], .slice A0 l0.length c0, .int .i64 a1, .func (.func 55) #[] #[.pointer (some ⟨g1, 0, none⟩), .pointer (some ⟨g2, 0, none⟩)], args.getD 0 undef, args.getD 1 undef, undef, undef, undef, undef, undef, undef, undef, undef, undef], defers := [] }) ?hassign ?hbody ?hdone (fun _ _ h _ => h.elim)
    case hIb =>
     rintro i W W' ⟨v, h1, h2, h3, h4, h5⟩ hb
     exact ⟨v, zc6 h1 hb, zc6 h2 hb, zc6 h3 hb, Kd.R_below h4 hb, zb5 h5 hb⟩
    case hIp =>
     rintro i W r o ⟨v, h1, h2, h3, h4, h5⟩ hl
     have hs := HLS.out; have hbb := HLB.out; have hr := HLR.out; have hb2 := HB2.out.size
     refine ⟨v, (World.putObj_heap_other (by omega)).trans h1, (World.putObj_heap_other (by omega)).trans h2, (World.putObj_heap_other (by omega)).trans h3, Kd.R_mono (Kd.R_move (Kd.R_bound h4) (fun k hk => World.putObj_heap_other (by have := hk.2.1; omega))) (fun _ _ => trivial), h5.trans (RdKit.putObj_below (by omega))⟩
    case hassign =>
     rintro i args W K ⟨A, c, rfl, _, _⟩ hK
     refine RdKit.region_round (l := [_]) (by kernel_rfl) (fun ⟨_, _, h⟩ => h) ?_
     go_wp2
     exact hK
    case hbody =>
     rintro i args W hi ⟨v, hgs, hgb, hgr, hR, hbw⟩ hIt ⟨A, c, rfl, hC, hcc⟩ ⟨r, hlr⟩ hD
     rw [← hL] at hlr hD
     obtain ⟨li, ⟨m1, m2⟩, hli, hm, hn⟩ := sigMs_at HMS.out i hi
     have HM := zA hm
     have hl1 : sigMl k l0 a1 a2 i = li := by unfold sigMl; rw [hli]; rfl
     have HL2 := zA (show sigMl k l0 a1 a2 (i + 1) = li ++ [⟨m1, m2⟩] by unfold sigMl; rw [hn]; rfl)
     rw [hl1] at hR
     have HLN := zA (sigMs_len hli)
     obtain ⟨Av, cv, rfl⟩ := Kd.R_slice hR
     have HIN := zA hi
     have HGS := zA hgs
     have HGB := zA hgb
     have HGZ := zA hgr
     have HBw := zA hbw
     have HIt := zA hIt
     have HLR1 := zA hlr
     have HD := zA hD
     have HCC := zA hcc
     have HLW := zA (show L + 2 ≤ W.heap.size from (Array.getElem?_eq_some_iff.1 hlr).1)
     have hb := below_drew (Below.refl W.heap.size W)
     have HC1 := zA (Kd.C_below hC hb)
     have HR1 := zA (Kd.R_below hR hb)
     have HBW := zA (hb.mono HLW.out)
     have hsz9 : L + 2 ≤ W.drew.heap.size := HLW.out
     have HCL := zA (show W.cell? ⟨gS, 3, none⟩ = some (.slice Av li.length cv) from (zc1 hgs 3).trans rfl)
     have HCB := zA (show W.cell? ⟨gB, 0, none⟩ = some (.int .i64 a2) from (zc1 hgb 0).trans rfl)
     have hcell : W.drew.cell? ⟨gS, 3, none⟩ = some (.slice Av li.length cv) := HCL.out
     have hcell2 : W.drew.cell? ⟨gB, 0, none⟩ = some (.int .i64 a2) := HCB.out
     clear hi hgs hgb hgr hbw hIt hlr hD hcc hb hC hR hm hn hli hl1
     refine wpIn_block ?_
     refine start_round (n := 9) (S := fun w' => w'.cell? ⟨gS, 3, none⟩ = some (.slice Av li.length cv) ∧ w'.cell? ⟨gB, 0, none⟩ = some (.int .i64 a2)) (ds := [8]) (qq 9 0) (by kernel_rfl) rfl (by kernel_rfl) (by kernel_rfl) (fun ⟨_, _, h⟩ => h) ⟨hcell, hcell2⟩ (fun hHeld => ?_)
     refine with_tabW sig_Of.tab10 sig_Of.bits10 (fun HT_ HW_ => ?_)
     generalize W.drew = w9 at HC1 HR1 HBW hsz9 hHeld ⊢
     clear hcell hcell2
     refine ord_ [(0, 0, 1), (0, 2, 5), (1, 1, 7), (1, 3, 15)] ?_
     repeat (first | (refine kk_ 0 ?_; refine oP_ (v := ?_) (a' := ?_) HT_ rfl rfl (by kernel_rfl) (fun _ _ _ h => h) (Or.inl ⟨by rfl, ?_⟩) ?_ ?_; rotate_left; (intro w'; go_simp; with_reducible rfl); rotate_left; (simp only [Act.put, zs1, zs2, zs3, i64_w, i32_w]; rfl)) | (refine kk_ 1 ?_; refine oT_ (v := ?_) (a' := ?_) HT_ HW_ rfl rfl (by kernel_rfl) (fun _ _ _ h => h) (Or.inl ⟨by rfl, ?_⟩) hHeld ?_ ?_; rotate_left; (rintro w' ⟨s0, s1⟩; go_simp; with_reducible rfl); rotate_left; (simp only [Act.put, zs1, zs2, zs3, i64_w, i32_w]; rfl)))
     refine oend_ ?_
     refine one_ (i := 4) (N := some 49) (qq 9 31) rfl rfl (one_of HT_.out (by kernel_rfl)) (by decide) (fun K hK => ?_)
     refine goes_ Try.func37 (by kernel_rfl) rfl #[.slice A (cutRow l0 a1 i).length c, .int .i64 a2] (by rfl) rfl rfl (by (try simp only [zm1, zm2, zm3]); first | done | rfl) ?_
     with_reducible refine (sig_mark.calls k A c (cutRow l0 a1 i) a2 m1 m2 _ HC1.out HCC.out HM.out).mono ?_
     rintro e w10 ⟨rfl, hb⟩
     have HB10 := zA (HBW.out.trans (hb.mono hsz9))
     have HR10 := zA (Kd.R_below HR1.out hb)
     have hsz10 : L + 2 ≤ w10.heap.size := Nat.le_trans HLW.out HB10.out.size
     have HS10 := zA (show gS < w10.heap.size by have := HLS.out; omega)
     have HG10 := zA (show gB < w10.heap.size by have := HLB.out; omega)
     have hc10 : w10.cell? ⟨gS, 3, none⟩ = some (.slice Av li.length cv) := (HB10.out.cell (p := ⟨gS, 3, none⟩) (show gS < L + 2 by have := HLS.out; omega)).trans HCL.out
     have hb10 : w10.cell? ⟨gB, 0, none⟩ = some (.int .i64 a2) := (HB10.out.cell (p := ⟨gB, 0, none⟩) (show gB < L + 2 by have := HLB.out; omega)).trans HCB.out
     clear hb HR1 HBW hsz9
     refine ⟨_, rfl, ?_⟩
     refine hK.out _ _ ⟨hc10, hb10⟩ (fun hHeld => ?_)
     clear hK K
     refine norm_ (a' := ?_) ?_ ?_
     rotate_left
     ·show Act.put _ (some 49) _ = _
      simp only [Act.put, zs1, zs2, zs3, i64_w, i32_w]
      rfl
     refine one_ (i := 5) (N := some 50) (qq 9 63) rfl rfl (one_of HT_.out (by kernel_rfl)) (by decide) (fun K hK => ?_)
     refine value_ (w1 := ?_) (v := ?_) (by rfl) rfl ?_ ?_
     rotate_left 2
     ·go_simp
      constructor
      ·rfl
      ·rfl
     refine hK.out _ _ ⟨(Below.cell (zb3 (Below.refl _ _) _) (p := ⟨gS, 3, none⟩) HS10.out).trans hc10, (Below.cell (zb3 (Below.refl _ _) _) (p := ⟨gB, 0, none⟩) HG10.out).trans hb10⟩ (fun hHeld => ?_)
     clear hK K
     refine norm_ (a' := ?_) ?_ ?_
     rotate_left
     ·show Act.put _ (some 50) _ = _
      simp only [Act.put, zs1, zs2, zs3, i64_w, i32_w]
      rfl
     refine one_ (i := 6) (N := some 51) (qq 9 127) rfl rfl (one_of HT_.out (by kernel_rfl)) (by decide) (fun K hK => ?_)
     refine Kd.R_append_step k55 (w0 := W) (L + 2) (by rfl) (.tmp 46) (.tmp 50) 22 55 (.agg #[(.int .u32 0), (.string ⟨#[]⟩)]) 24 rfl Try.underlying22 info55 rfl (by decide) (by omega) (.slice Av li.length cv) li (⟨m1, m2⟩ : S55) [.int .u32 m1, .string m2] (fun _ => True) (fun _ => False) rfl rfl (k55_mkM _ _ _ (⟨m1, m2⟩ : S55)) (fun _ hk => hk.elim) (fun _ _ => trivial) HR10.out HB10.out hsz10 (by have := HIN.out; have := F2.out; have := HLN.out; omega) ?_
     intro v2 w11 ho hb hg hat
     rw [← HL2.out] at ho
     have HS4 := zA ho
     have HB4 := zA hb
     have hcell11 : w11.cell? ⟨gS, 3, none⟩ = some (.slice Av li.length cv) := (hb.cell (p := ⟨gS, 3, none⟩) (show gS < L + 2 by have := HLS.out; omega)).trans HCL.out
     have hcellb : w11.cell? ⟨gB, 0, none⟩ = some (.int .i64 a2) := (hb.cell (p := ⟨gB, 0, none⟩) (show gB < L + 2 by have := HLB.out; omega)).trans HCB.out
     have hblk11 := (hb.block gS (by have := HLS.out; omega)).trans HGS.out
     have hblkb := (hb.block gB (by have := HLB.out; omega)).trans HGB.out
     have hblkr := (hb.block gR (by have := HLR.out; omega)).trans HGZ.out
     obtain ⟨A4, c4, e4⟩ := Kd.R_slice HS4.out
     subst e4
     clear ho hb hg hat HR10 HB10 hc10 hb10
     refine hK.out _ _ ⟨hcell11, hcellb⟩ (fun hHeld => ?_)
     clear hK K
     refine norm_ (a' := ?_) ?_ ?_
     rotate_left
     ·show Act.put _ (some 51) _ = _
      simp only [Act.put, zs1, zs2, zs3, i64_w, i32_w]
      rfl
     refine pure_ (i := 7) (N := some 52) (v := ?_) (a' := ?_) (qq 9 255) rfl rfl (any_of HT_.out (by kernel_rfl)) (fun _ _ _ h => h) (Or.inl ⟨by rfl, ?_⟩) ?_ ?_
     rotate_left
     ·intro w'
      go_simp
      with_reducible rfl
     rotate_left
     ·simp only [Act.put, zs1, zs2, zs3, i64_w, i32_w]
      rfl
     refine last_ (i := 8) (N := none) (qq 9 511) rfl rfl (one_of HT_.out (by kernel_rfl)) (by decide) (fun K hK => ?_)
     have hfz : w11.frozen? ⟨gS, 3, none⟩ = false := zc5 hblk11 3
     go_simp
     refine hK.out _ _ ?_
     refine done_ (done_of HT_.out (by kernel_rfl)) ?_
     clear hK K HT_ HW_
     have hls := HLS.out
     have hlr := HLR.out
     have hlb := HLB.out
     have hbe := HB4.out
     have hbase : Below w.heap.size w (w11.setCell ⟨gS, 3, none⟩ (.slice A4 (sigMl k l0 a1 a2 (i + 1)).length c4)) := (HBw.out.trans (hbe.mono (by have := HB2.out.size; omega))).setCell GES.out _
     refine ⟨?_, ?_, ⟨.slice A4 (sigMl k l0 a1 a2 (i + 1)).length c4, blk_put hblk11 3 _ rfl, zc7 hblkb NBS.out _, zc7 hblkr NRS.out _, ?_, hbase⟩, ?_⟩
     ·rw [← hL]
      exact (Below.heap_setCell _ _ _ _ (by show L + 1 ≠ gS; omega)).trans (hbe.block _ (by omega))
     ·rw [← hL]
      exact (Below.heap_setCell _ _ _ _ (by show L ≠ gS; omega)).trans (hbe.block _ (by omega))
     ·exact Kd.R_mono (Kd.R_move (Kd.R_bound HS4.out) (fun k hk => Below.heap_setCell _ _ _ _ (by have := hk.2.1; show k ≠ gS; omega))) (fun _ _ => trivial)
     ·refine ⟨?_, ?_, Kd.C_below HR0.out hbase⟩
      ·refine (Below.heap_setCell _ _ _ _ (fun e => ?_)).trans ((hbe.block _ (by have := (Array.getElem?_eq_some_iff.1 HI.out.1).1; omega)).trans HIt.out.1)
       have e' : g1 = gS := e
       have := HIt.out.1
       rw [e', HGS.out] at this
       injection this with this
       injection this with _ this
       exact absurd this (by decide)
      ·refine (Below.heap_setCell _ _ _ _ (fun e => ?_)).trans ((hbe.block _ (by have := (Array.getElem?_eq_some_iff.1 HI.out.2.1).1; omega)).trans HIt.out.2.1)
       have e' : g2 = gS := e
       have := HIt.out.2.1
       rw [e', HGS.out] at this
       injection this with this
       injection this with _ this
       exact absurd this (by decide)
    case hdone =>
     rintro W ⟨v, hgs, hgb, hgr, hR, hbw⟩ hD
     rw [← hL] at hD
     have hl1 : sigMl k l0 a1 a2 (cutNum l0 a1) = ms := by unfold sigMl; rw [HMS.out]; rfl
     rw [hl1] at hR
     obtain ⟨Av, cv, rfl⟩ := Kd.R_slice hR
     have hz0 : W.cell? ⟨gS, 0, none⟩ = some (.int .i64 (l0.length : Int)) := (zc1 hgs 0).trans rfl
     have hz1 : W.cell? ⟨gS, 1, none⟩ = some (.int .i64 a1) := (zc1 hgs 1).trans rfl
     have hz2 : W.cell? ⟨gS, 2, none⟩ = some (.int .i64 a2) := (zc1 hgs 2).trans rfl
     have hz3 : W.cell? ⟨gS, 3, none⟩ = some (.slice Av ms.length cv) := (zc1 hgs 3).trans rfl
     have hf0 := zc5 hgr 0
     have hf1 := zc5 hgr 1
     have hf2 := zc5 hgr 2
     have hf3 := zc5 hgr 3
     have hy0 : W.cell? ⟨gR, 0, none⟩ = some (.int .i64 0) := (zc1 hgr 0).trans rfl
     have hy1 : W.cell? ⟨gR, 1, none⟩ = some (.int .i64 0) := (zc1 hgr 1).trans rfl
     have hy2 : W.cell? ⟨gR, 2, none⟩ = some (.int .i64 0) := (zc1 hgr 2).trans rfl
     have hy3 : W.cell? ⟨gR, 3, none⟩ = some (.slice none 0 0) := (zc1 hgr 3).trans rfl
     have HGZ := zA hgr
     have HR := zA hR
     have HBw := zA hbw
     have HD := zA hD
     clear hgs hgb hgr hR hbw hD hl1
     go_wp2
     rw [← hL]
     have hlr := HLR.out
     refine RdKit.marks_ret1 (D := L) ?_ ?_
     ·exact (Below.heap_setCell _ _ _ _ (by show L ≠ gR; omega)).trans ((Below.heap_setCell _ _ _ _ (by show L ≠ gR; omega)).trans ((Below.heap_setCell _ _ _ _ (by show L ≠ gR; omega)).trans ((Below.heap_setCell _ _ _ _ (by show L ≠ gR; omega)).trans HD.out)))
     refine ⟨_, results_ct rfl _ _ gR 24 #[.int .i64 (l0.length : Int), .int .i64 a1, .int .i64 a2, .slice Av ms.length cv] (0, 0) _ rfl ((World.putObj_heap_other (show gR ≠ L by omega)).trans (blk_put (blk_put (blk_put (blk_put HGZ.out 0 (.int .i64 (l0.length : Int)) rfl) 1 (.int .i64 a1) rfl) 2 (.int .i64 a2) rfl) 3 (.slice Av ms.length cv) rfl)) Try.underlying24 rfl (by kernel_rfl), ?_⟩
     refine ⟨_, rfl, Kd.R_lower (Kd.R_mono (Kd.R_move (Kd.R_bound HR.out) (fun k hk => ?_)) (fun _ _ => trivial)) (by have := HB2.out.size; omega), ?_⟩
     ·have := hk.2.1
      exact (World.putObj_heap_other (by omega)).trans ((Below.heap_setCell _ _ _ _ (by show k ≠ gR; omega)).trans ((Below.heap_setCell _ _ _ _ (by show k ≠ gR; omega)).trans ((Below.heap_setCell _ _ _ _ (by show k ≠ gR; omega)).trans (Below.heap_setCell _ _ _ _ (by show k ≠ gR; omega)))))
     ·exact (zb4 (zb4 (zb4 (zb4 HBw.out HGE.out) HGE.out) HGE.out) HGE.out).trans (RdKit.putObj_below (by have := HB2.out.size; omega))
  ·rw [if_neg h2] at h
   simp only [Option.some.injEq, Prod.mk.injEq] at h
   obtain ⟨rfl, rfl, rfl, rfl, rfl⟩ := h
   have c1 : decide (131072 < (l0.length : Int)) = true := by simp; omega
   have c2 : decide (131072 < l0.length) = true := by simp; omega
   clear h2
   by_cases h3 : a1 = 0
   ·subst h3
    clear h1
    refine RdKit.calls_marks Try.func19 rfl ?_
    simp only [Try.ntmps19, List.size_toArray, List.length_cons, List.length_nil, Nat.reduceAdd, Nat.reduceSub, Array.replicate_succ, Array.replicate_zero, List.push_toArray, List.append_toArray, List.nil_append, List.cons_append]
    go_wp2_with (first | ((with_reducible refine gate_dst (N := 5) rfl ?_); refine box_event ?hg (N := 5) ?hd (cs := #[.int .i64 a2]) (t := 3) ?hr ?_; (case hd => rfl); (case hg => rfl); (case hr => first | (go_simp; done) | (go_simp; rfl)); intro gB hgB wB hA hq; have HB := zA hq; have HKB := zA hA; have hcB : wB.cell? ⟨gB, 0, none⟩ = some (.int .i64 a2) := (by rw [zc1 hA]; rfl); clear hA hq hgB) | ((with_reducible refine gate_dst (N := 6) rfl ?_); refine box_event ?hg (N := 6) ?hd (cs := #[.int .i64 0, .int .i64 0, .int .i64 0, .slice none 0 0]) (t := 24) ?hr ?_; (case hd => rfl); (case hg => rfl); (case hr => first | (go_simp; done) | (go_simp; rfl)); intro gR hgR wR hA hq; have HGR := zA hgR; have HKR := zA hA; have HKB := zA (zc6 HKB.out hq); have HBR := zA (zb5 HB.out hq); replace hcB : wR.cell? ⟨gB, 0, none⟩ = some (.int .i64 a2) := (by rw [zc1 HKB.out]; rfl); have hy0 : wR.cell? ⟨gR, 0, none⟩ = some (.int .i64 0) := (zc1 HKR.out 0).trans rfl; have hy1 : wR.cell? ⟨gR, 1, none⟩ = some (.int .i64 0) := (zc1 HKR.out 1).trans rfl; have hy2 : wR.cell? ⟨gR, 2, none⟩ = some (.int .i64 0) := (zc1 HKR.out 2).trans rfl; have hy3 : wR.cell? ⟨gR, 3, none⟩ = some (.slice none 0 0) := (zc1 HKR.out 3).trans rfl; have hx0 := zc5 HKR.out 0; have hx1 := zc5 HKR.out 1; have hx2 := zc5 HKR.out 2; have hx3 := zc5 HKR.out 3; clear hA hq hgR) | ((with_reducible refine gate_dst (N := 8) rfl ?_); refine box_event ?hg (N := 8) ?hd (cs := #[.int .i64 0, .int .i64 0, .int .i64 0, .slice none 0 0]) (t := 24) ?hr ?_; (case hd => rfl); (case hg => rfl); (case hr => first | (go_simp; done) | (go_simp; rfl)); intro gS hgS wS hA hq; have HKS := zA hA; have HKB2 := zA (zc6 (g := gB) (by exact HKB.out) hq); have HKR2 := zA (zc6 (g := gR) (by exact HKR.out) hq); have HBS := zA (zb5 (zb1 HBR.out _) hq); have GES := zA (show w.heap.size ≤ gS by rw [hgS]; exact zb6 (zb1 HBR.out _)); have NBS := zA (show gB ≠ gS by rw [hgS]; exact Nat.ne_of_lt (blk_lt HKB.out)); have NRS := zA (show gR ≠ gS by rw [hgS]; exact Nat.ne_of_lt (blk_lt HKR.out)); replace hcB : wS.cell? ⟨gB, 0, none⟩ = some (.int .i64 a2) := (by rw [zc1 HKB2.out]; rfl); have hz0 : wS.cell? ⟨gS, 0, none⟩ = some (.int .i64 0) := (zc1 HKS.out 0).trans rfl; have hz1 : wS.cell? ⟨gS, 1, none⟩ = some (.int .i64 0) := (zc1 HKS.out 1).trans rfl; have hz2 : wS.cell? ⟨gS, 2, none⟩ = some (.int .i64 0) := (zc1 HKS.out 2).trans rfl; have hz3 : wS.cell? ⟨gS, 3, none⟩ = some (.slice none 0 0) := (zc1 HKS.out 3).trans rfl; have hf0 := zc5 HKS.out 0; have hf1 := zc5 HKS.out 1; have hf2 := zc5 HKS.out 2; have hf3 := zc5 HKS.out 3; clear hA hq hgS) | (go_at_call 33; (with_reducible refine (sig_strong.calls a2 true _ HS.out).mono ?_); rintro e w' ⟨rfl, ⟨nd, rfl⟩⟩))
    have HGE := zA (show w.heap.size ≤ gR by rw [HGR.out]; exact HB.out.size)
    refine RdKit.marks_ret ?_
    refine ⟨_, results_ct rfl _ _ gR 24 #[.int .i64 0, .int .i64 0, .int .i64 0, .slice none 0 0] (0, 0) _ rfl (blk_put (blk_put (blk_put (blk_put HKR.out 0 (.int .i64 0) rfl) 1 (.int .i64 0) rfl) 2 (.int .i64 0) rfl) 3 (.slice none 0 0) rfl) Try.underlying24 rfl (by kernel_rfl), ?_⟩
    refine ⟨_, rfl, Kd.R_nil _ _ _ _ _, ?_⟩
    exact zb4 (zb4 (zb4 (zb4 (zb1 HBR.out _) HGE.out) HGE.out) HGE.out) HGE.out
   ·have h4 : 16 ≤ a1 ∧ a1 ≤ 4096 := h1.2.resolve_left h3
    have HK := zA (show sig_block.f a1 = some true by unfold sig_block.f; rw [if_pos h4.1, zd1 h4.2])
    have n1 : decide (a1 = 0) = false := zd2 h3
    clear h4 h1
    refine RdKit.calls_marks Try.func19 rfl ?_
    simp only [Try.ntmps19, List.size_toArray, List.length_cons, List.length_nil, Nat.reduceAdd, Nat.reduceSub, Array.replicate_succ, Array.replicate_zero, List.push_toArray, List.append_toArray, List.nil_append, List.cons_append]
    go_wp2_with (first | ((with_reducible refine gate_dst (N := 5) rfl ?_); refine box_event ?hg (N := 5) ?hd (cs := #[.int .i64 a2]) (t := 3) ?hr ?_; (case hd => rfl); (case hg => rfl); (case hr => first | (go_simp; done) | (go_simp; rfl)); intro gB hgB wB hA hq; have HB := zA hq; have HKB := zA hA; have hcB : wB.cell? ⟨gB, 0, none⟩ = some (.int .i64 a2) := (by rw [zc1 hA]; rfl); clear hA hq hgB) | ((with_reducible refine gate_dst (N := 6) rfl ?_); refine box_event ?hg (N := 6) ?hd (cs := #[.int .i64 0, .int .i64 0, .int .i64 0, .slice none 0 0]) (t := 24) ?hr ?_; (case hd => rfl); (case hg => rfl); (case hr => first | (go_simp; done) | (go_simp; rfl)); intro gR hgR wR hA hq; have HGR := zA hgR; have HKR := zA hA; have HKB := zA (zc6 HKB.out hq); have HBR := zA (zb5 HB.out hq); replace hcB : wR.cell? ⟨gB, 0, none⟩ = some (.int .i64 a2) := (by rw [zc1 HKB.out]; rfl); have hy0 : wR.cell? ⟨gR, 0, none⟩ = some (.int .i64 0) := (zc1 HKR.out 0).trans rfl; have hy1 : wR.cell? ⟨gR, 1, none⟩ = some (.int .i64 0) := (zc1 HKR.out 1).trans rfl; have hy2 : wR.cell? ⟨gR, 2, none⟩ = some (.int .i64 0) := (zc1 HKR.out 2).trans rfl; have hy3 : wR.cell? ⟨gR, 3, none⟩ = some (.slice none 0 0) := (zc1 HKR.out 3).trans rfl; have hx0 := zc5 HKR.out 0; have hx1 := zc5 HKR.out 1; have hx2 := zc5 HKR.out 2; have hx3 := zc5 HKR.out 3; clear hA hq hgR) | ((with_reducible refine gate_dst (N := 8) rfl ?_); refine box_event ?hg (N := 8) ?hd (cs := #[.int .i64 0, .int .i64 0, .int .i64 0, .slice none 0 0]) (t := 24) ?hr ?_; (case hd => rfl); (case hg => rfl); (case hr => first | (go_simp; done) | (go_simp; rfl)); intro gS hgS wS hA hq; have HKS := zA hA; have HKB2 := zA (zc6 (g := gB) (by exact HKB.out) hq); have HKR2 := zA (zc6 (g := gR) (by exact HKR.out) hq); have HBS := zA (zb5 (zb1 HBR.out _) hq); have GES := zA (show w.heap.size ≤ gS by rw [hgS]; exact zb6 (zb1 HBR.out _)); have NBS := zA (show gB ≠ gS by rw [hgS]; exact Nat.ne_of_lt (blk_lt HKB.out)); have NRS := zA (show gR ≠ gS by rw [hgS]; exact Nat.ne_of_lt (blk_lt HKR.out)); replace hcB : wS.cell? ⟨gB, 0, none⟩ = some (.int .i64 a2) := (by rw [zc1 HKB2.out]; rfl); have hz0 : wS.cell? ⟨gS, 0, none⟩ = some (.int .i64 0) := (zc1 HKS.out 0).trans rfl; have hz1 : wS.cell? ⟨gS, 1, none⟩ = some (.int .i64 0) := (zc1 HKS.out 1).trans rfl; have hz2 : wS.cell? ⟨gS, 2, none⟩ = some (.int .i64 0) := (zc1 HKS.out 2).trans rfl; have hz3 : wS.cell? ⟨gS, 3, none⟩ = some (.slice none 0 0) := (zc1 HKS.out 3).trans rfl; have hf0 := zc5 HKS.out 0; have hf1 := zc5 HKS.out 1; have hf2 := zc5 HKS.out 2; have hf3 := zc5 HKS.out 3; clear hA hq hgS) | (go_at_call 33; (with_reducible refine (sig_strong.calls a2 true _ HS.out).mono ?_); rintro e w' ⟨rfl, ⟨nd, rfl⟩⟩) | (go_at_call 34; (with_reducible refine (sig_block.calls a1 true _ HK.out).mono ?_); rintro e w' ⟨rfl, ⟨nd2, rfl⟩⟩))
    have HGE := zA (show w.heap.size ≤ gR by rw [HGR.out]; exact HB.out.size)
    refine RdKit.marks_ret ?_
    refine ⟨_, results_ct rfl _ _ gR 24 #[.int .i64 0, .int .i64 0, .int .i64 0, .slice none 0 0] (0, 0) _ rfl (blk_put (blk_put (blk_put (blk_put HKR.out 0 (.int .i64 0) rfl) 1 (.int .i64 0) rfl) 2 (.int .i64 0) rfl) 3 (.slice none 0 0) rfl) Try.underlying24 rfl (by kernel_rfl), ?_⟩
    refine ⟨_, rfl, Kd.R_nil _ _ _ _ _, ?_⟩
    exact zb4 (zb4 (zb4 (zb4 (zb1 HBR.out _) HGE.out) HGE.out) HGE.out) HGE.out
 ·rw [if_neg h1] at h
  simp only [Option.some.injEq, Prod.mk.injEq] at h
  obtain ⟨rfl, rfl, rfl, rfl, rfl⟩ := h
  by_cases h2 : 1 ≤ a2 ∧ a2 ≤ 32
  ·have HS := zA (show sig_strong.f a2 = some true by unfold sig_strong.f; rw [if_pos h2.1, zd1 h2.2])
   have h3 : ¬ a1 = 0 := fun h => h1 ⟨h2, Or.inl h⟩
   have h4 : ¬ (16 ≤ a1 ∧ a1 ≤ 4096) := fun h => h1 ⟨h2, Or.inr h⟩
   have HK := zA (show sig_block.f a1 = some false by
    unfold sig_block.f
    by_cases h5 : 16 ≤ a1
    ·rw [if_pos h5, zd2 (fun h6 => h4 ⟨h5, h6⟩)]
    ·rw [if_neg h5])
   have n1 : decide (a1 = 0) = false := zd2 h3
   clear h4 h1 h2
   refine RdKit.calls_marks Try.func19 rfl ?_
   simp only [Try.ntmps19, List.size_toArray, List.length_cons, List.length_nil, Nat.reduceAdd, Nat.reduceSub, Array.replicate_succ, Array.replicate_zero, List.push_toArray, List.append_toArray, List.nil_append, List.cons_append]
   go_wp2_with (first | ((with_reducible refine gate_dst (N := 5) rfl ?_); refine box_event ?hg (N := 5) ?hd (cs := #[.int .i64 a2]) (t := 3) ?hr ?_; (case hd => rfl); (case hg => rfl); (case hr => first | (go_simp; done) | (go_simp; rfl)); intro gB hgB wB hA hq; have HB := zA hq; have HKB := zA hA; have hcB : wB.cell? ⟨gB, 0, none⟩ = some (.int .i64 a2) := (by rw [zc1 hA]; rfl); clear hA hq hgB) | ((with_reducible refine gate_dst (N := 6) rfl ?_); refine box_event ?hg (N := 6) ?hd (cs := #[.int .i64 0, .int .i64 0, .int .i64 0, .slice none 0 0]) (t := 24) ?hr ?_; (case hd => rfl); (case hg => rfl); (case hr => first | (go_simp; done) | (go_simp; rfl)); intro gR hgR wR hA hq; have HGR := zA hgR; have HKR := zA hA; have HKB := zA (zc6 HKB.out hq); have HBR := zA (zb5 HB.out hq); replace hcB : wR.cell? ⟨gB, 0, none⟩ = some (.int .i64 a2) := (by rw [zc1 HKB.out]; rfl); have hy0 : wR.cell? ⟨gR, 0, none⟩ = some (.int .i64 0) := (zc1 HKR.out 0).trans rfl; have hy1 : wR.cell? ⟨gR, 1, none⟩ = some (.int .i64 0) := (zc1 HKR.out 1).trans rfl; have hy2 : wR.cell? ⟨gR, 2, none⟩ = some (.int .i64 0) := (zc1 HKR.out 2).trans rfl; have hy3 : wR.cell? ⟨gR, 3, none⟩ = some (.slice none 0 0) := (zc1 HKR.out 3).trans rfl; have hx0 := zc5 HKR.out 0; have hx1 := zc5 HKR.out 1; have hx2 := zc5 HKR.out 2; have hx3 := zc5 HKR.out 3; clear hA hq hgR) | ((with_reducible refine gate_dst (N := 8) rfl ?_); refine box_event ?hg (N := 8) ?hd (cs := #[.int .i64 0, .int .i64 0, .int .i64 0, .slice none 0 0]) (t := 24) ?hr ?_; (case hd => rfl); (case hg => rfl); (case hr => first | (go_simp; done) | (go_simp; rfl)); intro gS hgS wS hA hq; have HKS := zA hA; have HKB2 := zA (zc6 (g := gB) (by exact HKB.out) hq); have HKR2 := zA (zc6 (g := gR) (by exact HKR.out) hq); have HBS := zA (zb5 (zb1 HBR.out _) hq); have GES := zA (show w.heap.size ≤ gS by rw [hgS]; exact zb6 (zb1 HBR.out _)); have NBS := zA (show gB ≠ gS by rw [hgS]; exact Nat.ne_of_lt (blk_lt HKB.out)); have NRS := zA (show gR ≠ gS by rw [hgS]; exact Nat.ne_of_lt (blk_lt HKR.out)); replace hcB : wS.cell? ⟨gB, 0, none⟩ = some (.int .i64 a2) := (by rw [zc1 HKB2.out]; rfl); have hz0 : wS.cell? ⟨gS, 0, none⟩ = some (.int .i64 0) := (zc1 HKS.out 0).trans rfl; have hz1 : wS.cell? ⟨gS, 1, none⟩ = some (.int .i64 0) := (zc1 HKS.out 1).trans rfl; have hz2 : wS.cell? ⟨gS, 2, none⟩ = some (.int .i64 0) := (zc1 HKS.out 2).trans rfl; have hz3 : wS.cell? ⟨gS, 3, none⟩ = some (.slice none 0 0) := (zc1 HKS.out 3).trans rfl; have hf0 := zc5 HKS.out 0; have hf1 := zc5 HKS.out 1; have hf2 := zc5 HKS.out 2; have hf3 := zc5 HKS.out 3; clear hA hq hgS) | (go_at_call 33; (with_reducible refine (sig_strong.calls a2 true _ HS.out).mono ?_); rintro e w' ⟨rfl, ⟨nd, rfl⟩⟩) | (go_at_call 34; (with_reducible refine (sig_block.calls a1 false _ HK.out).mono ?_); rintro e w' ⟨rfl, ⟨nd2, rfl⟩⟩))
   have HGE := zA (show w.heap.size ≤ gR by rw [HGR.out]; exact HB.out.size)
   refine RdKit.marks_ret ?_
   refine ⟨_, results_ct rfl _ _ gR 24 #[.int .i64 0, .int .i64 0, .int .i64 0, .slice none 0 0] (0, 0) _ rfl (blk_put (blk_put (blk_put (blk_put HKR.out 0 (.int .i64 0) rfl) 1 (.int .i64 0) rfl) 2 (.int .i64 0) rfl) 3 (.slice none 0 0) rfl) Try.underlying24 rfl (by kernel_rfl), ?_⟩
   refine ⟨_, rfl, Kd.R_nil _ _ _ _ _, ?_⟩
   exact zb4 (zb4 (zb4 (zb4 (zb1 HBR.out _) HGE.out) HGE.out) HGE.out) HGE.out
  ·have HS := zA (show sig_strong.f a2 = some false by
     unfold sig_strong.f
     by_cases h5 : 1 ≤ a2
     ·rw [if_pos h5, zd2 (fun h6 => h2 ⟨h5, h6⟩)]
     ·rw [if_neg h5])
   clear h1 h2
   refine RdKit.calls_marks Try.func19 rfl ?_
   simp only [Try.ntmps19, List.size_toArray, List.length_cons, List.length_nil, Nat.reduceAdd, Nat.reduceSub, Array.replicate_succ, Array.replicate_zero, List.push_toArray, List.append_toArray, List.nil_append, List.cons_append]
   go_wp2_with (first | ((with_reducible refine gate_dst (N := 5) rfl ?_); refine box_event ?hg (N := 5) ?hd (cs := #[.int .i64 a2]) (t := 3) ?hr ?_; (case hd => rfl); (case hg => rfl); (case hr => first | (go_simp; done) | (go_simp; rfl)); intro gB hgB wB hA hq; have HB := zA hq; have HKB := zA hA; have hcB : wB.cell? ⟨gB, 0, none⟩ = some (.int .i64 a2) := (by rw [zc1 hA]; rfl); clear hA hq hgB) | ((with_reducible refine gate_dst (N := 6) rfl ?_); refine box_event ?hg (N := 6) ?hd (cs := #[.int .i64 0, .int .i64 0, .int .i64 0, .slice none 0 0]) (t := 24) ?hr ?_; (case hd => rfl); (case hg => rfl); (case hr => first | (go_simp; done) | (go_simp; rfl)); intro gR hgR wR hA hq; have HGR := zA hgR; have HKR := zA hA; have HKB := zA (zc6 HKB.out hq); have HBR := zA (zb5 HB.out hq); replace hcB : wR.cell? ⟨gB, 0, none⟩ = some (.int .i64 a2) := (by rw [zc1 HKB.out]; rfl); have hy0 : wR.cell? ⟨gR, 0, none⟩ = some (.int .i64 0) := (zc1 HKR.out 0).trans rfl; have hy1 : wR.cell? ⟨gR, 1, none⟩ = some (.int .i64 0) := (zc1 HKR.out 1).trans rfl; have hy2 : wR.cell? ⟨gR, 2, none⟩ = some (.int .i64 0) := (zc1 HKR.out 2).trans rfl; have hy3 : wR.cell? ⟨gR, 3, none⟩ = some (.slice none 0 0) := (zc1 HKR.out 3).trans rfl; have hx0 := zc5 HKR.out 0; have hx1 := zc5 HKR.out 1; have hx2 := zc5 HKR.out 2; have hx3 := zc5 HKR.out 3; clear hA hq hgR) | ((with_reducible refine gate_dst (N := 8) rfl ?_); refine box_event ?hg (N := 8) ?hd (cs := #[.int .i64 0, .int .i64 0, .int .i64 0, .slice none 0 0]) (t := 24) ?hr ?_; (case hd => rfl); (case hg => rfl); (case hr => first | (go_simp; done) | (go_simp; rfl)); intro gS hgS wS hA hq; have HKS := zA hA; have HKB2 := zA (zc6 (g := gB) (by exact HKB.out) hq); have HKR2 := zA (zc6 (g := gR) (by exact HKR.out) hq); have HBS := zA (zb5 (zb1 HBR.out _) hq); have GES := zA (show w.heap.size ≤ gS by rw [hgS]; exact zb6 (zb1 HBR.out _)); have NBS := zA (show gB ≠ gS by rw [hgS]; exact Nat.ne_of_lt (blk_lt HKB.out)); have NRS := zA (show gR ≠ gS by rw [hgS]; exact Nat.ne_of_lt (blk_lt HKR.out)); replace hcB : wS.cell? ⟨gB, 0, none⟩ = some (.int .i64 a2) := (by rw [zc1 HKB2.out]; rfl); have hz0 : wS.cell? ⟨gS, 0, none⟩ = some (.int .i64 0) := (zc1 HKS.out 0).trans rfl; have hz1 : wS.cell? ⟨gS, 1, none⟩ = some (.int .i64 0) := (zc1 HKS.out 1).trans rfl; have hz2 : wS.cell? ⟨gS, 2, none⟩ = some (.int .i64 0) := (zc1 HKS.out 2).trans rfl; have hz3 : wS.cell? ⟨gS, 3, none⟩ = some (.slice none 0 0) := (zc1 HKS.out 3).trans rfl; have hf0 := zc5 HKS.out 0; have hf1 := zc5 HKS.out 1; have hf2 := zc5 HKS.out 2; have hf3 := zc5 HKS.out 3; clear hA hq hgS) | (go_at_call 33; (with_reducible refine (sig_strong.calls a2 false _ HS.out).mono ?_); rintro e w' ⟨rfl, ⟨nd, rfl⟩⟩))
   have HGE := zA (show w.heap.size ≤ gR by rw [HGR.out]; exact HB.out.size)
   refine RdKit.marks_ret ?_
   refine ⟨_, results_ct rfl _ _ gR 24 #[.int .i64 0, .int .i64 0, .int .i64 0, .slice none 0 0] (0, 0) _ rfl (blk_put (blk_put (blk_put (blk_put HKR.out 0 (.int .i64 0) rfl) 1 (.int .i64 0) rfl) 2 (.int .i64 0) rfl) 3 (.slice none 0 0) rfl) Try.underlying24 rfl (by kernel_rfl), ?_⟩
   refine ⟨_, rfl, Kd.R_nil _ _ _ _ _, ?_⟩
   exact zb4 (zb4 (zb4 (zb4 (zb1 HBR.out _) HGE.out) HGE.out) HGE.out) HGE.out


def bytes_Equal.f (l0 : List Int) (l1 : List Int) : Option (Bool) := some ((strOfNums l0).toList == (strOfNums l1).toList)
set_option maxHeartbeats 8000000 in
set_option maxRecDepth 100000 in
theorem bytes_Equal.calls (A0 : Option Addr) (c0 : Nat) (l0 : List Int) (A1 : Option Addr) (c1 : Nat) (l1 : List Int) (r : Bool) (w : World) (hr0 : Kd.C (Kd.int .u8) w A0 l0.length l0) (hc0 : l0.length ≤ c0) (hr1 : Kd.C (Kd.int .u8) w A1 l1.length l1) (hc1 : l1.length ≤ c1) (h : bytes_Equal.f l0 l1 = some r) :
    Calls Try.prog 40 #[.slice A0 l0.length c0, .slice A1 l1.length c1] w fun e w' => e = .returned (.bool r) ∧ Drawn0 w w' := by
 have HR0 := zA hr0
 have HC0 := zA hc0
 clear hr0 hc0
 have HR1 := zA hr1
 have HC1 := zA hc1
 clear hr1 hc1
 have H : (some ((strOfNums l0).toList == (strOfNums l1).toList)) = some r := h
 clear h
 obtain rfl := Option.some.inj H
 have hcv3 := Kd.C_string (P := Try.prog) (A := A0) (c := c0) Try.underlying33 Try.underlying5 Try.underlying9 HR0.out
 have hcv3d := fun (n_ : Nat) => Kd.C_string (P := Try.prog) (A := A0) (c := c0) Try.underlying33 Try.underlying5 Try.underlying9 (Kd.C_drewN HR0.out n_)
 have hcv4 := Kd.C_string (P := Try.prog) (A := A1) (c := c1) Try.underlying33 Try.underlying5 Try.underlying9 HR1.out
 have hcv4d := fun (n_ : Nat) => Kd.C_string (P := Try.prog) (A := A1) (c := c1) Try.underlying33 Try.underlying5 Try.underlying9 (Kd.C_drewN HR1.out n_)
 go_enter Try.func40, Try.ntmps40
 go_wp2
 go_ret
 exact ⟨by first | rfl | (simp; done) | (simp [*]; done), by repeat (first | exact Drawn0.refl _ | apply Drawn0.step)⟩

def delta_Same.l0 : Nat → List (S47) → List (S47) → Int → Int → Option (Bool)
 | 0, _, _, _, _ => none
 | k + 1, x1, x12, x13, x14 => if x14 < x13 then (if 0 ≤ x14 then (if x14 < (x12.length : Int) then (if x14 < (x1.length : Int) then (if ((rd_T47 x12 x14).f0) = ((rd_T47 x1 x14).f0) then (if ((rd_T47 x12 x14).f1) = ((rd_T47 x1 x14).f1) then ((bytes_Equal.f ((rd_T47 x12 x14).f2) ((rd_T47 x1 x14).f2)).bind fun t156 => (if t156 = true then (delta_Same.l0 k x1 x12 x13 (wrap64 (x14 + 1))) else (none))) else (none)) else (none)) else (none)) else (none)) else (none)) else (some true)
def delta_Same.f (k : Nat) (l0 : List (S47)) (l1 : List (S47)) : Option (Bool) := if (l0.length : Int) = (l1.length : Int) then (delta_Same.l0 k l1 l0 (l0.length : Int) 0) else (none)
theorem delta_Same.mono_l : ∀ k, (∀ y0 y1 y2 y3, LeO (delta_Same.l0 k y0 y1 y2 y3) (delta_Same.l0 (k + 1) y0 y1 y2 y3))
 | 0 => fun _ _ _ _ r h => by simp [delta_Same.l0] at h
 | k + 1 => by
  have ih0 := delta_Same.mono_l k
  ·intro y0 y1 y2 y3
   unfold delta_Same.l0
   repeat' first
   | (with_reducible exact ih0 _ _ _ _)
   | (with_reducible exact LeO.refl _)
   | (with_reducible exact LeO.none _)
   | (with_reducible refine LeO.ite ?_ ?_)
   | (with_reducible refine LeO.bind ?_ (fun _ => ?_))
   | exact ih0 _ _ _ _
   | exact LeO.none _
   | refine LeO.ite ?_ ?_
   | refine LeO.bind ?_ (fun _ => ?_)
theorem delta_Same.mono : ∀ a0 a1 k, LeO (delta_Same.f k a0 a1) (delta_Same.f (k + 1) a0 a1) := by
 intro a0 a1 k
 have ih0 := delta_Same.mono_l k
 unfold delta_Same.f
 repeat' first
     | (with_reducible exact ih0 _ _ _ _)
     | (with_reducible exact LeO.refl _)
     | (with_reducible exact LeO.none _)
     | (with_reducible refine LeO.ite ?_ ?_)
     | (with_reducible refine LeO.bind ?_ (fun _ => ?_))
     | exact ih0 _ _ _ _
     | exact LeO.none _
     | refine LeO.ite ?_ ?_
     | refine LeO.bind ?_ (fun _ => ?_)
set_option maxHeartbeats 8000000 in
set_option maxRecDepth 100000 in
theorem delta_Same.calls (k : Nat) (A0 : Option Addr) (c0 : Nat) (l0 : List (S47)) (A1 : Option Addr) (c1 : Nat) (l1 : List (S47)) (r : Bool) (w : World) (hr0 : Kd.C k47 w A0 l0.length l0) (hc0 : l0.length ≤ c0) (hr1 : Kd.C k47 w A1 l1.length l1) (hc1 : l1.length ≤ c1) (h : delta_Same.f k l0 l1 = some r) :
    Calls Try.prog 21 #[.slice A0 l0.length c0, .slice A1 l1.length c1] w fun e w' => e = .returned (.bool r) ∧ Below w.heap.size w w' := by
 have hu47 := Try.underlying47
 have HR0 := zA hr0
 have HC0 := zA hc0
 clear hr0 hc0
 have HR1 := zA hr1
 have HC1 := zA hc1
 clear hr1 hc1
 have HB := zA (Below.refl w.heap.size w)
 have H : (if (l0.length : Int) = (l1.length : Int) then (delta_Same.l0 k l1 l0 (l0.length : Int) 0) else (none)) = some r := h
 clear h
 by_cases c3 : (l0.length : Int) = (l1.length : Int)
 ·rw [if_pos c3] at H
  have c3b0 : ((l0.length : Int) == (l1.length : Int)) = true := beq_iff_eq.mpr c3
  have c3b1 : ((l0.length : Int) != (l1.length : Int)) = false := bne_eq_false_iff_eq.mpr c3
  have c3b2 : (l0.length == l1.length) = true := by first | simpa using c3 | (simp at c3 ⊢; omega)
  clear c3
  have H' := zA H
  clear H
  go_enter Try.func21, Try.ntmps21
  go_wp2
  have hwi_ : ∀ n : Int, IntKind.i64.wrap n = wrap64 n := i64_w
  repeat (go_quiet (fail); try go_wp2)
  clear hwi_
  go_loopg [14] k (fun kq v14 w' => ∃ (x14_1 : Int), v14 = .int .i64 x14_1 ∧ Aside0 (delta_Same.l0 kq l1 l0 (l0.length : Int) x14_1 = some r) ∧ Aside0 (kq ≤ k) ∧ Aside0 (Below w.heap.size w w'))
  case atStart => exact ⟨(0), (by first | rfl | (simp; done) | (simp [*]; done)), H', ⟨Nat.le_refl _⟩, ⟨by repeat (first | (with_reducible first | exact HB.out | apply zb3 | apply zb1 | apply zb2) | exact HB.out)⟩⟩
  case round =>
   clear H'
   try clear c1
   try clear c2
   try clear p2
   try clear c3
   try clear c3b0
   try clear c3b1
   try clear c3b2
   obtain ⟨x14_1, rfl, HA, HK1, HB⟩ := hrel
   cases gk with
   | zero => exact absurd HA.out (by simp [delta_Same.l0])
   | succ k1 =>
    have H := HA.out
    clear HA
    simp only [delta_Same.l0] at H
    by_cases c4 : x14_1 < (l0.length : Int)
    ·rw [if_pos c4] at H
     have c4b0 : decide (x14_1 < (l0.length : Int)) = true := zd1 c4
     clear c4
     by_cases c5 : 0 ≤ x14_1
     ·rw [if_pos c5] at H
      have c5b0 : decide (0 ≤ x14_1) = true := zd1 c5
      clear c5
      by_cases c6 : x14_1 < (l0.length : Int)
      ·rw [if_pos c6] at H
       have c6b0 : decide (x14_1 < (l0.length : Int)) = true := zd1 c6
       clear c6
       by_cases c7 : x14_1 < (l1.length : Int)
       ·rw [if_pos c7] at H
        have c7b0 : decide (x14_1 < (l1.length : Int)) = true := zd1 c7
        clear c7
        by_cases c8 : ((rd_T47 l0 x14_1).f0) = ((rd_T47 l1 x14_1).f0)
        ·rw [if_pos c8] at H
         have c8b0 : (((rd_T47 l0 x14_1).f0) == ((rd_T47 l1 x14_1).f0)) = true := beq_iff_eq.mpr c8
         have c8b1 : (((rd_T47 l0 x14_1).f0) != ((rd_T47 l1 x14_1).f0)) = false := bne_eq_false_iff_eq.mpr c8
         clear c8
         by_cases c9 : ((rd_T47 l0 x14_1).f1) = ((rd_T47 l1 x14_1).f1)
         ·rw [if_pos c9] at H
          have c9b0 : (((rd_T47 l0 x14_1).f1) == ((rd_T47 l1 x14_1).f1)) = true := beq_iff_eq.mpr c9
          have c9b1 : (((rd_T47 l0 x14_1).f1) != ((rd_T47 l1 x14_1).f1)) = false := bne_eq_false_iff_eq.mpr c9
          clear c9
          replace H := Option.bind_eq_some_iff.mp H
          obtain ⟨t156, A100, H⟩ := H
          replace H : (if t156 = true then (delta_Same.l0 k1 l1 l0 (l0.length : Int) (wrap64 (x14_1 + 1))) else (none)) = some r := H
          have A10 := zA A100
          clear A100
          by_cases c11 : t156 = true
          ·subst c11
           have H1 : (delta_Same.l0 k1 l1 l0 (l0.length : Int) (wrap64 (x14_1 + 1))) = some r := by rw [if_pos rfl] at H; exact H
           clear H
           have H := H1
           clear H1
           have H' := zA H
           clear H
           have p151 : 0 ≤ (x14_1 : Int) := zd3 (by first | (with_reducible assumption) | assumption)
           have q151 : x14_1 < (l0.length : Int) := zd3 (by first | (with_reducible assumption) | assumption)
           obtain ⟨ad151, A151_2, c151_2, e151, hx151_0, hx151_1, hx151_2, hl151_2, hi151_2⟩ := at_T47 HR0.out x14_1 p151 q151
           cases e151
           replace hx151_0 := (HB.out.cell (World.block_lt_of_cell? w _ hx151_0)).trans hx151_0
           replace hx151_1 := (HB.out.cell (World.block_lt_of_cell? w _ hx151_1)).trans hx151_1
           replace hx151_2 := (HB.out.cell (World.block_lt_of_cell? w _ hx151_2)).trans hx151_2
           have HR151_2 := zA hi151_2
           have HC151_2 := zA hl151_2
           clear hi151_2 hl151_2
           replace p151 := eq_true p151
           replace q151 := eq_true q151
           go_wp2_with (first | ((with_reducible refine gate_dst (N := 6) rfl ?_); refine box_event ?hg (N := 6) ?hd (cs := #[.int .i64 0, .int .i64 0, .slice none 0 0]) (t := 47) ?hr ?_; (case hd => rfl); (case hg => rfl); (case hr => first | (go_simp; done) | (go_simp; rfl)); intro gb152 hg w12 hbox hb; have n0_ := zA (zb5 (by repeat (first | (with_reducible first | exact HB.out | apply zb3 | apply zb1 | apply zb2) | exact HB.out)) hb); have n1_ := zA (hbox); have n2_ := zA ((by rw [hg]; exact (zb6 (by repeat (first | (with_reducible first | exact HB.out | apply zb3 | apply zb1 | apply zb2) | exact HB.out))) : w.heap.size ≤ gb152)); have n3_ := zA ((by rw [hg]; exact (zb6 (by repeat (first | (with_reducible first | exact HB.out | apply zb3 | apply zb1 | apply zb2) | exact HB.out))) : w.heap.size ≤ gb152)); clear HB; have HB := n0_; have BK152 := n1_; have GW152 := n2_; have GE152 := n3_; clear n0_ n1_ n2_ n3_; clear hb hbox hg; have hcz13_0 : w12.cell? ⟨gb152, 0, none⟩ = some (.int .i64 0) := (zc1 BK152.out 0).trans rfl; have hcz13_1 : w12.cell? ⟨gb152, 1, none⟩ = some (.int .i64 0) := (zc1 BK152.out 1).trans rfl; have hcz13_2 : w12.cell? ⟨gb152, 2, none⟩ = some (.slice none 0 0) := (zc1 BK152.out 2).trans rfl; have hfz13_0 := zc5 BK152.out 0; have hfz13_1 := zc5 BK152.out 1; have hfz13_2 := zc5 BK152.out 2; have p153 : 0 ≤ (x14_1 : Int) := zd3 (by first | (with_reducible assumption) | assumption); have q153 : x14_1 < (l1.length : Int) := zd3 (by first | (with_reducible assumption) | assumption); obtain ⟨ad153, A153_2, c153_2, e153, hx153_0, hx153_1, hx153_2, hl153_2, hi153_2⟩ := at_T47 HR1.out x14_1 p153 q153; cases e153; have hn153_0 : ad153.block ≠ gb152 := Nat.ne_of_lt (Nat.lt_of_lt_of_le (by have := World.block_lt_of_cell? _ _ hx153_0; first | rwa [add_block] at this | exact this) GW152.out); have hn153_1 : ad153.block ≠ gb152 := Nat.ne_of_lt (Nat.lt_of_lt_of_le (by have := World.block_lt_of_cell? _ _ hx153_0; first | rwa [add_block] at this | exact this) GW152.out); have hn153_2 : ad153.block ≠ gb152 := Nat.ne_of_lt (Nat.lt_of_lt_of_le (by have := World.block_lt_of_cell? _ _ hx153_0; first | rwa [add_block] at this | exact this) GW152.out); replace hx153_0 := (HB.out.cell (World.block_lt_of_cell? w _ hx153_0)).trans hx153_0; replace hx153_1 := (HB.out.cell (World.block_lt_of_cell? w _ hx153_1)).trans hx153_1; replace hx153_2 := (HB.out.cell (World.block_lt_of_cell? w _ hx153_2)).trans hx153_2; have HR153_2 := zA hi153_2; have HC153_2 := zA hl153_2; clear hi153_2 hl153_2; replace hx153_0 := (cell_far (p := ⟨gb152, 0, none⟩) (by first | (rw [add_block]; exact hn153_0) | (show (Addr.add _ _).block ≠ _; rw [add_block]; exact hn153_0) | exact hn153_0) (.int .i64 ((rd_T47 l0 x14_1).f0))).trans hx153_0; replace hx153_1 := (cell_far (p := ⟨gb152, 0, none⟩) (by first | (rw [add_block]; exact hn153_0) | (show (Addr.add _ _).block ≠ _; rw [add_block]; exact hn153_0) | exact hn153_0) (.int .i64 ((rd_T47 l0 x14_1).f0))).trans hx153_1; replace hx153_2 := (cell_far (p := ⟨gb152, 0, none⟩) (by first | (rw [add_block]; exact hn153_0) | (show (Addr.add _ _).block ≠ _; rw [add_block]; exact hn153_0) | exact hn153_0) (.int .i64 ((rd_T47 l0 x14_1).f0))).trans hx153_2; replace hx153_0 := (cell_far (p := ⟨gb152, 1, none⟩) (by first | (rw [add_block]; exact hn153_1) | (show (Addr.add _ _).block ≠ _; rw [add_block]; exact hn153_1) | exact hn153_1) (.int .i64 ((rd_T47 l0 x14_1).f1))).trans hx153_0; replace hx153_1 := (cell_far (p := ⟨gb152, 1, none⟩) (by first | (rw [add_block]; exact hn153_1) | (show (Addr.add _ _).block ≠ _; rw [add_block]; exact hn153_1) | exact hn153_1) (.int .i64 ((rd_T47 l0 x14_1).f1))).trans hx153_1; replace hx153_2 := (cell_far (p := ⟨gb152, 1, none⟩) (by first | (rw [add_block]; exact hn153_1) | (show (Addr.add _ _).block ≠ _; rw [add_block]; exact hn153_1) | exact hn153_1) (.int .i64 ((rd_T47 l0 x14_1).f1))).trans hx153_2; replace hx153_0 := (cell_far (p := ⟨gb152, 2, none⟩) (by first | (rw [add_block]; exact hn153_2) | (show (Addr.add _ _).block ≠ _; rw [add_block]; exact hn153_2) | exact hn153_2) (.slice A151_2 ((rd_T47 l0 x14_1).f2).length c151_2)).trans hx153_0; replace hx153_1 := (cell_far (p := ⟨gb152, 2, none⟩) (by first | (rw [add_block]; exact hn153_2) | (show (Addr.add _ _).block ≠ _; rw [add_block]; exact hn153_2) | exact hn153_2) (.slice A151_2 ((rd_T47 l0 x14_1).f2).length c151_2)).trans hx153_1; replace hx153_2 := (cell_far (p := ⟨gb152, 2, none⟩) (by first | (rw [add_block]; exact hn153_2) | (show (Addr.add _ _).block ≠ _; rw [add_block]; exact hn153_2) | exact hn153_2) (.slice A151_2 ((rd_T47 l0 x14_1).f2).length c151_2)).trans hx153_2; (try have hy153_0 := fun (n_ : Nat) => (show (((((w12.drewN n_).setCell ⟨gb152, 0, none⟩ (.int .i64 ((rd_T47 l0 x14_1).f0))).setCell ⟨gb152, 1, none⟩ (.int .i64 ((rd_T47 l0 x14_1).f1))).setCell ⟨gb152, 2, none⟩ (.slice A151_2 ((rd_T47 l0 x14_1).f2).length c151_2))).cell? _ = some _ from hx153_0)); (try have hy153_1 := fun (n_ : Nat) => (show (((((w12.drewN n_).setCell ⟨gb152, 0, none⟩ (.int .i64 ((rd_T47 l0 x14_1).f0))).setCell ⟨gb152, 1, none⟩ (.int .i64 ((rd_T47 l0 x14_1).f1))).setCell ⟨gb152, 2, none⟩ (.slice A151_2 ((rd_T47 l0 x14_1).f2).length c151_2))).cell? _ = some _ from hx153_1)); (try have hy153_2 := fun (n_ : Nat) => (show (((((w12.drewN n_).setCell ⟨gb152, 0, none⟩ (.int .i64 ((rd_T47 l0 x14_1).f0))).setCell ⟨gb152, 1, none⟩ (.int .i64 ((rd_T47 l0 x14_1).f1))).setCell ⟨gb152, 2, none⟩ (.slice A151_2 ((rd_T47 l0 x14_1).f2).length c151_2))).cell? _ = some _ from hx153_2)); clear hn153_0; clear hn153_1; clear hn153_2; replace p153 := eq_true p153; replace q153 := eq_true q153; have p154 : 0 ≤ (x14_1 : Int) := zd3 (by first | (with_reducible assumption) | assumption); have q154 : x14_1 < (l1.length : Int) := zd3 (by first | (with_reducible assumption) | assumption); obtain ⟨ad154, A154_2, c154_2, e154, hx154_0, hx154_1, hx154_2, hl154_2, hi154_2⟩ := at_T47 HR1.out x14_1 p154 q154; obtain rfl : ad153 = ad154 := (by injection e154); have hn154_0 : ad153.block ≠ gb152 := Nat.ne_of_lt (Nat.lt_of_lt_of_le (by have := World.block_lt_of_cell? _ _ hx154_0; first | rwa [add_block] at this | exact this) GW152.out); have hn154_1 : ad153.block ≠ gb152 := Nat.ne_of_lt (Nat.lt_of_lt_of_le (by have := World.block_lt_of_cell? _ _ hx154_0; first | rwa [add_block] at this | exact this) GW152.out); have hn154_2 : ad153.block ≠ gb152 := Nat.ne_of_lt (Nat.lt_of_lt_of_le (by have := World.block_lt_of_cell? _ _ hx154_0; first | rwa [add_block] at this | exact this) GW152.out); replace hx154_0 := (HB.out.cell (World.block_lt_of_cell? w _ hx154_0)).trans hx154_0; replace hx154_1 := (HB.out.cell (World.block_lt_of_cell? w _ hx154_1)).trans hx154_1; replace hx154_2 := (HB.out.cell (World.block_lt_of_cell? w _ hx154_2)).trans hx154_2; have HR154_2 := zA hi154_2; have HC154_2 := zA hl154_2; clear hi154_2 hl154_2; replace hx154_0 := (cell_far (p := ⟨gb152, 0, none⟩) (by first | (rw [add_block]; exact hn154_0) | (show (Addr.add _ _).block ≠ _; rw [add_block]; exact hn154_0) | exact hn154_0) (.int .i64 ((rd_T47 l0 x14_1).f0))).trans hx154_0; replace hx154_1 := (cell_far (p := ⟨gb152, 0, none⟩) (by first | (rw [add_block]; exact hn154_0) | (show (Addr.add _ _).block ≠ _; rw [add_block]; exact hn154_0) | exact hn154_0) (.int .i64 ((rd_T47 l0 x14_1).f0))).trans hx154_1; replace hx154_2 := (cell_far (p := ⟨gb152, 0, none⟩) (by first | (rw [add_block]; exact hn154_0) | (show (Addr.add _ _).block ≠ _; rw [add_block]; exact hn154_0) | exact hn154_0) (.int .i64 ((rd_T47 l0 x14_1).f0))).trans hx154_2; replace hx154_0 := (cell_far (p := ⟨gb152, 1, none⟩) (by first | (rw [add_block]; exact hn154_1) | (show (Addr.add _ _).block ≠ _; rw [add_block]; exact hn154_1) | exact hn154_1) (.int .i64 ((rd_T47 l0 x14_1).f1))).trans hx154_0; replace hx154_1 := (cell_far (p := ⟨gb152, 1, none⟩) (by first | (rw [add_block]; exact hn154_1) | (show (Addr.add _ _).block ≠ _; rw [add_block]; exact hn154_1) | exact hn154_1) (.int .i64 ((rd_T47 l0 x14_1).f1))).trans hx154_1; replace hx154_2 := (cell_far (p := ⟨gb152, 1, none⟩) (by first | (rw [add_block]; exact hn154_1) | (show (Addr.add _ _).block ≠ _; rw [add_block]; exact hn154_1) | exact hn154_1) (.int .i64 ((rd_T47 l0 x14_1).f1))).trans hx154_2; replace hx154_0 := (cell_far (p := ⟨gb152, 2, none⟩) (by first | (rw [add_block]; exact hn154_2) | (show (Addr.add _ _).block ≠ _; rw [add_block]; exact hn154_2) | exact hn154_2) (.slice A151_2 ((rd_T47 l0 x14_1).f2).length c151_2)).trans hx154_0; replace hx154_1 := (cell_far (p := ⟨gb152, 2, none⟩) (by first | (rw [add_block]; exact hn154_2) | (show (Addr.add _ _).block ≠ _; rw [add_block]; exact hn154_2) | exact hn154_2) (.slice A151_2 ((rd_T47 l0 x14_1).f2).length c151_2)).trans hx154_1; replace hx154_2 := (cell_far (p := ⟨gb152, 2, none⟩) (by first | (rw [add_block]; exact hn154_2) | (show (Addr.add _ _).block ≠ _; rw [add_block]; exact hn154_2) | exact hn154_2) (.slice A151_2 ((rd_T47 l0 x14_1).f2).length c151_2)).trans hx154_2; (try have hy154_0 := fun (n_ : Nat) => (show (((((w12.drewN n_).setCell ⟨gb152, 0, none⟩ (.int .i64 ((rd_T47 l0 x14_1).f0))).setCell ⟨gb152, 1, none⟩ (.int .i64 ((rd_T47 l0 x14_1).f1))).setCell ⟨gb152, 2, none⟩ (.slice A151_2 ((rd_T47 l0 x14_1).f2).length c151_2))).cell? _ = some _ from hx154_0)); (try have hy154_1 := fun (n_ : Nat) => (show (((((w12.drewN n_).setCell ⟨gb152, 0, none⟩ (.int .i64 ((rd_T47 l0 x14_1).f0))).setCell ⟨gb152, 1, none⟩ (.int .i64 ((rd_T47 l0 x14_1).f1))).setCell ⟨gb152, 2, none⟩ (.slice A151_2 ((rd_T47 l0 x14_1).f2).length c151_2))).cell? _ = some _ from hx154_1)); (try have hy154_2 := fun (n_ : Nat) => (show (((((w12.drewN n_).setCell ⟨gb152, 0, none⟩ (.int .i64 ((rd_T47 l0 x14_1).f0))).setCell ⟨gb152, 1, none⟩ (.int .i64 ((rd_T47 l0 x14_1).f1))).setCell ⟨gb152, 2, none⟩ (.slice A151_2 ((rd_T47 l0 x14_1).f2).length c151_2))).cell? _ = some _ from hx154_2)); clear hn154_0; clear hn154_1; clear hn154_2; replace p154 := eq_true p154; replace q154 := eq_true q154; have p155 : 0 ≤ (x14_1 : Int) := zd3 (by first | (with_reducible assumption) | assumption); have q155 : x14_1 < (l1.length : Int) := zd3 (by first | (with_reducible assumption) | assumption); obtain ⟨ad155, A155_2, c155_2, e155, hx155_0, hx155_1, hx155_2, hl155_2, hi155_2⟩ := at_T47 HR1.out x14_1 p155 q155; obtain rfl : ad153 = ad155 := (by injection e155); have hn155_0 : ad153.block ≠ gb152 := Nat.ne_of_lt (Nat.lt_of_lt_of_le (by have := World.block_lt_of_cell? _ _ hx155_0; first | rwa [add_block] at this | exact this) GW152.out); have hn155_1 : ad153.block ≠ gb152 := Nat.ne_of_lt (Nat.lt_of_lt_of_le (by have := World.block_lt_of_cell? _ _ hx155_0; first | rwa [add_block] at this | exact this) GW152.out); have hn155_2 : ad153.block ≠ gb152 := Nat.ne_of_lt (Nat.lt_of_lt_of_le (by have := World.block_lt_of_cell? _ _ hx155_0; first | rwa [add_block] at this | exact this) GW152.out); replace hx155_0 := (HB.out.cell (World.block_lt_of_cell? w _ hx155_0)).trans hx155_0; replace hx155_1 := (HB.out.cell (World.block_lt_of_cell? w _ hx155_1)).trans hx155_1; replace hx155_2 := (HB.out.cell (World.block_lt_of_cell? w _ hx155_2)).trans hx155_2; have HR155_2 := zA hi155_2; have HC155_2 := zA hl155_2; clear hi155_2 hl155_2; replace hx155_0 := (cell_far (p := ⟨gb152, 0, none⟩) (by first | (rw [add_block]; exact hn155_0) | (show (Addr.add _ _).block ≠ _; rw [add_block]; exact hn155_0) | exact hn155_0) (.int .i64 ((rd_T47 l0 x14_1).f0))).trans hx155_0; replace hx155_1 := (cell_far (p := ⟨gb152, 0, none⟩) (by first | (rw [add_block]; exact hn155_0) | (show (Addr.add _ _).block ≠ _; rw [add_block]; exact hn155_0) | exact hn155_0) (.int .i64 ((rd_T47 l0 x14_1).f0))).trans hx155_1; replace hx155_2 := (cell_far (p := ⟨gb152, 0, none⟩) (by first | (rw [add_block]; exact hn155_0) | (show (Addr.add _ _).block ≠ _; rw [add_block]; exact hn155_0) | exact hn155_0) (.int .i64 ((rd_T47 l0 x14_1).f0))).trans hx155_2; replace hx155_0 := (cell_far (p := ⟨gb152, 1, none⟩) (by first | (rw [add_block]; exact hn155_1) | (show (Addr.add _ _).block ≠ _; rw [add_block]; exact hn155_1) | exact hn155_1) (.int .i64 ((rd_T47 l0 x14_1).f1))).trans hx155_0; replace hx155_1 := (cell_far (p := ⟨gb152, 1, none⟩) (by first | (rw [add_block]; exact hn155_1) | (show (Addr.add _ _).block ≠ _; rw [add_block]; exact hn155_1) | exact hn155_1) (.int .i64 ((rd_T47 l0 x14_1).f1))).trans hx155_1; replace hx155_2 := (cell_far (p := ⟨gb152, 1, none⟩) (by first | (rw [add_block]; exact hn155_1) | (show (Addr.add _ _).block ≠ _; rw [add_block]; exact hn155_1) | exact hn155_1) (.int .i64 ((rd_T47 l0 x14_1).f1))).trans hx155_2; replace hx155_0 := (cell_far (p := ⟨gb152, 2, none⟩) (by first | (rw [add_block]; exact hn155_2) | (show (Addr.add _ _).block ≠ _; rw [add_block]; exact hn155_2) | exact hn155_2) (.slice A151_2 ((rd_T47 l0 x14_1).f2).length c151_2)).trans hx155_0; replace hx155_1 := (cell_far (p := ⟨gb152, 2, none⟩) (by first | (rw [add_block]; exact hn155_2) | (show (Addr.add _ _).block ≠ _; rw [add_block]; exact hn155_2) | exact hn155_2) (.slice A151_2 ((rd_T47 l0 x14_1).f2).length c151_2)).trans hx155_1; replace hx155_2 := (cell_far (p := ⟨gb152, 2, none⟩) (by first | (rw [add_block]; exact hn155_2) | (show (Addr.add _ _).block ≠ _; rw [add_block]; exact hn155_2) | exact hn155_2) (.slice A151_2 ((rd_T47 l0 x14_1).f2).length c151_2)).trans hx155_2; (try have hy155_0 := fun (n_ : Nat) => (show (((((w12.drewN n_).setCell ⟨gb152, 0, none⟩ (.int .i64 ((rd_T47 l0 x14_1).f0))).setCell ⟨gb152, 1, none⟩ (.int .i64 ((rd_T47 l0 x14_1).f1))).setCell ⟨gb152, 2, none⟩ (.slice A151_2 ((rd_T47 l0 x14_1).f2).length c151_2))).cell? _ = some _ from hx155_0)); (try have hy155_1 := fun (n_ : Nat) => (show (((((w12.drewN n_).setCell ⟨gb152, 0, none⟩ (.int .i64 ((rd_T47 l0 x14_1).f0))).setCell ⟨gb152, 1, none⟩ (.int .i64 ((rd_T47 l0 x14_1).f1))).setCell ⟨gb152, 2, none⟩ (.slice A151_2 ((rd_T47 l0 x14_1).f2).length c151_2))).cell? _ = some _ from hx155_1)); (try have hy155_2 := fun (n_ : Nat) => (show (((((w12.drewN n_).setCell ⟨gb152, 0, none⟩ (.int .i64 ((rd_T47 l0 x14_1).f0))).setCell ⟨gb152, 1, none⟩ (.int .i64 ((rd_T47 l0 x14_1).f1))).setCell ⟨gb152, 2, none⟩ (.slice A151_2 ((rd_T47 l0 x14_1).f2).length c151_2))).cell? _ = some _ from hx155_2)); clear hn155_0; clear hn155_1; clear hn155_2; replace p155 := eq_true p155; replace q155 := eq_true q155) | (go_at_call 40; (with_reducible refine (bytes_Equal.calls _ _ ((rd_T47 l0 x14_1).f2) _ _ ((rd_T47 l1 x14_1).f2) true _ ?side1 ?side2 ?side3 ?side4 A10.out).mono ?_); (case side1 => exact Kd.C_below HR151_2.out (by repeat (first | (with_reducible first | exact HB.out | apply zb3 | apply zb1 | apply zb2 | refine zb4 ?_ GE152.out) | exact HB.out))); (case side2 => exact HC151_2.out); (case side3 => first | exact Kd.C_below HR155_2.out (by repeat (first | (with_reducible first | exact HB.out | apply zb3 | apply zb1 | apply zb2 | refine zb4 ?_ GE152.out) | exact HB.out)) | exact Kd.C_below HR153_2.out (by repeat (first | (with_reducible first | exact HB.out | apply zb3 | apply zb1 | apply zb2 | refine zb4 ?_ GE152.out) | exact HB.out)) | exact Kd.C_below HR154_2.out (by repeat (first | (with_reducible first | exact HB.out | apply zb3 | apply zb1 | apply zb2 | refine zb4 ?_ GE152.out) | exact HB.out))); (case side4 => first | exact HC155_2.out | exact HC153_2.out | exact HC154_2.out); rintro e w' ⟨rfl, ⟨nd, rfl⟩⟩; (try first | exact ⟨rfl, _, World.drewN_drewN _ _ _⟩ | exact ⟨rfl, _, Eq.trans (World.drewN_drewN _ _ _) (congrArg (World.drewN _) (Nat.add_assoc _ _ _))⟩)))
           repeat (go_quiet (first | ((with_reducible refine gate_dst (N := 6) rfl ?_); refine box_event ?hg (N := 6) ?hd (cs := #[.int .i64 0, .int .i64 0, .slice none 0 0]) (t := 47) ?hr ?_; (case hd => rfl); (case hg => rfl); (case hr => first | (go_simp; done) | (go_simp; rfl)); intro gb152 hg w12 hbox hb; have n0_ := zA (zb5 (by repeat (first | (with_reducible first | exact HB.out | apply zb3 | apply zb1 | apply zb2) | exact HB.out)) hb); have n1_ := zA (hbox); have n2_ := zA ((by rw [hg]; exact (zb6 (by repeat (first | (with_reducible first | exact HB.out | apply zb3 | apply zb1 | apply zb2) | exact HB.out))) : w.heap.size ≤ gb152)); have n3_ := zA ((by rw [hg]; exact (zb6 (by repeat (first | (with_reducible first | exact HB.out | apply zb3 | apply zb1 | apply zb2) | exact HB.out))) : w.heap.size ≤ gb152)); clear HB; have HB := n0_; have BK152 := n1_; have GW152 := n2_; have GE152 := n3_; clear n0_ n1_ n2_ n3_; clear hb hbox hg; have hcz13_0 : w12.cell? ⟨gb152, 0, none⟩ = some (.int .i64 0) := (zc1 BK152.out 0).trans rfl; have hcz13_1 : w12.cell? ⟨gb152, 1, none⟩ = some (.int .i64 0) := (zc1 BK152.out 1).trans rfl; have hcz13_2 : w12.cell? ⟨gb152, 2, none⟩ = some (.slice none 0 0) := (zc1 BK152.out 2).trans rfl; have hfz13_0 := zc5 BK152.out 0; have hfz13_1 := zc5 BK152.out 1; have hfz13_2 := zc5 BK152.out 2; have p153 : 0 ≤ (x14_1 : Int) := zd3 (by first | (with_reducible assumption) | assumption); have q153 : x14_1 < (l1.length : Int) := zd3 (by first | (with_reducible assumption) | assumption); obtain ⟨ad153, A153_2, c153_2, e153, hx153_0, hx153_1, hx153_2, hl153_2, hi153_2⟩ := at_T47 HR1.out x14_1 p153 q153; cases e153; have hn153_0 : ad153.block ≠ gb152 := Nat.ne_of_lt (Nat.lt_of_lt_of_le (by have := World.block_lt_of_cell? _ _ hx153_0; first | rwa [add_block] at this | exact this) GW152.out); have hn153_1 : ad153.block ≠ gb152 := Nat.ne_of_lt (Nat.lt_of_lt_of_le (by have := World.block_lt_of_cell? _ _ hx153_0; first | rwa [add_block] at this | exact this) GW152.out); have hn153_2 : ad153.block ≠ gb152 := Nat.ne_of_lt (Nat.lt_of_lt_of_le (by have := World.block_lt_of_cell? _ _ hx153_0; first | rwa [add_block] at this | exact this) GW152.out); replace hx153_0 := (HB.out.cell (World.block_lt_of_cell? w _ hx153_0)).trans hx153_0; replace hx153_1 := (HB.out.cell (World.block_lt_of_cell? w _ hx153_1)).trans hx153_1; replace hx153_2 := (HB.out.cell (World.block_lt_of_cell? w _ hx153_2)).trans hx153_2; have HR153_2 := zA hi153_2; have HC153_2 := zA hl153_2; clear hi153_2 hl153_2; replace hx153_0 := (cell_far (p := ⟨gb152, 0, none⟩) (by first | (rw [add_block]; exact hn153_0) | (show (Addr.add _ _).block ≠ _; rw [add_block]; exact hn153_0) | exact hn153_0) (.int .i64 ((rd_T47 l0 x14_1).f0))).trans hx153_0; replace hx153_1 := (cell_far (p := ⟨gb152, 0, none⟩) (by first | (rw [add_block]; exact hn153_0) | (show (Addr.add _ _).block ≠ _; rw [add_block]; exact hn153_0) | exact hn153_0) (.int .i64 ((rd_T47 l0 x14_1).f0))).trans hx153_1; replace hx153_2 := (cell_far (p := ⟨gb152, 0, none⟩) (by first | (rw [add_block]; exact hn153_0) | (show (Addr.add _ _).block ≠ _; rw [add_block]; exact hn153_0) | exact hn153_0) (.int .i64 ((rd_T47 l0 x14_1).f0))).trans hx153_2; replace hx153_0 := (cell_far (p := ⟨gb152, 1, none⟩) (by first | (rw [add_block]; exact hn153_1) | (show (Addr.add _ _).block ≠ _; rw [add_block]; exact hn153_1) | exact hn153_1) (.int .i64 ((rd_T47 l0 x14_1).f1))).trans hx153_0; replace hx153_1 := (cell_far (p := ⟨gb152, 1, none⟩) (by first | (rw [add_block]; exact hn153_1) | (show (Addr.add _ _).block ≠ _; rw [add_block]; exact hn153_1) | exact hn153_1) (.int .i64 ((rd_T47 l0 x14_1).f1))).trans hx153_1; replace hx153_2 := (cell_far (p := ⟨gb152, 1, none⟩) (by first | (rw [add_block]; exact hn153_1) | (show (Addr.add _ _).block ≠ _; rw [add_block]; exact hn153_1) | exact hn153_1) (.int .i64 ((rd_T47 l0 x14_1).f1))).trans hx153_2; replace hx153_0 := (cell_far (p := ⟨gb152, 2, none⟩) (by first | (rw [add_block]; exact hn153_2) | (show (Addr.add _ _).block ≠ _; rw [add_block]; exact hn153_2) | exact hn153_2) (.slice A151_2 ((rd_T47 l0 x14_1).f2).length c151_2)).trans hx153_0; replace hx153_1 := (cell_far (p := ⟨gb152, 2, none⟩) (by first | (rw [add_block]; exact hn153_2) | (show (Addr.add _ _).block ≠ _; rw [add_block]; exact hn153_2) | exact hn153_2) (.slice A151_2 ((rd_T47 l0 x14_1).f2).length c151_2)).trans hx153_1; replace hx153_2 := (cell_far (p := ⟨gb152, 2, none⟩) (by first | (rw [add_block]; exact hn153_2) | (show (Addr.add _ _).block ≠ _; rw [add_block]; exact hn153_2) | exact hn153_2) (.slice A151_2 ((rd_T47 l0 x14_1).f2).length c151_2)).trans hx153_2; (try have hy153_0 := fun (n_ : Nat) => (show (((((w12.drewN n_).setCell ⟨gb152, 0, none⟩ (.int .i64 ((rd_T47 l0 x14_1).f0))).setCell ⟨gb152, 1, none⟩ (.int .i64 ((rd_T47 l0 x14_1).f1))).setCell ⟨gb152, 2, none⟩ (.slice A151_2 ((rd_T47 l0 x14_1).f2).length c151_2))).cell? _ = some _ from hx153_0)); (try have hy153_1 := fun (n_ : Nat) => (show (((((w12.drewN n_).setCell ⟨gb152, 0, none⟩ (.int .i64 ((rd_T47 l0 x14_1).f0))).setCell ⟨gb152, 1, none⟩ (.int .i64 ((rd_T47 l0 x14_1).f1))).setCell ⟨gb152, 2, none⟩ (.slice A151_2 ((rd_T47 l0 x14_1).f2).length c151_2))).cell? _ = some _ from hx153_1)); (try have hy153_2 := fun (n_ : Nat) => (show (((((w12.drewN n_).setCell ⟨gb152, 0, none⟩ (.int .i64 ((rd_T47 l0 x14_1).f0))).setCell ⟨gb152, 1, none⟩ (.int .i64 ((rd_T47 l0 x14_1).f1))).setCell ⟨gb152, 2, none⟩ (.slice A151_2 ((rd_T47 l0 x14_1).f2).length c151_2))).cell? _ = some _ from hx153_2)); clear hn153_0; clear hn153_1; clear hn153_2; replace p153 := eq_true p153; replace q153 := eq_true q153; have p154 : 0 ≤ (x14_1 : Int) := zd3 (by first | (with_reducible assumption) | assumption); have q154 : x14_1 < (l1.length : Int) := zd3 (by first | (with_reducible assumption) | assumption); obtain ⟨ad154, A154_2, c154_2, e154, hx154_0, hx154_1, hx154_2, hl154_2, hi154_2⟩ := at_T47 HR1.out x14_1 p154 q154; obtain rfl : ad153 = ad154 := (by injection e154); have hn154_0 : ad153.block ≠ gb152 := Nat.ne_of_lt (Nat.lt_of_lt_of_le (by have := World.block_lt_of_cell? _ _ hx154_0; first | rwa [add_block] at this | exact this) GW152.out); have hn154_1 : ad153.block ≠ gb152 := Nat.ne_of_lt (Nat.lt_of_lt_of_le (by have := World.block_lt_of_cell? _ _ hx154_0; first | rwa [add_block] at this | exact this) GW152.out); have hn154_2 : ad153.block ≠ gb152 := Nat.ne_of_lt (Nat.lt_of_lt_of_le (by have := World.block_lt_of_cell? _ _ hx154_0; first | rwa [add_block] at this | exact this) GW152.out); replace hx154_0 := (HB.out.cell (World.block_lt_of_cell? w _ hx154_0)).trans hx154_0; replace hx154_1 := (HB.out.cell (World.block_lt_of_cell? w _ hx154_1)).trans hx154_1; replace hx154_2 := (HB.out.cell (World.block_lt_of_cell? w _ hx154_2)).trans hx154_2; have HR154_2 := zA hi154_2; have HC154_2 := zA hl154_2; clear hi154_2 hl154_2; replace hx154_0 := (cell_far (p := ⟨gb152, 0, none⟩) (by first | (rw [add_block]; exact hn154_0) | (show (Addr.add _ _).block ≠ _; rw [add_block]; exact hn154_0) | exact hn154_0) (.int .i64 ((rd_T47 l0 x14_1).f0))).trans hx154_0; replace hx154_1 := (cell_far (p := ⟨gb152, 0, none⟩) (by first | (rw [add_block]; exact hn154_0) | (show (Addr.add _ _).block ≠ _; rw [add_block]; exact hn154_0) | exact hn154_0) (.int .i64 ((rd_T47 l0 x14_1).f0))).trans hx154_1; replace hx154_2 := (cell_far (p := ⟨gb152, 0, none⟩) (by first | (rw [add_block]; exact hn154_0) | (show (Addr.add _ _).block ≠ _; rw [add_block]; exact hn154_0) | exact hn154_0) (.int .i64 ((rd_T47 l0 x14_1).f0))).trans hx154_2; replace hx154_0 := (cell_far (p := ⟨gb152, 1, none⟩) (by first | (rw [add_block]; exact hn154_1) | (show (Addr.add _ _).block ≠ _; rw [add_block]; exact hn154_1) | exact hn154_1) (.int .i64 ((rd_T47 l0 x14_1).f1))).trans hx154_0; replace hx154_1 := (cell_far (p := ⟨gb152, 1, none⟩) (by first | (rw [add_block]; exact hn154_1) | (show (Addr.add _ _).block ≠ _; rw [add_block]; exact hn154_1) | exact hn154_1) (.int .i64 ((rd_T47 l0 x14_1).f1))).trans hx154_1; replace hx154_2 := (cell_far (p := ⟨gb152, 1, none⟩) (by first | (rw [add_block]; exact hn154_1) | (show (Addr.add _ _).block ≠ _; rw [add_block]; exact hn154_1) | exact hn154_1) (.int .i64 ((rd_T47 l0 x14_1).f1))).trans hx154_2; replace hx154_0 := (cell_far (p := ⟨gb152, 2, none⟩) (by first | (rw [add_block]; exact hn154_2) | (show (Addr.add _ _).block ≠ _; rw [add_block]; exact hn154_2) | exact hn154_2) (.slice A151_2 ((rd_T47 l0 x14_1).f2).length c151_2)).trans hx154_0; replace hx154_1 := (cell_far (p := ⟨gb152, 2, none⟩) (by first | (rw [add_block]; exact hn154_2) | (show (Addr.add _ _).block ≠ _; rw [add_block]; exact hn154_2) | exact hn154_2) (.slice A151_2 ((rd_T47 l0 x14_1).f2).length c151_2)).trans hx154_1; replace hx154_2 := (cell_far (p := ⟨gb152, 2, none⟩) (by first | (rw [add_block]; exact hn154_2) | (show (Addr.add _ _).block ≠ _; rw [add_block]; exact hn154_2) | exact hn154_2) (.slice A151_2 ((rd_T47 l0 x14_1).f2).length c151_2)).trans hx154_2; (try have hy154_0 := fun (n_ : Nat) => (show (((((w12.drewN n_).setCell ⟨gb152, 0, none⟩ (.int .i64 ((rd_T47 l0 x14_1).f0))).setCell ⟨gb152, 1, none⟩ (.int .i64 ((rd_T47 l0 x14_1).f1))).setCell ⟨gb152, 2, none⟩ (.slice A151_2 ((rd_T47 l0 x14_1).f2).length c151_2))).cell? _ = some _ from hx154_0)); (try have hy154_1 := fun (n_ : Nat) => (show (((((w12.drewN n_).setCell ⟨gb152, 0, none⟩ (.int .i64 ((rd_T47 l0 x14_1).f0))).setCell ⟨gb152, 1, none⟩ (.int .i64 ((rd_T47 l0 x14_1).f1))).setCell ⟨gb152, 2, none⟩ (.slice A151_2 ((rd_T47 l0 x14_1).f2).length c151_2))).cell? _ = some _ from hx154_1)); (try have hy154_2 := fun (n_ : Nat) => (show (((((w12.drewN n_).setCell ⟨gb152, 0, none⟩ (.int .i64 ((rd_T47 l0 x14_1).f0))).setCell ⟨gb152, 1, none⟩ (.int .i64 ((rd_T47 l0 x14_1).f1))).setCell ⟨gb152, 2, none⟩ (.slice A151_2 ((rd_T47 l0 x14_1).f2).length c151_2))).cell? _ = some _ from hx154_2)); clear hn154_0; clear hn154_1; clear hn154_2; replace p154 := eq_true p154; replace q154 := eq_true q154; have p155 : 0 ≤ (x14_1 : Int) := zd3 (by first | (with_reducible assumption) | assumption); have q155 : x14_1 < (l1.length : Int) := zd3 (by first | (with_reducible assumption) | assumption); obtain ⟨ad155, A155_2, c155_2, e155, hx155_0, hx155_1, hx155_2, hl155_2, hi155_2⟩ := at_T47 HR1.out x14_1 p155 q155; obtain rfl : ad153 = ad155 := (by injection e155); have hn155_0 : ad153.block ≠ gb152 := Nat.ne_of_lt (Nat.lt_of_lt_of_le (by have := World.block_lt_of_cell? _ _ hx155_0; first | rwa [add_block] at this | exact this) GW152.out); have hn155_1 : ad153.block ≠ gb152 := Nat.ne_of_lt (Nat.lt_of_lt_of_le (by have := World.block_lt_of_cell? _ _ hx155_0; first | rwa [add_block] at this | exact this) GW152.out); have hn155_2 : ad153.block ≠ gb152 := Nat.ne_of_lt (Nat.lt_of_lt_of_le (by have := World.block_lt_of_cell? _ _ hx155_0; first | rwa [add_block] at this | exact this) GW152.out); replace hx155_0 := (HB.out.cell (World.block_lt_of_cell? w _ hx155_0)).trans hx155_0; replace hx155_1 := (HB.out.cell (World.block_lt_of_cell? w _ hx155_1)).trans hx155_1; replace hx155_2 := (HB.out.cell (World.block_lt_of_cell? w _ hx155_2)).trans hx155_2; have HR155_2 := zA hi155_2; have HC155_2 := zA hl155_2; clear hi155_2 hl155_2; replace hx155_0 := (cell_far (p := ⟨gb152, 0, none⟩) (by first | (rw [add_block]; exact hn155_0) | (show (Addr.add _ _).block ≠ _; rw [add_block]; exact hn155_0) | exact hn155_0) (.int .i64 ((rd_T47 l0 x14_1).f0))).trans hx155_0; replace hx155_1 := (cell_far (p := ⟨gb152, 0, none⟩) (by first | (rw [add_block]; exact hn155_0) | (show (Addr.add _ _).block ≠ _; rw [add_block]; exact hn155_0) | exact hn155_0) (.int .i64 ((rd_T47 l0 x14_1).f0))).trans hx155_1; replace hx155_2 := (cell_far (p := ⟨gb152, 0, none⟩) (by first | (rw [add_block]; exact hn155_0) | (show (Addr.add _ _).block ≠ _; rw [add_block]; exact hn155_0) | exact hn155_0) (.int .i64 ((rd_T47 l0 x14_1).f0))).trans hx155_2; replace hx155_0 := (cell_far (p := ⟨gb152, 1, none⟩) (by first | (rw [add_block]; exact hn155_1) | (show (Addr.add _ _).block ≠ _; rw [add_block]; exact hn155_1) | exact hn155_1) (.int .i64 ((rd_T47 l0 x14_1).f1))).trans hx155_0; replace hx155_1 := (cell_far (p := ⟨gb152, 1, none⟩) (by first | (rw [add_block]; exact hn155_1) | (show (Addr.add _ _).block ≠ _; rw [add_block]; exact hn155_1) | exact hn155_1) (.int .i64 ((rd_T47 l0 x14_1).f1))).trans hx155_1; replace hx155_2 := (cell_far (p := ⟨gb152, 1, none⟩) (by first | (rw [add_block]; exact hn155_1) | (show (Addr.add _ _).block ≠ _; rw [add_block]; exact hn155_1) | exact hn155_1) (.int .i64 ((rd_T47 l0 x14_1).f1))).trans hx155_2; replace hx155_0 := (cell_far (p := ⟨gb152, 2, none⟩) (by first | (rw [add_block]; exact hn155_2) | (show (Addr.add _ _).block ≠ _; rw [add_block]; exact hn155_2) | exact hn155_2) (.slice A151_2 ((rd_T47 l0 x14_1).f2).length c151_2)).trans hx155_0; replace hx155_1 := (cell_far (p := ⟨gb152, 2, none⟩) (by first | (rw [add_block]; exact hn155_2) | (show (Addr.add _ _).block ≠ _; rw [add_block]; exact hn155_2) | exact hn155_2) (.slice A151_2 ((rd_T47 l0 x14_1).f2).length c151_2)).trans hx155_1; replace hx155_2 := (cell_far (p := ⟨gb152, 2, none⟩) (by first | (rw [add_block]; exact hn155_2) | (show (Addr.add _ _).block ≠ _; rw [add_block]; exact hn155_2) | exact hn155_2) (.slice A151_2 ((rd_T47 l0 x14_1).f2).length c151_2)).trans hx155_2; (try have hy155_0 := fun (n_ : Nat) => (show (((((w12.drewN n_).setCell ⟨gb152, 0, none⟩ (.int .i64 ((rd_T47 l0 x14_1).f0))).setCell ⟨gb152, 1, none⟩ (.int .i64 ((rd_T47 l0 x14_1).f1))).setCell ⟨gb152, 2, none⟩ (.slice A151_2 ((rd_T47 l0 x14_1).f2).length c151_2))).cell? _ = some _ from hx155_0)); (try have hy155_1 := fun (n_ : Nat) => (show (((((w12.drewN n_).setCell ⟨gb152, 0, none⟩ (.int .i64 ((rd_T47 l0 x14_1).f0))).setCell ⟨gb152, 1, none⟩ (.int .i64 ((rd_T47 l0 x14_1).f1))).setCell ⟨gb152, 2, none⟩ (.slice A151_2 ((rd_T47 l0 x14_1).f2).length c151_2))).cell? _ = some _ from hx155_1)); (try have hy155_2 := fun (n_ : Nat) => (show (((((w12.drewN n_).setCell ⟨gb152, 0, none⟩ (.int .i64 ((rd_T47 l0 x14_1).f0))).setCell ⟨gb152, 1, none⟩ (.int .i64 ((rd_T47 l0 x14_1).f1))).setCell ⟨gb152, 2, none⟩ (.slice A151_2 ((rd_T47 l0 x14_1).f2).length c151_2))).cell? _ = some _ from hx155_2)); clear hn155_0; clear hn155_1; clear hn155_2; replace p155 := eq_true p155; replace q155 := eq_true q155) | (go_at_call 40; (with_reducible refine (bytes_Equal.calls _ _ ((rd_T47 l0 x14_1).f2) _ _ ((rd_T47 l1 x14_1).f2) true _ ?side1 ?side2 ?side3 ?side4 A10.out).mono ?_); (case side1 => exact Kd.C_below HR151_2.out (by repeat (first | (with_reducible first | exact HB.out | apply zb3 | apply zb1 | apply zb2 | refine zb4 ?_ GE152.out) | exact HB.out))); (case side2 => exact HC151_2.out); (case side3 => first | exact Kd.C_below HR155_2.out (by repeat (first | (with_reducible first | exact HB.out | apply zb3 | apply zb1 | apply zb2 | refine zb4 ?_ GE152.out) | exact HB.out)) | exact Kd.C_below HR153_2.out (by repeat (first | (with_reducible first | exact HB.out | apply zb3 | apply zb1 | apply zb2 | refine zb4 ?_ GE152.out) | exact HB.out)) | exact Kd.C_below HR154_2.out (by repeat (first | (with_reducible first | exact HB.out | apply zb3 | apply zb1 | apply zb2 | refine zb4 ?_ GE152.out) | exact HB.out))); (case side4 => first | exact HC155_2.out | exact HC153_2.out | exact HC154_2.out); rintro e w' ⟨rfl, ⟨nd, rfl⟩⟩; (try first | exact ⟨rfl, _, World.drewN_drewN _ _ _⟩ | exact ⟨rfl, _, Eq.trans (World.drewN_drewN _ _ _) (congrArg (World.drewN _) (Nat.add_assoc _ _ _))⟩))); try go_wp2_with (first | ((with_reducible refine gate_dst (N := 6) rfl ?_); refine box_event ?hg (N := 6) ?hd (cs := #[.int .i64 0, .int .i64 0, .slice none 0 0]) (t := 47) ?hr ?_; (case hd => rfl); (case hg => rfl); (case hr => first | (go_simp; done) | (go_simp; rfl)); intro gb152 hg w12 hbox hb; have n0_ := zA (zb5 (by repeat (first | (with_reducible first | exact HB.out | apply zb3 | apply zb1 | apply zb2) | exact HB.out)) hb); have n1_ := zA (hbox); have n2_ := zA ((by rw [hg]; exact (zb6 (by repeat (first | (with_reducible first | exact HB.out | apply zb3 | apply zb1 | apply zb2) | exact HB.out))) : w.heap.size ≤ gb152)); have n3_ := zA ((by rw [hg]; exact (zb6 (by repeat (first | (with_reducible first | exact HB.out | apply zb3 | apply zb1 | apply zb2) | exact HB.out))) : w.heap.size ≤ gb152)); clear HB; have HB := n0_; have BK152 := n1_; have GW152 := n2_; have GE152 := n3_; clear n0_ n1_ n2_ n3_; clear hb hbox hg; have hcz13_0 : w12.cell? ⟨gb152, 0, none⟩ = some (.int .i64 0) := (zc1 BK152.out 0).trans rfl; have hcz13_1 : w12.cell? ⟨gb152, 1, none⟩ = some (.int .i64 0) := (zc1 BK152.out 1).trans rfl; have hcz13_2 : w12.cell? ⟨gb152, 2, none⟩ = some (.slice none 0 0) := (zc1 BK152.out 2).trans rfl; have hfz13_0 := zc5 BK152.out 0; have hfz13_1 := zc5 BK152.out 1; have hfz13_2 := zc5 BK152.out 2; have p153 : 0 ≤ (x14_1 : Int) := zd3 (by first | (with_reducible assumption) | assumption); have q153 : x14_1 < (l1.length : Int) := zd3 (by first | (with_reducible assumption) | assumption); obtain ⟨ad153, A153_2, c153_2, e153, hx153_0, hx153_1, hx153_2, hl153_2, hi153_2⟩ := at_T47 HR1.out x14_1 p153 q153; cases e153; have hn153_0 : ad153.block ≠ gb152 := Nat.ne_of_lt (Nat.lt_of_lt_of_le (by have := World.block_lt_of_cell? _ _ hx153_0; first | rwa [add_block] at this | exact this) GW152.out); have hn153_1 : ad153.block ≠ gb152 := Nat.ne_of_lt (Nat.lt_of_lt_of_le (by have := World.block_lt_of_cell? _ _ hx153_0; first | rwa [add_block] at this | exact this) GW152.out); have hn153_2 : ad153.block ≠ gb152 := Nat.ne_of_lt (Nat.lt_of_lt_of_le (by have := World.block_lt_of_cell? _ _ hx153_0; first | rwa [add_block] at this | exact this) GW152.out); replace hx153_0 := (HB.out.cell (World.block_lt_of_cell? w _ hx153_0)).trans hx153_0; replace hx153_1 := (HB.out.cell (World.block_lt_of_cell? w _ hx153_1)).trans hx153_1; replace hx153_2 := (HB.out.cell (World.block_lt_of_cell? w _ hx153_2)).trans hx153_2; have HR153_2 := zA hi153_2; have HC153_2 := zA hl153_2; clear hi153_2 hl153_2; replace hx153_0 := (cell_far (p := ⟨gb152, 0, none⟩) (by first | (rw [add_block]; exact hn153_0) | (show (Addr.add _ _).block ≠ _; rw [add_block]; exact hn153_0) | exact hn153_0) (.int .i64 ((rd_T47 l0 x14_1).f0))).trans hx153_0; replace hx153_1 := (cell_far (p := ⟨gb152, 0, none⟩) (by first | (rw [add_block]; exact hn153_0) | (show (Addr.add _ _).block ≠ _; rw [add_block]; exact hn153_0) | exact hn153_0) (.int .i64 ((rd_T47 l0 x14_1).f0))).trans hx153_1; replace hx153_2 := (cell_far (p := ⟨gb152, 0, none⟩) (by first | (rw [add_block]; exact hn153_0) | (show (Addr.add _ _).block ≠ _; rw [add_block]; exact hn153_0) | exact hn153_0) (.int .i64 ((rd_T47 l0 x14_1).f0))).trans hx153_2; replace hx153_0 := (cell_far (p := ⟨gb152, 1, none⟩) (by first | (rw [add_block]; exact hn153_1) | (show (Addr.add _ _).block ≠ _; rw [add_block]; exact hn153_1) | exact hn153_1) (.int .i64 ((rd_T47 l0 x14_1).f1))).trans hx153_0; replace hx153_1 := (cell_far (p := ⟨gb152, 1, none⟩) (by first | (rw [add_block]; exact hn153_1) | (show (Addr.add _ _).block ≠ _; rw [add_block]; exact hn153_1) | exact hn153_1) (.int .i64 ((rd_T47 l0 x14_1).f1))).trans hx153_1; replace hx153_2 := (cell_far (p := ⟨gb152, 1, none⟩) (by first | (rw [add_block]; exact hn153_1) | (show (Addr.add _ _).block ≠ _; rw [add_block]; exact hn153_1) | exact hn153_1) (.int .i64 ((rd_T47 l0 x14_1).f1))).trans hx153_2; replace hx153_0 := (cell_far (p := ⟨gb152, 2, none⟩) (by first | (rw [add_block]; exact hn153_2) | (show (Addr.add _ _).block ≠ _; rw [add_block]; exact hn153_2) | exact hn153_2) (.slice A151_2 ((rd_T47 l0 x14_1).f2).length c151_2)).trans hx153_0; replace hx153_1 := (cell_far (p := ⟨gb152, 2, none⟩) (by first | (rw [add_block]; exact hn153_2) | (show (Addr.add _ _).block ≠ _; rw [add_block]; exact hn153_2) | exact hn153_2) (.slice A151_2 ((rd_T47 l0 x14_1).f2).length c151_2)).trans hx153_1; replace hx153_2 := (cell_far (p := ⟨gb152, 2, none⟩) (by first | (rw [add_block]; exact hn153_2) | (show (Addr.add _ _).block ≠ _; rw [add_block]; exact hn153_2) | exact hn153_2) (.slice A151_2 ((rd_T47 l0 x14_1).f2).length c151_2)).trans hx153_2; (try have hy153_0 := fun (n_ : Nat) => (show (((((w12.drewN n_).setCell ⟨gb152, 0, none⟩ (.int .i64 ((rd_T47 l0 x14_1).f0))).setCell ⟨gb152, 1, none⟩ (.int .i64 ((rd_T47 l0 x14_1).f1))).setCell ⟨gb152, 2, none⟩ (.slice A151_2 ((rd_T47 l0 x14_1).f2).length c151_2))).cell? _ = some _ from hx153_0)); (try have hy153_1 := fun (n_ : Nat) => (show (((((w12.drewN n_).setCell ⟨gb152, 0, none⟩ (.int .i64 ((rd_T47 l0 x14_1).f0))).setCell ⟨gb152, 1, none⟩ (.int .i64 ((rd_T47 l0 x14_1).f1))).setCell ⟨gb152, 2, none⟩ (.slice A151_2 ((rd_T47 l0 x14_1).f2).length c151_2))).cell? _ = some _ from hx153_1)); (try have hy153_2 := fun (n_ : Nat) => (show (((((w12.drewN n_).setCell ⟨gb152, 0, none⟩ (.int .i64 ((rd_T47 l0 x14_1).f0))).setCell ⟨gb152, 1, none⟩ (.int .i64 ((rd_T47 l0 x14_1).f1))).setCell ⟨gb152, 2, none⟩ (.slice A151_2 ((rd_T47 l0 x14_1).f2).length c151_2))).cell? _ = some _ from hx153_2)); clear hn153_0; clear hn153_1; clear hn153_2; replace p153 := eq_true p153; replace q153 := eq_true q153; have p154 : 0 ≤ (x14_1 : Int) := zd3 (by first | (with_reducible assumption) | assumption); have q154 : x14_1 < (l1.length : Int) := zd3 (by first | (with_reducible assumption) | assumption); obtain ⟨ad154, A154_2, c154_2, e154, hx154_0, hx154_1, hx154_2, hl154_2, hi154_2⟩ := at_T47 HR1.out x14_1 p154 q154; obtain rfl : ad153 = ad154 := (by injection e154); have hn154_0 : ad153.block ≠ gb152 := Nat.ne_of_lt (Nat.lt_of_lt_of_le (by have := World.block_lt_of_cell? _ _ hx154_0; first | rwa [add_block] at this | exact this) GW152.out); have hn154_1 : ad153.block ≠ gb152 := Nat.ne_of_lt (Nat.lt_of_lt_of_le (by have := World.block_lt_of_cell? _ _ hx154_0; first | rwa [add_block] at this | exact this) GW152.out); have hn154_2 : ad153.block ≠ gb152 := Nat.ne_of_lt (Nat.lt_of_lt_of_le (by have := World.block_lt_of_cell? _ _ hx154_0; first | rwa [add_block] at this | exact this) GW152.out); replace hx154_0 := (HB.out.cell (World.block_lt_of_cell? w _ hx154_0)).trans hx154_0; replace hx154_1 := (HB.out.cell (World.block_lt_of_cell? w _ hx154_1)).trans hx154_1; replace hx154_2 := (HB.out.cell (World.block_lt_of_cell? w _ hx154_2)).trans hx154_2; have HR154_2 := zA hi154_2; have HC154_2 := zA hl154_2; clear hi154_2 hl154_2; replace hx154_0 := (cell_far (p := ⟨gb152, 0, none⟩) (by first | (rw [add_block]; exact hn154_0) | (show (Addr.add _ _).block ≠ _; rw [add_block]; exact hn154_0) | exact hn154_0) (.int .i64 ((rd_T47 l0 x14_1).f0))).trans hx154_0; replace hx154_1 := (cell_far (p := ⟨gb152, 0, none⟩) (by first | (rw [add_block]; exact hn154_0) | (show (Addr.add _ _).block ≠ _; rw [add_block]; exact hn154_0) | exact hn154_0) (.int .i64 ((rd_T47 l0 x14_1).f0))).trans hx154_1; replace hx154_2 := (cell_far (p := ⟨gb152, 0, none⟩) (by first | (rw [add_block]; exact hn154_0) | (show (Addr.add _ _).block ≠ _; rw [add_block]; exact hn154_0) | exact hn154_0) (.int .i64 ((rd_T47 l0 x14_1).f0))).trans hx154_2; replace hx154_0 := (cell_far (p := ⟨gb152, 1, none⟩) (by first | (rw [add_block]; exact hn154_1) | (show (Addr.add _ _).block ≠ _; rw [add_block]; exact hn154_1) | exact hn154_1) (.int .i64 ((rd_T47 l0 x14_1).f1))).trans hx154_0; replace hx154_1 := (cell_far (p := ⟨gb152, 1, none⟩) (by first | (rw [add_block]; exact hn154_1) | (show (Addr.add _ _).block ≠ _; rw [add_block]; exact hn154_1) | exact hn154_1) (.int .i64 ((rd_T47 l0 x14_1).f1))).trans hx154_1; replace hx154_2 := (cell_far (p := ⟨gb152, 1, none⟩) (by first | (rw [add_block]; exact hn154_1) | (show (Addr.add _ _).block ≠ _; rw [add_block]; exact hn154_1) | exact hn154_1) (.int .i64 ((rd_T47 l0 x14_1).f1))).trans hx154_2; replace hx154_0 := (cell_far (p := ⟨gb152, 2, none⟩) (by first | (rw [add_block]; exact hn154_2) | (show (Addr.add _ _).block ≠ _; rw [add_block]; exact hn154_2) | exact hn154_2) (.slice A151_2 ((rd_T47 l0 x14_1).f2).length c151_2)).trans hx154_0; replace hx154_1 := (cell_far (p := ⟨gb152, 2, none⟩) (by first | (rw [add_block]; exact hn154_2) | (show (Addr.add _ _).block ≠ _; rw [add_block]; exact hn154_2) | exact hn154_2) (.slice A151_2 ((rd_T47 l0 x14_1).f2).length c151_2)).trans hx154_1; replace hx154_2 := (cell_far (p := ⟨gb152, 2, none⟩) (by first | (rw [add_block]; exact hn154_2) | (show (Addr.add _ _).block ≠ _; rw [add_block]; exact hn154_2) | exact hn154_2) (.slice A151_2 ((rd_T47 l0 x14_1).f2).length c151_2)).trans hx154_2; (try have hy154_0 := fun (n_ : Nat) => (show (((((w12.drewN n_).setCell ⟨gb152, 0, none⟩ (.int .i64 ((rd_T47 l0 x14_1).f0))).setCell ⟨gb152, 1, none⟩ (.int .i64 ((rd_T47 l0 x14_1).f1))).setCell ⟨gb152, 2, none⟩ (.slice A151_2 ((rd_T47 l0 x14_1).f2).length c151_2))).cell? _ = some _ from hx154_0)); (try have hy154_1 := fun (n_ : Nat) => (show (((((w12.drewN n_).setCell ⟨gb152, 0, none⟩ (.int .i64 ((rd_T47 l0 x14_1).f0))).setCell ⟨gb152, 1, none⟩ (.int .i64 ((rd_T47 l0 x14_1).f1))).setCell ⟨gb152, 2, none⟩ (.slice A151_2 ((rd_T47 l0 x14_1).f2).length c151_2))).cell? _ = some _ from hx154_1)); (try have hy154_2 := fun (n_ : Nat) => (show (((((w12.drewN n_).setCell ⟨gb152, 0, none⟩ (.int .i64 ((rd_T47 l0 x14_1).f0))).setCell ⟨gb152, 1, none⟩ (.int .i64 ((rd_T47 l0 x14_1).f1))).setCell ⟨gb152, 2, none⟩ (.slice A151_2 ((rd_T47 l0 x14_1).f2).length c151_2))).cell? _ = some _ from hx154_2)); clear hn154_0; clear hn154_1; clear hn154_2; replace p154 := eq_true p154; replace q154 := eq_true q154; have p155 : 0 ≤ (x14_1 : Int) := zd3 (by first | (with_reducible assumption) | assumption); have q155 : x14_1 < (l1.length : Int) := zd3 (by first | (with_reducible assumption) | assumption); obtain ⟨ad155, A155_2, c155_2, e155, hx155_0, hx155_1, hx155_2, hl155_2, hi155_2⟩ := at_T47 HR1.out x14_1 p155 q155; obtain rfl : ad153 = ad155 := (by injection e155); have hn155_0 : ad153.block ≠ gb152 := Nat.ne_of_lt (Nat.lt_of_lt_of_le (by have := World.block_lt_of_cell? _ _ hx155_0; first | rwa [add_block] at this | exact this) GW152.out); have hn155_1 : ad153.block ≠ gb152 := Nat.ne_of_lt (Nat.lt_of_lt_of_le (by have := World.block_lt_of_cell? _ _ hx155_0; first | rwa [add_block] at this | exact this) GW152.out); have hn155_2 : ad153.block ≠ gb152 := Nat.ne_of_lt (Nat.lt_of_lt_of_le (by have := World.block_lt_of_cell? _ _ hx155_0; first | rwa [add_block] at this | exact this) GW152.out); replace hx155_0 := (HB.out.cell (World.block_lt_of_cell? w _ hx155_0)).trans hx155_0; replace hx155_1 := (HB.out.cell (World.block_lt_of_cell? w _ hx155_1)).trans hx155_1; replace hx155_2 := (HB.out.cell (World.block_lt_of_cell? w _ hx155_2)).trans hx155_2; have HR155_2 := zA hi155_2; have HC155_2 := zA hl155_2; clear hi155_2 hl155_2; replace hx155_0 := (cell_far (p := ⟨gb152, 0, none⟩) (by first | (rw [add_block]; exact hn155_0) | (show (Addr.add _ _).block ≠ _; rw [add_block]; exact hn155_0) | exact hn155_0) (.int .i64 ((rd_T47 l0 x14_1).f0))).trans hx155_0; replace hx155_1 := (cell_far (p := ⟨gb152, 0, none⟩) (by first | (rw [add_block]; exact hn155_0) | (show (Addr.add _ _).block ≠ _; rw [add_block]; exact hn155_0) | exact hn155_0) (.int .i64 ((rd_T47 l0 x14_1).f0))).trans hx155_1; replace hx155_2 := (cell_far (p := ⟨gb152, 0, none⟩) (by first | (rw [add_block]; exact hn155_0) | (show (Addr.add _ _).block ≠ _; rw [add_block]; exact hn155_0) | exact hn155_0) (.int .i64 ((rd_T47 l0 x14_1).f0))).trans hx155_2; replace hx155_0 := (cell_far (p := ⟨gb152, 1, none⟩) (by first | (rw [add_block]; exact hn155_1) | (show (Addr.add _ _).block ≠ _; rw [add_block]; exact hn155_1) | exact hn155_1) (.int .i64 ((rd_T47 l0 x14_1).f1))).trans hx155_0; replace hx155_1 := (cell_far (p := ⟨gb152, 1, none⟩) (by first | (rw [add_block]; exact hn155_1) | (show (Addr.add _ _).block ≠ _; rw [add_block]; exact hn155_1) | exact hn155_1) (.int .i64 ((rd_T47 l0 x14_1).f1))).trans hx155_1; replace hx155_2 := (cell_far (p := ⟨gb152, 1, none⟩) (by first | (rw [add_block]; exact hn155_1) | (show (Addr.add _ _).block ≠ _; rw [add_block]; exact hn155_1) | exact hn155_1) (.int .i64 ((rd_T47 l0 x14_1).f1))).trans hx155_2; replace hx155_0 := (cell_far (p := ⟨gb152, 2, none⟩) (by first | (rw [add_block]; exact hn155_2) | (show (Addr.add _ _).block ≠ _; rw [add_block]; exact hn155_2) | exact hn155_2) (.slice A151_2 ((rd_T47 l0 x14_1).f2).length c151_2)).trans hx155_0; replace hx155_1 := (cell_far (p := ⟨gb152, 2, none⟩) (by first | (rw [add_block]; exact hn155_2) | (show (Addr.add _ _).block ≠ _; rw [add_block]; exact hn155_2) | exact hn155_2) (.slice A151_2 ((rd_T47 l0 x14_1).f2).length c151_2)).trans hx155_1; replace hx155_2 := (cell_far (p := ⟨gb152, 2, none⟩) (by first | (rw [add_block]; exact hn155_2) | (show (Addr.add _ _).block ≠ _; rw [add_block]; exact hn155_2) | exact hn155_2) (.slice A151_2 ((rd_T47 l0 x14_1).f2).length c151_2)).trans hx155_2; (try have hy155_0 := fun (n_ : Nat) => (show (((((w12.drewN n_).setCell ⟨gb152, 0, none⟩ (.int .i64 ((rd_T47 l0 x14_1).f0))).setCell ⟨gb152, 1, none⟩ (.int .i64 ((rd_T47 l0 x14_1).f1))).setCell ⟨gb152, 2, none⟩ (.slice A151_2 ((rd_T47 l0 x14_1).f2).length c151_2))).cell? _ = some _ from hx155_0)); (try have hy155_1 := fun (n_ : Nat) => (show (((((w12.drewN n_).setCell ⟨gb152, 0, none⟩ (.int .i64 ((rd_T47 l0 x14_1).f0))).setCell ⟨gb152, 1, none⟩ (.int .i64 ((rd_T47 l0 x14_1).f1))).setCell ⟨gb152, 2, none⟩ (.slice A151_2 ((rd_T47 l0 x14_1).f2).length c151_2))).cell? _ = some _ from hx155_1)); (try have hy155_2 := fun (n_ : Nat) => (show (((((w12.drewN n_).setCell ⟨gb152, 0, none⟩ (.int .i64 ((rd_T47 l0 x14_1).f0))).setCell ⟨gb152, 1, none⟩ (.int .i64 ((rd_T47 l0 x14_1).f1))).setCell ⟨gb152, 2, none⟩ (.slice A151_2 ((rd_T47 l0 x14_1).f2).length c151_2))).cell? _ = some _ from hx155_2)); clear hn155_0; clear hn155_1; clear hn155_2; replace p155 := eq_true p155; replace q155 := eq_true q155) | (go_at_call 40; (with_reducible refine (bytes_Equal.calls _ _ ((rd_T47 l0 x14_1).f2) _ _ ((rd_T47 l1 x14_1).f2) true _ ?side1 ?side2 ?side3 ?side4 A10.out).mono ?_); (case side1 => exact Kd.C_below HR151_2.out (by repeat (first | (with_reducible first | exact HB.out | apply zb3 | apply zb1 | apply zb2 | refine zb4 ?_ GE152.out) | exact HB.out))); (case side2 => exact HC151_2.out); (case side3 => first | exact Kd.C_below HR155_2.out (by repeat (first | (with_reducible first | exact HB.out | apply zb3 | apply zb1 | apply zb2 | refine zb4 ?_ GE152.out) | exact HB.out)) | exact Kd.C_below HR153_2.out (by repeat (first | (with_reducible first | exact HB.out | apply zb3 | apply zb1 | apply zb2 | refine zb4 ?_ GE152.out) | exact HB.out)) | exact Kd.C_below HR154_2.out (by repeat (first | (with_reducible first | exact HB.out | apply zb3 | apply zb1 | apply zb2 | refine zb4 ?_ GE152.out) | exact HB.out))); (case side4 => first | exact HC155_2.out | exact HC153_2.out | exact HC154_2.out); rintro e w' ⟨rfl, ⟨nd, rfl⟩⟩; (try first | exact ⟨rfl, _, World.drewN_drewN _ _ _⟩ | exact ⟨rfl, _, Eq.trans (World.drewN_drewN _ _ _) (congrArg (World.drewN _) (Nat.add_assoc _ _ _))⟩))))
           go_roundg k1
           case measure => have := HK1.out; omega
           case rel => exact ⟨(wrap64 (x14_1 + 1)), (by first | rfl | (simp; done) | (simp [*]; done)), H', ⟨by have := HK1.out; omega⟩, ⟨by repeat (first | (with_reducible first | exact HB.out | apply zb3 | apply zb1 | apply zb2 | refine zb4 ?_ GE152.out) | exact HB.out)⟩⟩
          ·replace c11 := Bool.eq_false_iff.mpr c11
           subst c11
           have H1 : (none) = some r := by rw [if_neg (show ¬ (false = true) by decide)] at H; exact H
           clear H
           have H := H1
           clear H1
           exact absurd H (by simp)
         ·rw [if_neg c9] at H
          exact absurd H (by simp)
        ·rw [if_neg c8] at H
         exact absurd H (by simp)
       ·rw [if_neg c7] at H
        exact absurd H (by simp)
      ·rw [if_neg c6] at H
       exact absurd H (by simp)
     ·rw [if_neg c5] at H
      exact absurd H (by simp)
    ·rw [if_neg c4] at H
     have c4b0 : decide (x14_1 < (l0.length : Int)) = false := zd2 c4
     clear c4
     obtain rfl := Option.some.inj H
     go_wp2
     have hwi_ : ∀ n : Int, IntKind.i64.wrap n = wrap64 n := i64_w
     repeat (go_quiet (fail); try go_wp2)
     clear hwi_
     go_ret
     exact ⟨by first | rfl | (simp [*] <;> rfl), by repeat (first | (with_reducible first | exact HB.out | apply zb3 | apply zb1 | apply zb2) | exact HB.out)⟩
 ·rw [if_neg c3] at H
  exact absurd H (by simp)

end Go.Proofs.Ytkihlcmjjoiccaa.PMatchCosts
