-- Written by a program of this session (the kit's printer with hand-written contracts among its functions).
-- squeezed
import Derived.Test.YtlndkemblbbfaaaPIndexFindsx0
import Derived.Test.YtlndkemblbbfaaaPIndexFindsx1
import Derived.Test.YtlndkemblbbfaaaPIndexFindsx2
import Derived.Test.YtlndkemblbbfaaaPIndexFindsx8
import Derived.Test.YtlndkemblbbfaaaPIndexFindsx9
import Derived.Test.YtlndkemblbbfaaaPIndexFindsx10
namespace Go.Proofs.Ytlndkemblbbfaaa.PIndexFinds
open Go.RowKit Go.Proofs.YtlndkemblbbfaaaW.PrintWords Go.Proofs.YtlndkemblbbfaaaW.PrintLast Go.Proofs.YtlndkemblbbfaaaW.PrintMore
attribute [local go_sem] max2_int min2_int max_two min_two max_three min_three max_four min_four   -- for this text's walks alone
set_option linter.unusedVariables false
set_option linter.unusedSimpArgs false

/-! ### remoralaw07_IndexFinds: function 5 -/
theorem index_Index_Len.calls_nil (w : World) : Calls Try.prog 20 #[.pointer none] w fun e w' => e = .returned (.int .i64 0) ∧ Below w.heap.size w w' := by
 go_enter Try.func20, Try.ntmps20
 go_wp2
 go_ret
 exact ⟨rfl, by repeat (first | exact Below.refl _ _ | apply zb1)⟩
theorem index_Index_Find.calls_nil (a1 : Int) (w : World) : Calls Try.prog 17 #[.pointer none, .int .u32 a1] w fun e w' => e = .returned (.slice none 0 0) ∧ Below w.heap.size w w' := by
 go_enter Try.func17, Try.ntmps17
 go_wp2
 go_ret
 exact ⟨rfl, by repeat (first | exact Below.refl _ _ | apply zb1)⟩
theorem index_Index_Loads.calls_nil (w : World) : Calls Try.prog 22 #[.pointer none] w fun e w' => e = .returned (.slice none 0 0) ∧ Below w.heap.size w w' := by
 go_enter Try.func22, Try.ntmps22
 go_wp2
 go_ret
 exact ⟨rfl, by repeat (first | exact Below.refl _ _ | apply zb1)⟩
theorem remoraref07_Index_Len.calls_nil (w : World) : Calls Try.prog 21 #[.pointer none] w fun e w' => e = .returned (.int .i64 0) ∧ Below w.heap.size w w' := by
 go_enter Try.func21, Try.ntmps21
 go_wp2
 go_ret
 exact ⟨rfl, by repeat (first | exact Below.refl _ _ | apply zb1)⟩
theorem remoraref07_Index_Find.calls_nil (a1 : Int) (w : World) : Calls Try.prog 19 #[.pointer none, .int .u32 a1] w fun e w' => e = .returned (.slice none 0 0) ∧ Below w.heap.size w w' := by
 go_enter Try.func19, Try.ntmps19
 go_wp2
 go_ret
 exact ⟨rfl, by repeat (first | exact Below.refl _ _ | apply zb1)⟩
theorem remoraref07_Index_Loads.calls_nil (w : World) : Calls Try.prog 23 #[.pointer none] w fun e w' => e = .returned (.slice none 0 0) ∧ Below w.heap.size w w' := by
 go_enter Try.func23, Try.ntmps23
 go_wp2
 go_ret
 exact ⟨rfl, by repeat (first | exact Below.refl _ _ | apply zb1)⟩
theorem ixis_len {g : Nat} {l : List S44} {s b : Int} {w : World} (hx : IxIs w g l s b) :
    Calls Try.prog 20 #[.pointer (some ⟨g, 0, none⟩)] w fun e w' => e = .returned (.int .i64 (l.length : Int)) ∧ Below w.heap.size w w' := by
 obtain ⟨A0, c0, A3, c3, h1, h2, h3, h4, h5⟩ := hx
 exact index_Index_Len.calls g A0 c0 l s b A3 c3 (ixChains l) _ w h2 h3 h4 h5 h1 rfl
def RxIs (w : World) (g : Nat) (a0 a1 a2 : Int) (l : List S44) : Prop := ∃ (A : Option Addr) (c : Nat), w.heap[g]? = some (.cells #[.int .i64 a0, .int .i64 a1, .int .i64 a2, .slice A l.length c] 64 (0, 0)) ∧ Kd.C k44 w A l.length l ∧ l.length ≤ c
theorem RxIs.below {w w1 : World} {g : Nat} {a0 a1 a2 : Int} {l : List S44} (h : RxIs w g a0 a1 a2 l) (hb : Below w.heap.size w w1) : RxIs w1 g a0 a1 a2 l := by
 obtain ⟨A, c, h1, h2, h3⟩ := h
 exact ⟨A, c, zc6 h1 hb, Kd.C_below h2 hb, h3⟩
theorem rxis_new (k : Nat) (a0_0 : Int) (a0_1 : Int) (a0_2 : Int) (A0_3 : Option Addr) (c0_3 : Nat) (l0_3 : List S44) (w : World) (hr0_3 : Kd.C k44 w A0_3 l0_3.length l0_3) (hc0_3 : l0_3.length ≤ c0_3) (h : remoraref06_Check.f k a0_0 a0_1 a0_2 l0_3 = some 0) :
    Calls Try.prog 12 #[.agg #[.int .i64 a0_0, .int .i64 a0_1, .int .i64 a0_2, .slice A0_3 l0_3.length c0_3]] w fun e w' => ∃ g : Nat, e = .returned (.tuple #[.pointer (some ⟨g, 0, none⟩), .int .i64 0]) ∧ RxIs w' g a0_0 a0_1 a0_2 l0_3 ∧ Below w.heap.size w w' := by
 refine (remoraref07_New.calls_ok k a0_0 a0_1 a0_2 A0_3 c0_3 l0_3 w hr0_3 hc0_3 h).mono ?_
 rintro e w' ⟨g, rfl, _, h1, hb⟩
 exact ⟨g, rfl, ⟨A0_3, c0_3, h1, Kd.C_below hr0_3 hb, hc0_3⟩, hb⟩
theorem rxis_find {g : Nat} {a0 b0 a2 : Int} {l : List S44} {w : World} (hx : RxIs w g a0 b0 a2 l) {k : Nat} {a1 : Int} {r : List Int} (h : remoraref07_Index_Find.f k a0 b0 a2 l a1 = some r) :
    Calls Try.prog 19 #[.pointer (some ⟨g, 0, none⟩), .int .u32 a1] w fun e w' => ∃ (A : Option Addr) (c : Nat), e = .returned (.slice A r.length c) ∧ Kd.C (Kd.int .i64) w' A r.length r ∧ r.length ≤ c ∧ Below w.heap.size w w' := by
 obtain ⟨A0, c0, h1, h2, h3⟩ := hx
 refine (remoraref07_Index_Find.calls g k a0 b0 a2 A0 c0 l a1 r w h2 h3 h1 h).mono ?_
 rintro e w' ⟨v, rfl, hR, hb⟩
 obtain ⟨A, c, rfl, hl, hr⟩ := Kd.R_reads hR
 exact ⟨A, c, rfl, hr, hl, hb⟩
theorem rxis_loads {g : Nat} {a0 b0 a2 : Int} {l : List S44} {w : World} (hx : RxIs w g a0 b0 a2 l) {k : Nat} {r : List Int} (h : remoraref07_Index_Loads.f k a0 b0 a2 l = some r) :
    Calls Try.prog 23 #[.pointer (some ⟨g, 0, none⟩)] w fun e w' => ∃ (A : Option Addr) (c : Nat), e = .returned (.slice A r.length c) ∧ Kd.C (Kd.int .i64) w' A r.length r ∧ r.length ≤ c ∧ Below w.heap.size w w' := by
 obtain ⟨A0, c0, h1, h2, h3⟩ := hx
 refine (remoraref07_Index_Loads.calls g k a0 b0 a2 A0 c0 l r w h2 h3 h1 h).mono ?_
 rintro e w' ⟨v, rfl, hR, hb⟩
 obtain ⟨A, c, rfl, hl, hr⟩ := Kd.R_reads hR
 exact ⟨A, c, rfl, hr, hl, hb⟩
theorem rxis_len {g : Nat} {a0 b0 a2 : Int} {l : List S44} {w : World} (hx : RxIs w g a0 b0 a2 l) :
    Calls Try.prog 21 #[.pointer (some ⟨g, 0, none⟩)] w fun e w' => e = .returned (.int .i64 (l.length : Int)) ∧ Below w.heap.size w w' := by
 obtain ⟨A0, c0, h1, h2, h3⟩ := hx
 exact remoraref07_Index_Len.calls g a0 b0 a2 A0 c0 l _ w h2 h3 h1 rfl
theorem ix_nilrow (w : World) : Kd.C (Kd.int .i64) w none ([] : List Int).length [] := ⟨rfl, by decide, fun h => absurd h (by decide)⟩
-- parts: nil_index_Index_Len.txt nil_index_Index_Find.txt nil_index_Index_Loads.txt nil_remoraref07_Index_Len.txt nil_remoraref07_Index_Find.txt nil_remoraref07_Index_Loads.txt ixis_len.txt rxis.txt rxis_find.txt rxis_loads.txt rxis_len.txt ix_nilrow.txt
/-! ### IndexFinds, by hand -/
def remoralaw07_IndexFinds.f (k : Nat) (a0_0 a0_1 a0_2 : Int) (l0_3 : List S44) (a1 : Int) : Option Bool :=
 if l0_3.length > 400 then remoralaw07_awake.f k else
 (sig_Check.f a0_0 a0_1 a0_2 l0_3).bind fun c =>
 (remoraref06_Check.f k a0_0 a0_1 a0_2 l0_3).bind fun d =>
 if c = d then
  if c = 0 then
   (index_Index_Find.f k l0_3 a0_0 a0_1 (ixChains l0_3) a1).bind fun L =>
   (remoraref07_Index_Find.f k a0_0 a0_1 a0_2 l0_3 a1).bind fun M =>
   (remoralaw07_ints.f k L M).bind fun t =>
   if t = true then
    (index_Index_Loads.f k l0_3 a0_0 a0_1 (ixChains l0_3)).bind fun D =>
    (remoraref07_Index_Loads.f k a0_0 a0_1 a0_2 l0_3).bind fun E =>
    (remoralaw07_ints.f k D E).bind fun t =>
    if t = true then remoralaw07_awake.f k else none
   else none
  else (remoralaw07_ints.f k [] []).bind fun t => if t = true then remoralaw07_awake.f k else none
 else none
set_option maxHeartbeats 16000000 in
set_option maxRecDepth 100000 in
theorem remoralaw07_IndexFinds.calls (k : Nat) (a0_0 a0_1 a0_2 : Int) (A0_3 : Option Addr) (c0_3 : Nat) (l0_3 : List S44) (a1 : Int) (r : Bool) (w : World) (hr0_3 : Kd.C k44 w A0_3 l0_3.length l0_3) (hc0_3 : l0_3.length ≤ c0_3) (h : remoralaw07_IndexFinds.f k a0_0 a0_1 a0_2 l0_3 a1 = some r) :
    Calls Try.prog 5 #[.agg #[.int .i64 a0_0, .int .i64 a0_1, .int .i64 a0_2, .slice A0_3 l0_3.length c0_3], .int .u32 a1] w fun e w' => e = .returned (.bool r) ∧ Below w.heap.size w w' := by
 have hu := Try.underlying24
 have HR := zA hr0_3
 have HC := zA hc0_3
 have H := zA h
 clear hr0_3 hc0_3 h
 go_enter Try.func5, Try.ntmps5
 go_wp2_with (first | ((with_reducible refine gate_dst (N := 2) rfl ?_); refine box_event ?hg (N := 2) ?hd (cs := #[.int .i64 a0_0, .int .i64 a0_1, .int .i64 a0_2, .slice A0_3 l0_3.length c0_3]) (t := 24) ?hr ?_; (case hd => rfl); (case hg => rfl); (case hr => first | (go_simp; done) | (go_simp; rfl)); intro gs hgs w1 hA hq; have HS : Aside0 (LwS w w1 gs a0_0 a0_1 a0_2 A0_3 c0_3 l0_3) := ⟨⟨hA, Kd.C_below HR.out hq, hq⟩⟩; have hc0 := HS.out.c0; have hc1 := HS.out.c1; have hc2 := HS.out.c2; have hc3 := HS.out.c3; clear hA hq hgs))
 refine (remoralaw07_great.calls a0_0 a0_1 a0_2 A0_3 c0_3 l0_3 _ _ HS.out.rd HC.out rfl).mono ?_
 rintro e w2 ⟨rfl, hb⟩
 replace HS := zA (HS.out.step hb)
 clear hb
 clear hc0 hc1 hc2 hc3
 have hc0 := HS.out.c0
 have hc1 := HS.out.c1
 have hc2 := HS.out.c2
 have hc3 := HS.out.c3
 by_cases hg : (l0_3.length : Int) > 400
 ·have h := H.out
  unfold remoralaw07_IndexFinds.f at h
  rw [if_pos (by omega)] at h
  have HAW := zA h
  rw [zd1 hg]
  clear h H hg
  go_wp2_with fail
  refine (remoralaw07_awake.calls k r _ HAW.out).mono ?_
  rintro e wz ⟨rfl, hb⟩
  replace HS := zA (HS.out.step hb)
  clear hb
  go_wp2_with fail
  go_ret
  exact ⟨rfl, HS.out.bl⟩
 ·have h := H.out
  unfold remoralaw07_IndexFinds.f at h
  rw [if_neg (by omega)] at h
  have HLN := zA (show l0_3.length ≤ 400 by omega)
  rw [zd2 hg]
  clear H hg
  obtain ⟨c, hck, h2⟩ := ob_ h
  clear h
  obtain ⟨d, hrk, h3⟩ := ob_ h2
  clear h2
  obtain ⟨hcd, h⟩ := oi_ h3
  clear h3
  subst hcd
  have HCK := zA hck
  have HRK := zA hrk
  clear hck hrk
  by_cases h0 : c = 0
  ·subst h0
   rw [if_pos rfl] at h
   obtain ⟨L, hfd, h⟩ := ob_ h
   obtain ⟨M, hrf, h⟩ := ob_ h
   obtain ⟨t, hin, h⟩ := ob_ h
   obtain ⟨ht, h⟩ := oi_ h
   subst ht
   obtain ⟨D, hld, h⟩ := ob_ h
   obtain ⟨E, hrl, h⟩ := ob_ h
   obtain ⟨t, hi2, h⟩ := ob_ h
   obtain ⟨ht, h⟩ := oi_ h
   subst ht
   have HFD : Aside0 (index_Index_Find.f k l0_3 a0_0 a0_1 (ixChains l0_3) a1 = some L) := ⟨hfd⟩
   have HRF := zA hrf
   have HIN := zA hin
   have HLD : Aside0 (index_Index_Loads.f k l0_3 a0_0 a0_1 (ixChains l0_3) = some D) := ⟨hld⟩
   have HRL := zA hrl
   have HI2 := zA hi2
   have HAW := zA h
   clear hfd hrf hin hld hrl hi2 h
   have dl : ((l0_3.length : Int) == (l0_3.length : Int)) = true := beq_self_eq_true _
   go_wp2_with fail
   refine (ixis_new a0_0 a0_1 a0_2 A0_3 c0_3 l0_3 _ rfl HS.out.rd HC.out HCK.out (by have := HLN.out; omega)).mono ?_
   rintro e w3 ⟨g, rfl, hx, hb⟩
   have HX := zA hx
   clear hx
   replace HS := zA (HS.out.step hb)
   clear hb
   clear hc0 hc1 hc2 hc3
   have hc0 := HS.out.c0
   have hc1 := HS.out.c1
   have hc2 := HS.out.c2
   have hc3 := HS.out.c3
   go_wp2_with fail
   refine (rxis_new k a0_0 a0_1 a0_2 A0_3 c0_3 l0_3 _ HS.out.rd HC.out HRK.out).mono ?_
   rintro e w4 ⟨q, rfl, hx, hb⟩
   have HY := zA hx
   replace HX := zA (HX.out.below hb)
   clear hx
   replace HS := zA (HS.out.step hb)
   clear hb
   clear hc0 hc1 hc2 hc3
   have hc0 := HS.out.c0
   have hc1 := HS.out.c1
   have hc2 := HS.out.c2
   have hc3 := HS.out.c3
   go_wp2_with fail
   refine (ixis_find HX.out HFD.out).mono ?_
   rintro e w5 ⟨A1, c1, rfl, hr1, hl1, hb⟩
   have HR1 := zA hr1
   have HC1 := zA hl1
   clear hr1 hl1
   replace HX := zA (HX.out.below hb)
   replace HY := zA (HY.out.below hb)
   replace HS := zA (HS.out.step hb)
   clear hb
   clear hc0 hc1 hc2 hc3
   have hc0 := HS.out.c0
   have hc1 := HS.out.c1
   have hc2 := HS.out.c2
   have hc3 := HS.out.c3
   go_wp2_with fail
   refine (rxis_find HY.out HRF.out).mono ?_
   rintro e w6 ⟨A2, c2, rfl, hr2, hl2, hb⟩
   have HR2 := zA hr2
   have HC2 := zA hl2
   replace HR1 := zA (Kd.C_below HR1.out hb)
   clear hr2 hl2
   replace HX := zA (HX.out.below hb)
   replace HY := zA (HY.out.below hb)
   replace HS := zA (HS.out.step hb)
   clear hb
   clear hc0 hc1 hc2 hc3
   have hc0 := HS.out.c0
   have hc1 := HS.out.c1
   have hc2 := HS.out.c2
   have hc3 := HS.out.c3
   go_wp2_with fail
   refine (ix_ints k rfl rfl HR1.out HC1.out HR2.out HC2.out HIN.out).mono ?_
   rintro e w7 ⟨rfl, hb⟩
   clear HR1 HC1 HR2 HC2
   replace HX := zA (HX.out.below hb)
   replace HY := zA (HY.out.below hb)
   replace HS := zA (HS.out.step hb)
   clear hb
   clear hc0 hc1 hc2 hc3
   have hc0 := HS.out.c0
   have hc1 := HS.out.c1
   have hc2 := HS.out.c2
   have hc3 := HS.out.c3
   go_wp2_with fail
   refine (ixis_len HX.out).mono ?_
   rintro e w8 ⟨rfl, hb⟩
   replace HX := zA (HX.out.below hb)
   replace HY := zA (HY.out.below hb)
   replace HS := zA (HS.out.step hb)
   clear hb
   clear hc0 hc1 hc2 hc3
   have hc0 := HS.out.c0
   have hc1 := HS.out.c1
   have hc2 := HS.out.c2
   have hc3 := HS.out.c3
   go_wp2_with fail
   refine (rxis_len HY.out).mono ?_
   rintro e w9 ⟨rfl, hb⟩
   replace HX := zA (HX.out.below hb)
   replace HY := zA (HY.out.below hb)
   replace HS := zA (HS.out.step hb)
   clear hb
   clear hc0 hc1 hc2 hc3
   have hc0 := HS.out.c0
   have hc1 := HS.out.c1
   have hc2 := HS.out.c2
   have hc3 := HS.out.c3
   go_wp2_with fail
   refine (ixis_loads HX.out HLD.out).mono ?_
   rintro e w10 ⟨A1, c1, rfl, hr1, hl1, hb⟩
   have HR1 := zA hr1
   have HC1 := zA hl1
   clear hr1 hl1
   replace HX := zA (HX.out.below hb)
   replace HY := zA (HY.out.below hb)
   replace HS := zA (HS.out.step hb)
   clear hb
   clear hc0 hc1 hc2 hc3
   have hc0 := HS.out.c0
   have hc1 := HS.out.c1
   have hc2 := HS.out.c2
   have hc3 := HS.out.c3
   go_wp2_with fail
   refine (rxis_loads HY.out HRL.out).mono ?_
   rintro e w11 ⟨A2, c2, rfl, hr2, hl2, hb⟩
   have HR2 := zA hr2
   have HC2 := zA hl2
   replace HR1 := zA (Kd.C_below HR1.out hb)
   clear hr2 hl2
   replace HX := zA (HX.out.below hb)
   replace HY := zA (HY.out.below hb)
   replace HS := zA (HS.out.step hb)
   clear hb
   clear hc0 hc1 hc2 hc3
   have hc0 := HS.out.c0
   have hc1 := HS.out.c1
   have hc2 := HS.out.c2
   have hc3 := HS.out.c3
   go_wp2_with fail
   refine (ix_ints k rfl rfl HR1.out HC1.out HR2.out HC2.out HI2.out).mono ?_
   rintro e w12 ⟨rfl, hb⟩
   clear HR1 HC1 HR2 HC2
   replace HX := zA (HX.out.below hb)
   replace HY := zA (HY.out.below hb)
   replace HS := zA (HS.out.step hb)
   clear hb
   clear hc0 hc1 hc2 hc3
   have hc0 := HS.out.c0
   have hc1 := HS.out.c1
   have hc2 := HS.out.c2
   have hc3 := HS.out.c3
   go_wp2_with fail
   refine (remoralaw07_awake.calls k r _ HAW.out).mono ?_
   rintro e wz ⟨rfl, hb⟩
   replace HS := zA (HS.out.step hb)
   clear hb
   go_wp2_with fail
   go_ret
   exact ⟨rfl, HS.out.bl⟩
  ·rw [if_neg h0] at h
   obtain ⟨t, hin, h⟩ := ob_ h
   obtain ⟨ht, h⟩ := oi_ h
   subst ht
   have HIN := zA hin
   have HAW := zA h
   clear hin h
   have dc : (c == c) = true := beq_self_eq_true _
   have dd : (c != c) = false := by simp
   go_wp2_with fail
   refine (index_New.calls_bad a0_0 a0_1 a0_2 A0_3 c0_3 l0_3 c _ HS.out.rd HC.out HCK.out h0).mono ?_
   rintro e w3 ⟨rfl, hb⟩
   replace HS := zA (HS.out.step hb)
   clear hb
   clear hc0 hc1 hc2 hc3
   have hc0 := HS.out.c0
   have hc1 := HS.out.c1
   have hc2 := HS.out.c2
   have hc3 := HS.out.c3
   go_wp2_with fail
   refine (remoraref07_New.calls_bad k a0_0 a0_1 a0_2 A0_3 c0_3 l0_3 c _ HS.out.rd HC.out HRK.out h0).mono ?_
   rintro e w4 ⟨rfl, hb⟩
   replace HS := zA (HS.out.step hb)
   clear hb
   clear hc0 hc1 hc2 hc3
   have hc0 := HS.out.c0
   have hc1 := HS.out.c1
   have hc2 := HS.out.c2
   have hc3 := HS.out.c3
   go_wp2_with fail
   refine (index_Index_Find.calls_nil a1 _).mono ?_
   rintro e w5 ⟨rfl, hb⟩
   replace HS := zA (HS.out.step hb)
   clear hb
   clear hc0 hc1 hc2 hc3
   have hc0 := HS.out.c0
   have hc1 := HS.out.c1
   have hc2 := HS.out.c2
   have hc3 := HS.out.c3
   go_wp2_with fail
   refine (remoraref07_Index_Find.calls_nil a1 _).mono ?_
   rintro e w6 ⟨rfl, hb⟩
   replace HS := zA (HS.out.step hb)
   clear hb
   clear hc0 hc1 hc2 hc3
   have hc0 := HS.out.c0
   have hc1 := HS.out.c1
   have hc2 := HS.out.c2
   have hc3 := HS.out.c3
   go_wp2_with fail
   refine (ix_ints k (l0 := []) (l1 := []) rfl rfl (ix_nilrow _) (by decide) (ix_nilrow _) (by decide) HIN.out).mono ?_
   rintro e w7 ⟨rfl, hb⟩
   replace HS := zA (HS.out.step hb)
   clear hb
   clear hc0 hc1 hc2 hc3
   have hc0 := HS.out.c0
   have hc1 := HS.out.c1
   have hc2 := HS.out.c2
   have hc3 := HS.out.c3
   go_wp2_with fail
   refine (index_Index_Len.calls_nil _).mono ?_
   rintro e w8 ⟨rfl, hb⟩
   replace HS := zA (HS.out.step hb)
   clear hb
   clear hc0 hc1 hc2 hc3
   have hc0 := HS.out.c0
   have hc1 := HS.out.c1
   have hc2 := HS.out.c2
   have hc3 := HS.out.c3
   go_wp2_with fail
   refine (remoraref07_Index_Len.calls_nil _).mono ?_
   rintro e w9 ⟨rfl, hb⟩
   replace HS := zA (HS.out.step hb)
   clear hb
   clear hc0 hc1 hc2 hc3
   have hc0 := HS.out.c0
   have hc1 := HS.out.c1
   have hc2 := HS.out.c2
   have hc3 := HS.out.c3
   go_wp2_with fail
   refine (index_Index_Loads.calls_nil _).mono ?_
   rintro e w10 ⟨rfl, hb⟩
   replace HS := zA (HS.out.step hb)
   clear hb
   clear hc0 hc1 hc2 hc3
   have hc0 := HS.out.c0
   have hc1 := HS.out.c1
   have hc2 := HS.out.c2
   have hc3 := HS.out.c3
   go_wp2_with fail
   refine (remoraref07_Index_Loads.calls_nil _).mono ?_
   rintro e w11 ⟨rfl, hb⟩
   replace HS := zA (HS.out.step hb)
   clear hb
   clear hc0 hc1 hc2 hc3
   have hc0 := HS.out.c0
   have hc1 := HS.out.c1
   have hc2 := HS.out.c2
   have hc3 := HS.out.c3
   go_wp2_with fail
   refine (ix_ints k (l0 := []) (l1 := []) rfl rfl (ix_nilrow _) (by decide) (ix_nilrow _) (by decide) HIN.out).mono ?_
   rintro e w12 ⟨rfl, hb⟩
   replace HS := zA (HS.out.step hb)
   clear hb
   clear hc0 hc1 hc2 hc3
   have hc0 := HS.out.c0
   have hc1 := HS.out.c1
   have hc2 := HS.out.c2
   have hc3 := HS.out.c3
   go_wp2_with fail
   refine (remoralaw07_awake.calls k r _ HAW.out).mono ?_
   rintro e wz ⟨rfl, hb⟩
   replace HS := zA (HS.out.step hb)
   clear hb
   go_wp2_with fail
   go_ret
   exact ⟨rfl, HS.out.bl⟩




/-- THE ONE PURE STATEMENT of remoralaw07_IndexFinds. -/
def remoralaw07_IndexFinds.Pure : Prop := ∀ (a0_0 : Int) (a0_1 : Int) (a0_2 : Int) (l0_3 : List (S44)) (a1 : Int), (Lit.int .i64 a0_0).wf = true → (Lit.int .i64 a0_1).wf = true → (Lit.int .i64 a0_2).wf = true → (l0_3.length ≤ maxLen ∧ ∀ q0_ ∈ l0_3, ((Lit.int .u32 q0_.f0).wf = true ∧ q0_.f1.size ≤ maxLen)) → (Lit.int .u32 a1).wf = true → ∃ k, remoralaw07_IndexFinds.f k a0_0 a0_1 a0_2 l0_3 a1 = some true

end Go.Proofs.Ytlndkemblbbfaaa.PIndexFinds
