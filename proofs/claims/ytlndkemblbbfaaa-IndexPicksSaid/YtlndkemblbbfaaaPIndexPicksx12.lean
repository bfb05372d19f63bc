-- Written by a program of this session (the kit's printer with hand-written contracts among its functions).
-- squeezed
import Derived.Test.YtlndkemblbbfaaaPIndexPicksx0
import Derived.Test.YtlndkemblbbfaaaPIndexPicksx1
import Derived.Test.YtlndkemblbbfaaaPIndexPicksx2
import Derived.Test.YtlndkemblbbfaaaPIndexPicksx4
import Derived.Test.YtlndkemblbbfaaaPIndexPicksx9
import Derived.Test.YtlndkemblbbfaaaPIndexPicksx11
namespace Go.Proofs.Ytlndkemblbbfaaa.PIndexPicks
open Go.RowKit Go.Proofs.YtlndkemblbbfaaaW.PrintWords Go.Proofs.YtlndkemblbbfaaaW.PrintLast Go.Proofs.YtlndkemblbbfaaaW.PrintMore
attribute [local go_sem] max2_int min2_int max_two min_two max_three min_three max_four min_four   -- for this text's walks alone
set_option linter.unusedVariables false
set_option linter.unusedSimpArgs false

/-! ### remoralaw07_IndexPicks: function 3 -/
theorem index_Index_Pick.calls_nil (a1 : Int) (a2 : ByteArray) (a3 : Int) (a4 : Int) (w : World) : Calls Try.prog 13 #[.pointer none, .int .u32 a1, .string a2, .int .i64 a3, .int .i64 a4] w fun e w' => e = .returned (.tuple #[.int .i64 0, .bool false]) ∧ Below w.heap.size w w' := by
 go_enter Try.func13, Try.ntmps13
 go_wp2
 refine bodyPost_ret (results_tmp2 rfl _ _ _) rfl ?_
 exact ⟨rfl, by repeat (first | exact Below.refl _ _ | apply zb1)⟩
theorem remoraref07_Index_Find.calls_nil (a1 : Int) (w : World) : Calls Try.prog 19 #[.pointer none, .int .u32 a1] w fun e w' => e = .returned (.slice none 0 0) ∧ Below w.heap.size w w' := by
 go_enter Try.func19, Try.ntmps19
 go_wp2
 go_ret
 exact ⟨rfl, by repeat (first | exact Below.refl _ _ | apply zb1)⟩
theorem remoraref07_Index_Pick.calls_nil (a1 : Int) (a2 : ByteArray) (a3 : Int) (a4 : Int) (w : World) : Calls Try.prog 14 #[.pointer none, .int .u32 a1, .string a2, .int .i64 a3, .int .i64 a4] w fun e w' => e = .returned (.tuple #[.int .i64 0, .bool false]) ∧ Below w.heap.size w w' := by
 go_enter Try.func14, Try.ntmps14
 go_wp2_with fail
 refine (remoraref07_Index_Find.calls_nil a1 _).mono ?_
 rintro e w1 ⟨rfl, hb⟩
 have HB := zA hb
 clear hb
 go_wp2_with fail
 go_loopg [12, 14] 1 (fun kq v12 v14 w' => v12 = .int .i64 (-1) ∧ v14 = .int .i64 0 ∧ Aside0 (Below w.heap.size w w'))
 case atStart => exact ⟨rfl, rfl, ⟨by repeat (first | exact HB.out | apply zb2 | apply zb1)⟩⟩
 case round =>
  clear HB
  obtain ⟨rfl, rfl, HB⟩ := hrel
  go_wp2_with fail
  go_ret2
  exact ⟨rfl, by repeat (first | exact HB.out | apply zb2 | apply zb1)⟩
def RxIs (w : World) (g : Nat) (a0 a1 a2 : Int) (l : List S44) : Prop := ∃ (A : Option Addr) (c : Nat), w.heap[g]? = some (.cells #[.int .i64 a0, .int .i64 a1, .int .i64 a2, .slice A l.length c] 64 (0, 0)) ∧ Kd.C k44 w A l.length l ∧ l.length ≤ c
theorem RxIs.below {w w1 : World} {g : Nat} {a0 a1 a2 : Int} {l : List S44} (h : RxIs w g a0 a1 a2 l) (hb : Below w.heap.size w w1) : RxIs w1 g a0 a1 a2 l := by
 obtain ⟨A, c, h1, h2, h3⟩ := h
 exact ⟨A, c, zc6 h1 hb, Kd.C_below h2 hb, h3⟩
theorem rxis_new (k : Nat) (a0_0 : Int) (a0_1 : Int) (a0_2 : Int) (A0_3 : Option Addr) (c0_3 : Nat) (l0_3 : List S44) (w : World) (hr0_3 : Kd.C k44 w A0_3 l0_3.length l0_3) (hc0_3 : l0_3.length ≤ c0_3) (h : remoraref06_Check.f k a0_0 a0_1 a0_2 l0_3 = some 0) :
    Calls Try.prog 12 #[.agg #[.int .i64 a0_0, .int .i64 a0_1, .int .i64 a0_2, .slice A0_3 l0_3.length c0_3]] w fun e w' => ∃ g : Nat, e = .returned (.tuple #[.pointer (some ⟨g, 0, none⟩), .int .i64 0]) ∧ RxIs w' g a0_0 a0_1 a0_2 l0_3 ∧ Below w.heap.size w w' := by
 refine (remoraref07_New.calls_ok k a0_0 a0_1 a0_2 A0_3 c0_3 l0_3 w hr0_3 hc0_3 h).mono ?_
 rintro e w' ⟨g, rfl, _, h1, hb⟩
 exact ⟨g, rfl, ⟨A0_3, c0_3, h1, Kd.C_below hr0_3 hb, hc0_3⟩, hb⟩
theorem rxis_pick {g : Nat} {a0 b0 a2 : Int} {l : List S44} {w : World} (hx : RxIs w g a0 b0 a2 l) {k : Nat} {x1 : Int} {x2 : ByteArray} {x3 x4 : Int} {r1 : Int} {r2 : Bool} (h : remoraref07_Index_Pick.f k a0 b0 a2 l x1 x2 x3 x4 = some (r1, r2)) :
    Calls Try.prog 14 #[.pointer (some ⟨g, 0, none⟩), .int .u32 x1, .string x2, .int .i64 x3, .int .i64 x4] w fun e w' => e = .returned (.tuple #[.int .i64 r1, .bool r2]) ∧ Below w.heap.size w w' := by
 obtain ⟨A0, c0, h1, h2, h3⟩ := hx
 exact remoraref07_Index_Pick.calls g k a0 b0 a2 A0 c0 l x1 x2 x3 x4 r1 r2 w h2 h3 h1 h
/-- What is looked for, in its box. -/
structure LwQ (w w' : World) (gq : Nat) (a0 : Int) (a1 : ByteArray) (a2 a3 : Int) : Prop where
 bs : w'.heap[gq]? = some (.cells #[.int .u32 a0, .string a1, .int .i64 a2, .int .i64 a3] 27 (0, 0))
 bl : Below w.heap.size w w'
section
variable {w w' w2 : World} {gq : Nat} {a0 : Int} {a1 : ByteArray} {a2 a3 : Int}
theorem LwQ.step (h : LwQ w w' gq a0 a1 a2 a3) (hb : Below w'.heap.size w' w2) : LwQ w w2 gq a0 a1 a2 a3 := ⟨zc6 h.bs hb, zb5 h.bl hb⟩
theorem LwQ.c0 (h : LwQ w w' gq a0 a1 a2 a3) : w'.cell? ⟨gq, 0, none⟩ = some (.int .u32 a0) := (zc1 h.bs 0).trans rfl
theorem LwQ.c1 (h : LwQ w w' gq a0 a1 a2 a3) : w'.cell? ⟨gq, 1, none⟩ = some (.string a1) := (zc1 h.bs 1).trans rfl
theorem LwQ.c2 (h : LwQ w w' gq a0 a1 a2 a3) : w'.cell? ⟨gq, 2, none⟩ = some (.int .i64 a2) := (zc1 h.bs 2).trans rfl
theorem LwQ.c3 (h : LwQ w w' gq a0 a1 a2 a3) : w'.cell? ⟨gq, 3, none⟩ = some (.int .i64 a3) := (zc1 h.bs 3).trans rfl
end
-- parts: nil_index_Index_Pick.txt nil_remoraref07_Index_Find.txt nil_remoraref07_Index_Pick.txt rxis.txt rxis_pick.txt lwq.txt
/-! ### IndexPicks, by hand -/
def remoralaw07_IndexPicks.f (k : Nat) (a0_0 a0_1 a0_2 : Int) (l0_3 : List S44) (a1_0 : Int) (a1_1 : ByteArray) (a1_2 a1_3 : Int) : Option Bool :=
 if l0_3.length > 400 then remoralaw07_awake.f k else
 (sig_Check.f a0_0 a0_1 a0_2 l0_3).bind fun c =>
 (remoraref06_Check.f k a0_0 a0_1 a0_2 l0_3).bind fun d =>
 if c = d then
  if c = 0 then
   (index_Index_Pick.f k l0_3 a0_0 a0_1 (ixChains l0_3) a1_0 a1_1 a1_2 a1_3).bind fun p =>
   (remoraref07_Index_Pick.f k a0_0 a0_1 a0_2 l0_3 a1_0 a1_1 a1_2 a1_3).bind fun q =>
   if p = q then remoralaw07_awake.f k else none
  else remoralaw07_awake.f k
 else none
set_option maxHeartbeats 16000000 in
set_option maxRecDepth 100000 in
theorem remoralaw07_IndexPicks.calls (k : Nat) (a0_0 a0_1 a0_2 : Int) (A0_3 : Option Addr) (c0_3 : Nat) (l0_3 : List S44) (a1_0 : Int) (a1_1 : ByteArray) (a1_2 a1_3 : Int) (r : Bool) (w : World) (hr0_3 : Kd.C k44 w A0_3 l0_3.length l0_3) (hc0_3 : l0_3.length ≤ c0_3) (h : remoralaw07_IndexPicks.f k a0_0 a0_1 a0_2 l0_3 a1_0 a1_1 a1_2 a1_3 = some r) :
    Calls Try.prog 3 #[.agg #[.int .i64 a0_0, .int .i64 a0_1, .int .i64 a0_2, .slice A0_3 l0_3.length c0_3], .agg #[.int .u32 a1_0, .string a1_1, .int .i64 a1_2, .int .i64 a1_3]] w fun e w' => e = .returned (.bool r) ∧ Below w.heap.size w w' := by
 have hu := Try.underlying24
 have hu2 := Try.underlying27
 have HR := zA hr0_3
 have HC := zA hc0_3
 have H := zA h
 clear hr0_3 hc0_3 h
 go_enter Try.func3, Try.ntmps3
 go_wp2_with (first | ((with_reducible refine gate_dst (N := 2) rfl ?_); refine box_event ?hg (N := 2) ?hd (cs := #[.int .i64 a0_0, .int .i64 a0_1, .int .i64 a0_2, .slice A0_3 l0_3.length c0_3]) (t := 24) ?hr ?_; (case hd => rfl); (case hg => rfl); (case hr => first | (go_simp; done) | (go_simp; rfl)); intro gs hgs w0 hA hq; have HS0 : Aside0 (LwS w w0 gs a0_0 a0_1 a0_2 A0_3 c0_3 l0_3) := ⟨⟨hA, Kd.C_below HR.out hq, hq⟩⟩; clear hA hq hgs) | ((with_reducible refine gate_dst (N := 3) rfl ?_); refine box_event ?hg (N := 3) ?hd (cs := #[.int .u32 a1_0, .string a1_1, .int .i64 a1_2, .int .i64 a1_3]) (t := 27) ?hr ?_; (case hd => rfl); (case hg => rfl); (case hr => first | (go_simp; done) | (go_simp; rfl)); intro gq hgq w1 hA hq; have HQ : Aside0 (LwQ w w1 gq a1_0 a1_1 a1_2 a1_3) := ⟨⟨hA, zb5 HS0.out.bl hq⟩⟩; have HS := zA (HS0.out.step hq); have hc0 := HS.out.c0; have hc1 := HS.out.c1; have hc2 := HS.out.c2; have hc3 := HS.out.c3; have hd0 := HQ.out.c0; have hd1 := HQ.out.c1; have hd2 := HQ.out.c2; have hd3 := HQ.out.c3; clear hA hq hgq HS0))
 refine (remoralaw07_great.calls a0_0 a0_1 a0_2 A0_3 c0_3 l0_3 _ _ HS.out.rd HC.out rfl).mono ?_
 rintro e w2 ⟨rfl, hb⟩
 replace HS := zA (HS.out.step hb)
 replace HQ := zA (HQ.out.step hb)
 clear hb
 clear hc0 hc1 hc2 hc3
 clear hd0 hd1 hd2 hd3
 have hc0 := HS.out.c0
 have hc1 := HS.out.c1
 have hc2 := HS.out.c2
 have hc3 := HS.out.c3
 have hd0 := HQ.out.c0
 have hd1 := HQ.out.c1
 have hd2 := HQ.out.c2
 have hd3 := HQ.out.c3
 by_cases hg : (l0_3.length : Int) > 400
 ·have h := H.out
  unfold remoralaw07_IndexPicks.f at h
  rw [if_pos (by omega)] at h
  have HAW := zA h
  rw [zd1 hg]
  clear h H hg
  go_wp2_with fail
  refine (remoralaw07_awake.calls k r _ HAW.out).mono ?_
  rintro e wz ⟨rfl, hb⟩
  replace HS := zA (HS.out.step hb)
  clear hb
  go_wp2_with fail
  go_ret
  exact ⟨rfl, HS.out.bl⟩
 ·have h := H.out
  unfold remoralaw07_IndexPicks.f at h
  rw [if_neg (by omega)] at h
  have HLN := zA (show l0_3.length ≤ 400 by omega)
  rw [zd2 hg]
  clear H hg
  obtain ⟨c, hck, h2⟩ := ob_ h
  clear h
  obtain ⟨d, hrk, h3⟩ := ob_ h2
  clear h2
  obtain ⟨hcd, h⟩ := oi_ h3
  clear h3
  subst hcd
  have HCK := zA hck
  have HRK := zA hrk
  clear hck hrk
  by_cases h0 : c = 0
  ·subst h0
   rw [if_pos rfl] at h
   obtain ⟨⟨p1, p2⟩, hpk, h2⟩ := ob_ h
   clear h
   obtain ⟨⟨q1, q2⟩, hrp, h3⟩ := ob_ h2
   clear h2
   obtain ⟨hpq, h⟩ := oi_ h3
   clear h3
   obtain ⟨rfl, rfl⟩ : p1 = q1 ∧ p2 = q2 := by simpa using hpq
   have HPK : Aside0 (index_Index_Pick.f k l0_3 a0_0 a0_1 (ixChains l0_3) a1_0 a1_1 a1_2 a1_3 = some (p1, p2)) := ⟨hpk⟩
   have HRP := zA hrp
   have HAW := zA h
   clear hpk hrp hpq h
   have d1 : (p1 == p1) = true := beq_self_eq_true _
   have d2 : (p2 == p2) = true := beq_self_eq_true _
   go_wp2_with fail
   refine (ixis_new a0_0 a0_1 a0_2 A0_3 c0_3 l0_3 _ rfl HS.out.rd HC.out HCK.out (by have := HLN.out; omega)).mono ?_
   rintro e w3 ⟨g, rfl, hx, hb⟩
   have HX := zA hx
   clear hx
   replace HS := zA (HS.out.step hb)
   replace HQ := zA (HQ.out.step hb)
   clear hb
   clear hc0 hc1 hc2 hc3
   clear hd0 hd1 hd2 hd3
   have hc0 := HS.out.c0
   have hc1 := HS.out.c1
   have hc2 := HS.out.c2
   have hc3 := HS.out.c3
   have hd0 := HQ.out.c0
   have hd1 := HQ.out.c1
   have hd2 := HQ.out.c2
   have hd3 := HQ.out.c3
   go_wp2_with fail
   refine (rxis_new k a0_0 a0_1 a0_2 A0_3 c0_3 l0_3 _ HS.out.rd HC.out HRK.out).mono ?_
   rintro e w4 ⟨q, rfl, hx, hb⟩
   have HY := zA hx
   clear hx
   replace HX := zA (HX.out.below hb)
   replace HS := zA (HS.out.step hb)
   replace HQ := zA (HQ.out.step hb)
   clear hb
   clear hc0 hc1 hc2 hc3
   clear hd0 hd1 hd2 hd3
   have hc0 := HS.out.c0
   have hc1 := HS.out.c1
   have hc2 := HS.out.c2
   have hc3 := HS.out.c3
   have hd0 := HQ.out.c0
   have hd1 := HQ.out.c1
   have hd2 := HQ.out.c2
   have hd3 := HQ.out.c3
   go_wp2_with fail
   refine (ixis_pick HX.out HPK.out).mono ?_
   rintro e w5 ⟨rfl, hb⟩
   replace HX := zA (HX.out.below hb)
   replace HY := zA (HY.out.below hb)
   replace HS := zA (HS.out.step hb)
   replace HQ := zA (HQ.out.step hb)
   clear hb
   clear hc0 hc1 hc2 hc3
   clear hd0 hd1 hd2 hd3
   have hc0 := HS.out.c0
   have hc1 := HS.out.c1
   have hc2 := HS.out.c2
   have hc3 := HS.out.c3
   have hd0 := HQ.out.c0
   have hd1 := HQ.out.c1
   have hd2 := HQ.out.c2
   have hd3 := HQ.out.c3
   go_wp2_with fail
   refine (rxis_pick HY.out HRP.out).mono ?_
   rintro e w6 ⟨rfl, hb⟩
   replace HX := zA (HX.out.below hb)
   replace HY := zA (HY.out.below hb)
   replace HS := zA (HS.out.step hb)
   replace HQ := zA (HQ.out.step hb)
   clear hb
   clear hc0 hc1 hc2 hc3
   clear hd0 hd1 hd2 hd3
   have hc0 := HS.out.c0
   have hc1 := HS.out.c1
   have hc2 := HS.out.c2
   have hc3 := HS.out.c3
   have hd0 := HQ.out.c0
   have hd1 := HQ.out.c1
   have hd2 := HQ.out.c2
   have hd3 := HQ.out.c3
   go_wp2_with fail
   refine (remoralaw07_awake.calls k r _ HAW.out).mono ?_
   rintro e wz ⟨rfl, hb⟩
   replace HS := zA (HS.out.step hb)
   clear hb
   go_wp2_with fail
   go_ret
   exact ⟨rfl, HS.out.bl⟩
  ·rw [if_neg h0] at h
   have HAW := zA h
   clear h
   have dc : (c == c) = true := beq_self_eq_true _
   have dd : (c != c) = false := by simp
   go_wp2_with fail
   refine (index_New.calls_bad a0_0 a0_1 a0_2 A0_3 c0_3 l0_3 c _ HS.out.rd HC.out HCK.out h0).mono ?_
   rintro e w3 ⟨rfl, hb⟩
   replace HS := zA (HS.out.step hb)
   replace HQ := zA (HQ.out.step hb)
   clear hb
   clear hc0 hc1 hc2 hc3
   clear hd0 hd1 hd2 hd3
   have hc0 := HS.out.c0
   have hc1 := HS.out.c1
   have hc2 := HS.out.c2
   have hc3 := HS.out.c3
   have hd0 := HQ.out.c0
   have hd1 := HQ.out.c1
   have hd2 := HQ.out.c2
   have hd3 := HQ.out.c3
   go_wp2_with fail
   refine (remoraref07_New.calls_bad k a0_0 a0_1 a0_2 A0_3 c0_3 l0_3 c _ HS.out.rd HC.out HRK.out h0).mono ?_
   rintro e w4 ⟨rfl, hb⟩
   replace HS := zA (HS.out.step hb)
   replace HQ := zA (HQ.out.step hb)
   clear hb
   clear hc0 hc1 hc2 hc3
   clear hd0 hd1 hd2 hd3
   have hc0 := HS.out.c0
   have hc1 := HS.out.c1
   have hc2 := HS.out.c2
   have hc3 := HS.out.c3
   have hd0 := HQ.out.c0
   have hd1 := HQ.out.c1
   have hd2 := HQ.out.c2
   have hd3 := HQ.out.c3
   go_wp2_with fail
   refine (index_Index_Pick.calls_nil a1_0 a1_1 a1_2 a1_3 _).mono ?_
   rintro e w5 ⟨rfl, hb⟩
   replace HS := zA (HS.out.step hb)
   replace HQ := zA (HQ.out.step hb)
   clear hb
   clear hc0 hc1 hc2 hc3
   clear hd0 hd1 hd2 hd3
   have hc0 := HS.out.c0
   have hc1 := HS.out.c1
   have hc2 := HS.out.c2
   have hc3 := HS.out.c3
   have hd0 := HQ.out.c0
   have hd1 := HQ.out.c1
   have hd2 := HQ.out.c2
   have hd3 := HQ.out.c3
   go_wp2_with fail
   refine (remoraref07_Index_Pick.calls_nil a1_0 a1_1 a1_2 a1_3 _).mono ?_
   rintro e w6 ⟨rfl, hb⟩
   replace HS := zA (HS.out.step hb)
   replace HQ := zA (HQ.out.step hb)
   clear hb
   clear hc0 hc1 hc2 hc3
   clear hd0 hd1 hd2 hd3
   have hc0 := HS.out.c0
   have hc1 := HS.out.c1
   have hc2 := HS.out.c2
   have hc3 := HS.out.c3
   have hd0 := HQ.out.c0
   have hd1 := HQ.out.c1
   have hd2 := HQ.out.c2
   have hd3 := HQ.out.c3
   go_wp2_with fail
   refine (remoralaw07_awake.calls k r _ HAW.out).mono ?_
   rintro e wz ⟨rfl, hb⟩
   replace HS := zA (HS.out.step hb)
   clear hb
   go_wp2_with fail
   go_ret
   exact ⟨rfl, HS.out.bl⟩




/-- THE ONE PURE STATEMENT of remoralaw07_IndexPicks. -/
def remoralaw07_IndexPicks.Pure : Prop := ∀ (a0_0 : Int) (a0_1 : Int) (a0_2 : Int) (l0_3 : List (S44)) (a1_0 : Int) (a1_1 : ByteArray) (a1_2 : Int) (a1_3 : Int), (Lit.int .i64 a0_0).wf = true → (Lit.int .i64 a0_1).wf = true → (Lit.int .i64 a0_2).wf = true → (l0_3.length ≤ maxLen ∧ ∀ q0_ ∈ l0_3, ((Lit.int .u32 q0_.f0).wf = true ∧ q0_.f1.size ≤ maxLen)) → (Lit.int .u32 a1_0).wf = true → a1_1.size ≤ maxLen → (Lit.int .i64 a1_2).wf = true → (Lit.int .i64 a1_3).wf = true → ∃ k, remoralaw07_IndexPicks.f k a0_0 a0_1 a0_2 l0_3 a1_0 a1_1 a1_2 a1_3 = some true

end Go.Proofs.Ytlndkemblbbfaaa.PIndexPicks
