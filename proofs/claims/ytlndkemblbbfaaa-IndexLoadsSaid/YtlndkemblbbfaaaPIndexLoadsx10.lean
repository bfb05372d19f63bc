-- Written by a program of this session (the kit's printer with hand-written contracts among its functions).
-- squeezed
import Derived.Test.YtlndkemblbbfaaaPIndexLoadsx0
import Derived.Test.YtlndkemblbbfaaaPIndexLoadsx1
import Derived.Test.YtlndkemblbbfaaaPIndexLoadsx2
import Derived.Test.YtlndkemblbbfaaaPIndexLoadsx8
import Derived.Test.YtlndkemblbbfaaaPIndexLoadsx9
namespace Go.Proofs.Ytlndkemblbbfaaa.PIndexLoads
open Go.RowKit Go.Proofs.YtlndkemblbbfaaaW.PrintWords Go.Proofs.YtlndkemblbbfaaaW.PrintLast Go.Proofs.YtlndkemblbbfaaaW.PrintMore
attribute [local go_sem] max2_int min2_int max_two min_two max_three min_three max_four min_four   -- for this text's walks alone
set_option linter.unusedVariables false
set_option linter.unusedSimpArgs false

/-! ### remoralaw07_IndexLoads: function 7 -/
theorem ixis_len {g : Nat} {l : List S44} {s b : Int} {w : World} (hx : IxIs w g l s b) :
    Calls Try.prog 20 #[.pointer (some ⟨g, 0, none⟩)] w fun e w' => e = .returned (.int .i64 (l.length : Int)) ∧ Below w.heap.size w w' := by
 obtain ⟨A0, c0, A3, c3, h1, h2, h3, h4, h5⟩ := hx
 exact index_Index_Len.calls g A0 c0 l s b A3 c3 (ixChains l) _ w h2 h3 h4 h5 h1 rfl
-- parts: ixis_len.txt
/-! ### IndexLoads, by hand -/
/-- The two sums over the loads: of the numbers, and of each times its place. -/
def ldSum (D : List Int) : Nat → Int × Int
 | 0 => (0, 0)
 | i + 1 => (wrap64 ((ldSum D i).1 + D.getD i 0), wrap64 ((ldSum D i).2 + wrap64 ((i : Int) * D.getD i 0)))
def remoralaw07_IndexLoads.f (k : Nat) (a0_0 a0_1 a0_2 : Int) (l0_3 : List S44) : Option Bool :=
 (sig_Check.f a0_0 a0_1 a0_2 l0_3).bind fun c =>
 (remoraref06_Check.f k a0_0 a0_1 a0_2 l0_3).bind fun d =>
 if c = d then
  if c = 0 then
   (index_Index_Loads.f k l0_3 a0_0 a0_1 (ixChains l0_3)).bind fun D =>
   if l0_3.length ≤ 1000000 ∧ D.length ≤ 1000001 ∧ (ldSum D D.length).1 = (ixHeads l0_3.length : Int) ∧ (ldSum D D.length).2 = (l0_3.length : Int) ∧ (D.length = 1 ↔ l0_3.length = 0) then remoralaw07_awake.f k else none
  else remoralaw07_awake.f k
 else none
set_option maxHeartbeats 16000000 in
set_option maxRecDepth 100000 in
theorem remoralaw07_IndexLoads.calls (k : Nat) (a0_0 a0_1 a0_2 : Int) (A0_3 : Option Addr) (c0_3 : Nat) (l0_3 : List S44) (r : Bool) (w : World) (hr0_3 : Kd.C k44 w A0_3 l0_3.length l0_3) (hc0_3 : l0_3.length ≤ c0_3) (h : remoralaw07_IndexLoads.f k a0_0 a0_1 a0_2 l0_3 = some r) :
    Calls Try.prog 7 #[.agg #[.int .i64 a0_0, .int .i64 a0_1, .int .i64 a0_2, .slice A0_3 l0_3.length c0_3]] w fun e w' => e = .returned (.bool r) ∧ Below w.heap.size w w' := by
 have hu := Try.underlying24
 have HR := zA hr0_3
 have HC := zA hc0_3
 clear hr0_3 hc0_3
 unfold remoralaw07_IndexLoads.f at h
 obtain ⟨c, hck, h2⟩ := ob_ h
 clear h
 obtain ⟨d, hrk, h3⟩ := ob_ h2
 clear h2
 obtain ⟨hcd, h⟩ := oi_ h3
 clear h3
 subst hcd
 have HCK := zA hck
 have HRK := zA hrk
 clear hck hrk
 go_enter Try.func7, Try.ntmps7
 by_cases h0 : c = 0
 ·subst h0
  rw [if_pos rfl] at h
  obtain ⟨D, hld, h4⟩ := ob_ h
  clear h
  obtain ⟨⟨hl6, hD6, hs1, hs2, hiff⟩, h⟩ := oi_ h4
  clear h4
  have HLD : Aside0 (index_Index_Loads.f k l0_3 a0_0 a0_1 (ixChains l0_3) = some D) := ⟨hld⟩
  have HLL := zA hl6
  have HD6 := zA hD6
  have HS1 := zA (And.intro hs1 hs2)
  have HIF := zA hiff
  have HAW := zA h
  clear hld hl6 hD6 hs1 hs2 hiff h
  go_wp2_with (first | ((with_reducible refine gate_dst (N := 1) rfl ?_); refine box_event ?hg (N := 1) ?hd (cs := #[.int .i64 a0_0, .int .i64 a0_1, .int .i64 a0_2, .slice A0_3 l0_3.length c0_3]) (t := 24) ?hr ?_; (case hd => rfl); (case hg => rfl); (case hr => first | (go_simp; done) | (go_simp; rfl)); intro gs hgs w1 hA hq; have HS : Aside0 (LwS w w1 gs a0_0 a0_1 a0_2 A0_3 c0_3 l0_3) := ⟨⟨hA, Kd.C_below HR.out hq, hq⟩⟩; have hc0 := HS.out.c0; have hc1 := HS.out.c1; have hc2 := HS.out.c2; have hc3 := HS.out.c3; clear hA hq hgs))
  refine (ixis_new a0_0 a0_1 a0_2 A0_3 c0_3 l0_3 _ rfl HS.out.rd HC.out HCK.out HLL.out).mono ?_
  rintro e w2 ⟨g, rfl, hx, hb⟩
  have HX := zA hx
  clear hx
  replace HS := zA (HS.out.step hb)
  clear hb
  clear hc0 hc1 hc2 hc3
  have hc0 := HS.out.c0
  have hc1 := HS.out.c1
  have hc2 := HS.out.c2
  have hc3 := HS.out.c3
  go_wp2_with fail
  refine (remoraref06_Check.calls k a0_0 a0_1 a0_2 A0_3 c0_3 l0_3 0 _ HS.out.rd HC.out HRK.out).mono ?_
  rintro e w3 ⟨rfl, hb⟩
  replace HX := zA (HX.out.below hb)
  replace HS := zA (HS.out.step hb)
  clear hb
  clear hc0 hc1 hc2 hc3
  have hc0 := HS.out.c0
  have hc1 := HS.out.c1
  have hc2 := HS.out.c2
  have hc3 := HS.out.c3
  go_wp2_with fail
  refine (ixis_loads HX.out HLD.out).mono ?_
  rintro e w4 ⟨A1, c1, rfl, hr1, hl1, hb⟩
  have HR1 := zA hr1
  have HC1 := zA hl1
  clear hr1 hl1
  replace HX := zA (HX.out.below hb)
  replace HS := zA (HS.out.step hb)
  clear hb
  clear hc0 hc1 hc2 hc3
  have hc0 := HS.out.c0
  have hc1 := HS.out.c1
  have hc2 := HS.out.c2
  have hc3 := HS.out.c3
  obtain ⟨dn, hdn⟩ : ∃ dn : Nat, dn = D.length := ⟨_, rfl⟩
  have HDN := zA hdn
  rw [← hdn] at HR1 HC1 HD6 HS1 HIF ⊢
  clear hdn
  go_wp2_with fail
  go_loopg [6, 7, 8] (dn + 1) (fun kq v6 v7 v8 w' => ∃ i : Nat, v6 = .int .i64 (ldSum D i).1 ∧ v7 = .int .i64 (ldSum D i).2 ∧ v8 = .int .i64 (i : Int) ∧ Aside0 (i + kq = dn + 1 ∧ i ≤ dn) ∧ Aside0 (IxIs w' g l0_3 a0_0 a0_1) ∧ Aside0 (LwS w w' gs a0_0 a0_1 a0_2 A0_3 c0_3 l0_3) ∧ Aside0 (Kd.C (Kd.int .i64) w' A1 dn D))
  case atStart => exact ⟨0, rfl, rfl, rfl, ⟨by omega, by omega⟩, HX, HS, HR1⟩
  case round =>
   clear HX HS HR1 hc0 hc1 hc2 hc3
   obtain ⟨i, rfl, rfl, rfl, HK, HX, HS, HR1⟩ := hrel
   obtain ⟨s1, hs1⟩ : ∃ s1, s1 = (ldSum D i).1 := ⟨_, rfl⟩
   obtain ⟨s2, hs2⟩ : ∃ s2, s2 = (ldSum D i).2 := ⟨_, rfl⟩
   rw [← hs1, ← hs2]
   have HT := zA (And.intro hs1 hs2)
   clear hs1 hs2
   by_cases hlt : i < dn
   ·obtain ⟨k1, rfl⟩ : ∃ k1, gk = k1 + 1 := ⟨gk - 1, by have := HK.out.1; omega⟩
    have HL := zA hlt
    have d1 : decide ((i : Int) < (dn : Int)) = true := zd1 (by omega)
    have d2 : decide (i < dn) = true := zd1 hlt
    have p0 := eq_true (show (i : Int) < (dn : Int) by omega)
    have o0 := eq_true (show (0 : Int) ≤ (i : Int) by omega)
    obtain ⟨ad, ead, hx0⟩ := Kd.at_int HR1.out (i : Int) (by omega) (by omega)
    cases ead
    obtain ⟨x, hx⟩ : ∃ x, x = rd D (i : Int) := ⟨_, rfl⟩
    rw [← hx] at hx0
    try rw [Int.toNat_natCast] at hx0
    have HV := zA hx
    clear hx hlt
    go_wp2_with fail
    rw [show wrap64 ((i : Int) + 1) = ((i + 1 : Nat) : Int) by have := HD6.out; have := HL.out; unfold wrap64; omega]
    go_roundg k1
    case measure => have := HK.out.1; omega
    case rel =>
     have hxv : x = D.getD i 0 := by rw [HV.out]; unfold rd; rw [Int.toNat_natCast]
     refine ⟨i + 1, ?_, ?_, rfl, ⟨by have := HK.out.1; omega, by have := HL.out; omega⟩, HX, HS, HR1⟩
     ·rw [HT.out.1, hxv]; rfl
     ·rw [HT.out.2, hxv]; rfl
   ·have hme : dn = i := by have := HK.out.2; omega
    subst hme
    have d1 : decide ((dn : Int) < (dn : Int)) = false := zd2 (by omega)
    have d2 : decide (dn < dn) = false := zd2 (by omega)
    have hc3 := HS.out.c3
    obtain ⟨m, hm⟩ : ∃ m : Nat, m = l0_3.length := ⟨_, rfl⟩
    have HM := zA hm
    have e1 : s1 = (ixHeads m : Int) := by rw [HT.out.1, HS1.out.1, hm]
    have e2 : s2 = (m : Int) := by rw [HT.out.2, HS1.out.2, hm]
    rw [← hm] at hc3 ⊢
    subst e1
    subst e2
    have hs1 := ixHeads_le (show m ≤ 1000000 by have := HLL.out; omega)
    have HH1 := zA hs1
    have HN := zA (show m ≤ 1000000 by have := HLL.out; omega)
    clear hlt HT HS1 HK hm hs1
    go_wp2_with fail
    go_loopg [9] m (fun kq v9 w' => ∃ h : Nat, v9 = .int .i64 (h : Int) ∧ Aside0 (ixGrow kq h m = ixHeads m ∧ 0 < h ∧ h ≤ 2000000 ∧ m ≤ h + kq) ∧ Aside0 (IxIs w' g l0_3 a0_0 a0_1) ∧ Aside0 (LwS w w' gs a0_0 a0_1 a0_2 A0_3 c0_3 l0_3))
    case atStart => exact ⟨1, rfl, ⟨rfl, by omega, by omega, by omega⟩, HX, HS⟩
    case round =>
     clear HX HS HR1 hc3
     obtain ⟨h, rfl, HI, HX, HS⟩ := hrel
     have hc3 := HS.out.c3
     rw [← HM.out] at hc3
     by_cases hlt : h < m
     ·obtain ⟨k1, rfl⟩ : ∃ k1, gk = k1 + 1 := ⟨gk - 1, by have := HI.out.2.2.2; omega⟩
      have HL := zA hlt
      have d1 : decide ((h : Int) < (m : Int)) = true := zd1 (by omega)
      have d2 : decide (h < m) = true := zd1 hlt
      have e1 : wrap64 (2 * (h : Int)) = ((h * 2 : Nat) : Int) := by have := HI.out.2.2.1; unfold wrap64; omega
      clear hlt
      go_wp2_with fail
      rw [e1]
      go_roundg k1
      case measure => omega
      case rel => exact ⟨h * 2, rfl, ⟨by rw [← HI.out.1, ixGrow_step HL.out], by have := HI.out.2.1; omega, by have := HL.out; have := HN.out; omega, by have := HI.out.2.1; have := HI.out.2.2.2; omega⟩, HX, HS⟩
     ·have hge : h = ixHeads m := by rw [← HI.out.1, ixGrow_end hlt]
      have d1 : decide ((h : Int) < (m : Int)) = false := zd2 (by omega)
      have d2 : decide (h < m) = false := zd2 hlt
      rw [← hge]
      have b1 : ((h : Int) == (h : Int)) = true := beq_self_eq_true _
      have b2 : ((m : Int) == (m : Int)) = true := beq_self_eq_true _
      have b3 : ((dn : Int) == 1) = ((m : Int) == 0) := by
       have h5 := HIF.out
       rw [← HM.out] at h5
       rw [Bool.eq_iff_iff, beq_iff_eq, beq_iff_eq]
       omega
      have b4 : ((m : Int) == 0) == ((m : Int) == 0) := beq_self_eq_true _
      clear HI hlt hge
      go_wp2_with fail
      refine (ixis_len HX.out).mono ?_
      rintro e w5 ⟨rfl, hb⟩
      replace HX := zA (HX.out.below hb)
      replace HS := zA (HS.out.step hb)
      clear hb hc3
      rw [← HM.out]
      go_wp2_with fail
      refine (remoralaw07_awake.calls k r _ HAW.out).mono ?_
      rintro e wz ⟨rfl, hb⟩
      replace HS := zA (HS.out.step hb)
      clear hb
      go_wp2_with fail
      go_ret
      exact ⟨rfl, HS.out.bl⟩
 ·rw [if_neg h0] at h
  have HAW := zA h
  have d1 : (c != 0) = true := by simpa using h0
  have dc : (c == c) = true := beq_self_eq_true _
  clear h
  go_wp2_with (first | ((with_reducible refine gate_dst (N := 1) rfl ?_); refine box_event ?hg (N := 1) ?hd (cs := #[.int .i64 a0_0, .int .i64 a0_1, .int .i64 a0_2, .slice A0_3 l0_3.length c0_3]) (t := 24) ?hr ?_; (case hd => rfl); (case hg => rfl); (case hr => first | (go_simp; done) | (go_simp; rfl)); intro gs hgs w1 hA hq; have HS : Aside0 (LwS w w1 gs a0_0 a0_1 a0_2 A0_3 c0_3 l0_3) := ⟨⟨hA, Kd.C_below HR.out hq, hq⟩⟩; have hc0 := HS.out.c0; have hc1 := HS.out.c1; have hc2 := HS.out.c2; have hc3 := HS.out.c3; clear hA hq hgs))
  refine (index_New.calls_bad a0_0 a0_1 a0_2 A0_3 c0_3 l0_3 c _ HS.out.rd HC.out HCK.out h0).mono ?_
  rintro e w2 ⟨rfl, hb⟩
  replace HS := zA (HS.out.step hb)
  clear hb
  clear hc0 hc1 hc2 hc3
  have hc0 := HS.out.c0
  have hc1 := HS.out.c1
  have hc2 := HS.out.c2
  have hc3 := HS.out.c3
  go_wp2_with fail
  refine (remoraref06_Check.calls k a0_0 a0_1 a0_2 A0_3 c0_3 l0_3 c _ HS.out.rd HC.out HRK.out).mono ?_
  rintro e w3 ⟨rfl, hb⟩
  replace HS := zA (HS.out.step hb)
  clear hb
  clear hc0 hc1 hc2 hc3
  have hc0 := HS.out.c0
  have hc1 := HS.out.c1
  have hc2 := HS.out.c2
  have hc3 := HS.out.c3
  go_wp2_with fail
  refine (remoraref06_Check.calls k a0_0 a0_1 a0_2 A0_3 c0_3 l0_3 c _ HS.out.rd HC.out HRK.out).mono ?_
  rintro e w4 ⟨rfl, hb⟩
  replace HS := zA (HS.out.step hb)
  clear hb
  clear hc0 hc1 hc2 hc3
  have hc0 := HS.out.c0
  have hc1 := HS.out.c1
  have hc2 := HS.out.c2
  have hc3 := HS.out.c3
  go_wp2_with fail
  refine (remoralaw07_awake.calls k r _ HAW.out).mono ?_
  rintro e wz ⟨rfl, hb⟩
  replace HS := zA (HS.out.step hb)
  clear hb
  go_wp2_with fail
  go_ret
  exact ⟨rfl, HS.out.bl⟩




/-- THE ONE PURE STATEMENT of remoralaw07_IndexLoads. -/
def remoralaw07_IndexLoads.Pure : Prop := ∀ (a0_0 : Int) (a0_1 : Int) (a0_2 : Int) (l0_3 : List (S44)), (Lit.int .i64 a0_0).wf = true → (Lit.int .i64 a0_1).wf = true → (Lit.int .i64 a0_2).wf = true → (l0_3.length ≤ maxLen ∧ ∀ q0_ ∈ l0_3, ((Lit.int .u32 q0_.f0).wf = true ∧ q0_.f1.size ≤ maxLen)) → ∃ k, remoralaw07_IndexLoads.f k a0_0 a0_1 a0_2 l0_3 = some true

end Go.Proofs.Ytlndkemblbbfaaa.PIndexLoads
