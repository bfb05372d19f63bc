-- Written by a program of this session (the kit's printer with hand-written contracts among its functions).
-- squeezed
import Derived.Test.YtlndkemblbbfaaaPIndexOwnx0
import Derived.Test.YtlndkemblbbfaaaPIndexOwnx1
import Derived.Test.YtlndkemblbbfaaaPIndexOwnx2
import Derived.Test.YtlndkemblbbfaaaPIndexOwnx4
import Derived.Test.YtlndkemblbbfaaaPIndexOwnx7
import Derived.Test.YtlndkemblbbfaaaPIndexOwnx8
namespace Go.Proofs.Ytlndkemblbbfaaa.PIndexOwn
open Go.RowKit Go.Proofs.YtlndkemblbbfaaaW.PrintWords Go.Proofs.YtlndkemblbbfaaaW.PrintLast Go.Proofs.YtlndkemblbbfaaaW.PrintMore
attribute [local go_sem] max2_int min2_int max_two min_two max_three min_three max_four min_four   -- for this text's walks alone
set_option linter.unusedVariables false
set_option linter.unusedSimpArgs false

/-! ### remoralaw07_awake: function 10 -/
/-! ### An index in its block, and the methods' contracts over it -/
def IxIs (w : World) (g : Nat) (l : List S44) (s b : Int) : Prop := ∃ (A0 : Option Addr) (c0 : Nat) (A3 : Option Addr) (c3 : Nat),
 w.heap[g]? = some (.cells #[.slice A0 l.length c0, .int .i64 s, .int .i64 b, .slice A3 (ixChains l).length c3] 61 (0, 0)) ∧ Kd.C k44 w A0 l.length l ∧ l.length ≤ c0 ∧ Kd.C (Kd.slice 3 (Kd.int .i64)) w A3 (ixChains l).length (ixChains l) ∧ (ixChains l).length ≤ c3
theorem IxIs.below {w w1 : World} {g : Nat} {l : List S44} {s b : Int} (h : IxIs w g l s b) (hb : Below w.heap.size w w1) : IxIs w1 g l s b := by
 obtain ⟨A0, c0, A3, c3, h1, h2, h3, h4, h5⟩ := h
 exact ⟨A0, c0, A3, c3, zc6 h1 hb, Kd.C_below h2 hb, h3, Kd.C_below h4 hb, h5⟩
theorem ixis_new (a0_0 : Int) (a0_1 : Int) (a0_2 : Int) (A0_3 : Option Addr) (c0_3 : Nat) (l0_3 : List S44) (w : World) {n : Nat} (hn : n = l0_3.length) (hr0_3 : Kd.C k44 w A0_3 l0_3.length l0_3) (hc0_3 : l0_3.length ≤ c0_3) (h : sig_Check.f a0_0 a0_1 a0_2 l0_3 = some 0) (hlen : l0_3.length ≤ 1000000) :
    Calls Try.prog 11 #[.agg #[.int .i64 a0_0, .int .i64 a0_1, .int .i64 a0_2, .slice A0_3 n c0_3]] w fun e w' => ∃ g : Nat, e = .returned (.tuple #[.pointer (some ⟨g, 0, none⟩), .int .i64 0]) ∧ IxIs w' g l0_3 a0_0 a0_1 ∧ Below w.heap.size w w' := by
 subst hn
 refine (index_New.calls_ok a0_0 a0_1 a0_2 A0_3 c0_3 l0_3 w hr0_3 hc0_3 h hlen).mono ?_
 rintro e w' ⟨g, A0, c0, A3, c3, rfl, _, h1, h2, h3, h4, h5, hb⟩
 exact ⟨g, rfl, ⟨A0, c0, A3, c3, h1, h2, h3, h4, h5⟩, hb⟩
theorem ixis_find {g : Nat} {l : List S44} {s b : Int} {w : World} (hx : IxIs w g l s b) {k : Nat} {a1 : Int} {r : List Int} (h : index_Index_Find.f k l s b (ixChains l) a1 = some r) :
    Calls Try.prog 17 #[.pointer (some ⟨g, 0, none⟩), .int .u32 a1] w fun e w' => ∃ (A : Option Addr) (c : Nat), e = .returned (.slice A r.length c) ∧ Kd.C (Kd.int .i64) w' A r.length r ∧ r.length ≤ c ∧ Below w.heap.size w w' := by
 obtain ⟨A0, c0, A3, c3, h1, h2, h3, h4, h5⟩ := hx
 refine (index_Index_Find.calls g k A0 c0 l s b A3 c3 (ixChains l) a1 r w h2 h3 h4 h5 h1 h).mono ?_
 rintro e w' ⟨v, rfl, hR, hb⟩
 obtain ⟨A, c, rfl, hl, hr⟩ := Kd.R_reads hR
 exact ⟨A, c, rfl, hr, hl, hb⟩
theorem ixis_loads {g : Nat} {l : List S44} {s b : Int} {w : World} (hx : IxIs w g l s b) {k : Nat} {r : List Int} (h : index_Index_Loads.f k l s b (ixChains l) = some r) :
    Calls Try.prog 22 #[.pointer (some ⟨g, 0, none⟩)] w fun e w' => ∃ (A : Option Addr) (c : Nat), e = .returned (.slice A r.length c) ∧ Kd.C (Kd.int .i64) w' A r.length r ∧ r.length ≤ c ∧ Below w.heap.size w w' := by
 obtain ⟨A0, c0, A3, c3, h1, h2, h3, h4, h5⟩ := hx
 refine (index_Index_Loads.calls g k A0 c0 l s b A3 c3 (ixChains l) r w h2 h3 h4 h5 h1 h).mono ?_
 rintro e w' ⟨v, rfl, hR, hb⟩
 obtain ⟨A, c, rfl, hl, hr⟩ := Kd.R_reads hR
 exact ⟨A, c, rfl, hr, hl, hb⟩
theorem ixis_pick {g : Nat} {l : List S44} {s b : Int} {w : World} (hx : IxIs w g l s b) {k : Nat} {a1 : Int} {a2 : ByteArray} {a3 a4 : Int} {r1 : Int} {r2 : Bool} (h : index_Index_Pick.f k l s b (ixChains l) a1 a2 a3 a4 = some (r1, r2)) :
    Calls Try.prog 13 #[.pointer (some ⟨g, 0, none⟩), .int .u32 a1, .string a2, .int .i64 a3, .int .i64 a4] w fun e w' => e = .returned (.tuple #[.int .i64 r1, .bool r2]) ∧ Below w.heap.size w w' := by
 obtain ⟨A0, c0, A3, c3, h1, h2, h3, h4, h5⟩ := hx
 exact index_Index_Pick.calls g k A0 c0 l s b A3 c3 (ixChains l) a1 a2 a3 a4 r1 r2 w h2 h3 h4 h5 h1 h
theorem ix_zeros {w : World} {g n : Nat} (h : w.heap[g]? = some (.cells (ixRow (fun _ => .int .u8 0) n) 5 (0, 0))) (hn : n ≤ 1000000) : Kd.C (Kd.int .u8) w (some ⟨g, 0, none⟩) (List.replicate n (0 : Int)).length (List.replicate n 0) := by
 refine ⟨rfl, by rw [List.length_replicate]; omega, fun _ => ⟨_, rfl, fun j p hj => ⟨[.int .u8 p], rfl, rfl, fun i u hu => ?_⟩⟩⟩
 have hjn : j < n := by have h1 := (List.getElem?_eq_some_iff.1 hj).1; rwa [List.length_replicate] at h1
 cases i with
 | zero =>
  obtain rfl : Value.int .u8 p = u := by simpa using hu
  obtain rfl : 0 = p := by rw [List.getElem?_replicate, if_pos hjn] at hj; exact Option.some.inj hj
  rw [Addr.add_lit, show j * (Kd.int .u8).sz + 0 = j from Nat.mul_one j, zc1 h, Nat.zero_add, ixRow_get _ hjn]
 | succ i => simp at hu
/-- A literal row of numbers, read. -/
theorem ix_lits {w : World} {g : Nat} {xs : List Int} {cs : Array Value} (h : w.heap[g]? = some (.cells cs 3 (0, 0))) (hc : cs = (xs.map (Value.int .i64)).toArray) (hn : xs.length ≤ 1000000) : Kd.C (Kd.int .i64) w (some ⟨g, 0, none⟩) xs.length xs := by
 subst hc
 refine ⟨rfl, by omega, fun _ => ⟨_, rfl, fun j p hj => ⟨[.int .i64 p], rfl, rfl, fun i u hu => ?_⟩⟩⟩
 cases i with
 | zero =>
  obtain rfl : Value.int .i64 p = u := by simpa using hu
  rw [Addr.add_lit, show j * (Kd.int .i64).sz + 0 = j from Nat.mul_one j, zc1 h, Nat.zero_add]
  simp [hj]
 | succ i => simp at hu
theorem ix_litL {P : Program} {ops : Array Oper} {rest : List Oper} {o : Oper} {a : Act} {Q : Exit → Act → World → Prop} {W : World} (hgd : o.guard = none) {N : Tmp} (_hd : o.dst = some N) {cs : Array Value} {n : Nat} {t : TypeId}
    (hrun : (execOp a.eval o).run P W = .ok (.value (.slice (some ⟨W.heap.size, 0, none⟩) n n)) (W.alloc (.cells cs t (0, 0))))
    (h : ∀ g, g = W.heap.size → ∀ w1, w1.heap[g]? = some (.cells cs t (0, 0)) → Below W.heap.size W w1 → wpList P ops Q rest (a.put o.dst (.slice (some ⟨g, 0, none⟩) n n)) w1) : wpList P ops Q (o :: rest) a W :=
 Kd.event_run hgd hrun (h _ rfl _ (blk_new W _) (zb3 (Below.refl _ _) _))
theorem ix_of (k : Nat) {A0 : Option Addr} {c0 : Nat} {l0 : List Int} {a1 a2 r1 r2 r3 : Int} {r4 : List S44} {r5 : Int} {w : World} {n : Nat} (hn : n = l0.length) (hr0 : Kd.C (Kd.int .u8) w A0 l0.length l0) (hc0 : l0.length ≤ c0) (h : sig_Of.f k l0 a1 a2 = some (r1, r2, r3, r4, r5)) :
    Calls Try.prog 15 #[.slice A0 n c0, .int .i64 a1, .int .i64 a2] w fun e w' => ∃ (A : Option Addr) (c : Nat), e = .returned (.tuple #[.agg #[.int .i64 r1, .int .i64 r2, .int .i64 r3, .slice A r4.length c], .int .i64 r5]) ∧ Kd.C k44 w' A r4.length r4 ∧ r4.length ≤ c ∧ Below w.heap.size w w' := by
 subst hn
 refine (sig_Of.calls k A0 c0 l0 a1 a2 r1 r2 r3 r4 r5 w hr0 hc0 h).mono ?_
 rintro e w' ⟨v, rfl, hR, hb⟩
 obtain ⟨A, c, rfl, hl, hr⟩ := Kd.R_reads hR
 exact ⟨A, c, rfl, hr, hl, hb⟩
theorem ix_ints (k : Nat) {A0 : Option Addr} {c0 : Nat} {l0 : List Int} {A1 : Option Addr} {c1 : Nat} {l1 : List Int} {r : Bool} {w : World} {n0 n1 : Nat} (hn0 : n0 = l0.length) (hn1 : n1 = l1.length) (hr0 : Kd.C (Kd.int .i64) w A0 l0.length l0) (hc0 : l0.length ≤ c0) (hr1 : Kd.C (Kd.int .i64) w A1 l1.length l1) (hc1 : l1.length ≤ c1) (h : remoralaw07_ints.f k l0 l1 = some r) :
    Calls Try.prog 18 #[.slice A0 n0 c0, .slice A1 n1 c1] w fun e w' => e = .returned (.bool r) ∧ Below w.heap.size w w' := by
 subst hn0
 subst hn1
 refine (remoralaw07_ints.calls k A0 c0 l0 A1 c1 l1 r w hr0 hc0 hr1 hc1 h).mono ?_
 rintro e w' ⟨rfl, hb⟩
 exact ⟨rfl, hb.below⟩
theorem ob_ {α β : Type} {o : Option α} {f : α → Option β} {r : β} (h : o.bind f = some r) : ∃ a, o = some a ∧ f a = some r := Option.bind_eq_some_iff.mp h
theorem oi_ {α : Type} {c : Prop} [Decidable c] {x : Option α} {r : α} (h : (if c then x else none) = some r) : c ∧ x = some r := by
 by_cases hc : c
 ·rw [if_pos hc] at h
  exact ⟨hc, h⟩
 ·rw [if_neg hc] at h
  cases h
/-! ### What the laws hold: the signature in its box, the reference's index -/
structure LwS (w w' : World) (gs : Nat) (a0 a1 a2 : Int) (A : Option Addr) (c : Nat) (l : List S44) : Prop where
 bs : w'.heap[gs]? = some (.cells #[.int .i64 a0, .int .i64 a1, .int .i64 a2, .slice A l.length c] 24 (0, 0))
 rd : Kd.C k44 w' A l.length l
 bl : Below w.heap.size w w'
section
variable {w w' w2 : World} {gs : Nat} {a0 a1 a2 : Int} {A : Option Addr} {c : Nat} {l : List S44}
theorem LwS.step (h : LwS w w' gs a0 a1 a2 A c l) (hb : Below w'.heap.size w' w2) : LwS w w2 gs a0 a1 a2 A c l := ⟨zc6 h.bs hb, Kd.C_below h.rd hb, zb5 h.bl hb⟩
theorem LwS.c0 (h : LwS w w' gs a0 a1 a2 A c l) : w'.cell? ⟨gs, 0, none⟩ = some (.int .i64 a0) := (zc1 h.bs 0).trans rfl
theorem LwS.c1 (h : LwS w w' gs a0 a1 a2 A c l) : w'.cell? ⟨gs, 1, none⟩ = some (.int .i64 a1) := (zc1 h.bs 1).trans rfl
theorem LwS.c2 (h : LwS w w' gs a0 a1 a2 A c l) : w'.cell? ⟨gs, 2, none⟩ = some (.int .i64 a2) := (zc1 h.bs 2).trans rfl
theorem LwS.c3 (h : LwS w w' gs a0 a1 a2 A c l) : w'.cell? ⟨gs, 3, none⟩ = some (.slice A l.length c) := (zc1 h.bs 3).trans rfl
end
/-! ### awake, by hand -/
def remoralaw07_awake.f (k : Nat) : Option Bool :=
 (sig_Of.f k (List.replicate 48 0) 16 4).bind fun s =>
 if s.2.2.2.2 = 0 ∧ s.2.2.2.1.length = 3 then
  (sig_Check.f s.1 s.2.1 s.2.2.1 s.2.2.2.1).bind fun c =>
  if c = 0 then
   (index_Index_Pick.f k s.2.2.2.1 s.1 s.2.1 (ixChains s.2.2.2.1) (rd_T44 s.2.2.2.1 1).f0 (rd_T44 s.2.2.2.1 1).f1 16 1).bind fun p =>
   if p = (1, true) then
    (index_Index_Find.f k s.2.2.2.1 s.1 s.2.1 (ixChains s.2.2.2.1) (rd_T44 s.2.2.2.1 0).f0).bind fun L =>
    (remoralaw07_ints.f k L [0, 1, 2]).bind fun t =>
    if t = true then
     (index_Index_Loads.f k s.2.2.2.1 s.1 s.2.1 (ixChains s.2.2.2.1)).bind fun D =>
     (remoralaw07_ints.f k D [3, 0, 0, 1]).bind fun t =>
     if t = true then some true else none
    else none
   else none
  else none
 else none
def remoralaw07_awake.T5 : Bool × List (List Nat × List Nat) := (true, [([], []), ([], []), ([1], [1]), ([2], [2]), ([3], [3]), ([4], [4]), ([], []), ([6], [6]), ([7], [7]), ([8], [8]), ([9], [9]), ([0, 5, 10], [0, 5, 10]), ([11], [11]), ([12], [12]), ([12], [12]), ([13, 11, 0, 1, 2, 3, 4, 5, 6, 7, 8, 9, 10, 11, 12, 13], [13]), ([14, 15, 0, 1, 2, 3, 4, 5, 6, 7, 8, 9, 10, 11, 12, 13, 14, 15], [14])])
def remoralaw07_awake.B5 : List Nat := [0, 0, 2, 6, 14, 30, 0, 64, 192, 448, 960, 2047, 4095, 8191, 8191, 16383, 65535]
theorem remoralaw07_awake.tab5 : rtab .any (opsOf Try.f10 5) = remoralaw07_awake.T5 := by kernel_rfl
theorem remoralaw07_awake.bits5 : waitsOk remoralaw07_awake.T5.2 remoralaw07_awake.B5 = true := by kernel_rfl
set_option maxHeartbeats 16000000 in
set_option maxRecDepth 100000 in
theorem remoralaw07_awake.calls (k : Nat) (r : Bool) (w : World) (h : remoralaw07_awake.f k = some r) :
    Calls Try.prog 10 #[] w fun e w' => e = .returned (.bool r) ∧ Below w.heap.size w w' := by
 have hu := Try.underlying24
 have hu3 := Try.underlying44
 obtain ⟨⟨s, b, n, l, e0⟩, hof, h⟩ := ob_ h
 obtain ⟨⟨h0, hl3⟩, h⟩ := oi_ h
 obtain rfl : e0 = 0 := h0
 obtain ⟨c0, hck, h⟩ := ob_ h
 obtain ⟨h0, h⟩ := oi_ h
 obtain rfl : c0 = 0 := h0
 obtain ⟨⟨p1, p2⟩, hpk, h⟩ := ob_ h
 obtain ⟨h0, h⟩ := oi_ h
 obtain ⟨rfl, rfl⟩ : p1 = 1 ∧ p2 = true := by simpa using h0
 obtain ⟨L, hfd, h⟩ := ob_ h
 obtain ⟨t, hin, h⟩ := ob_ h
 obtain ⟨h0, h⟩ := oi_ h
 subst h0
 obtain ⟨D, hld, h⟩ := ob_ h
 obtain ⟨t, hi2, h⟩ := ob_ h
 obtain ⟨h0, h⟩ := oi_ h
 subst h0
 obtain rfl : true = r := Option.some.inj h
 replace hl3 : 3 = l.length := Eq.symm hl3
 have HOF : Aside0 (sig_Of.f k (List.replicate 48 0) 16 4 = some (s, b, n, l, 0)) := ⟨hof⟩
 have HL3 := zA hl3
 have HCK : Aside0 (sig_Check.f s b n l = some 0) := ⟨hck⟩
 have HPK : Aside0 (index_Index_Pick.f k l s b (ixChains l) (rd_T44 l 1).f0 (rd_T44 l 1).f1 16 1 = some (1, true)) := ⟨hpk⟩
 have HFD : Aside0 (index_Index_Find.f k l s b (ixChains l) (rd_T44 l 0).f0 = some L) := ⟨hfd⟩
 have HIN := zA hin
 have HLD : Aside0 (index_Index_Loads.f k l s b (ixChains l) = some D) := ⟨hld⟩
 have HI2 := zA hi2
 clear hof hl3 hck hpk hfd hin hld hi2 h
 go_enter Try.func10, Try.ntmps10
 go_wp2_with (first | ((with_reducible refine gate_dst (N := 8) rfl ?_); refine ix_makeL rfl (.const (.int .i64 48)) (.const (.int .i64 48)) 40 5 (.int .u8 0) 1 rfl Try.underlying40 info5 rfl 48 rfl rfl (by omega) (by omega) ?_; intro gz hgz w1 hz hb1; have HZ := zA hz; have HB := zA (show Below w.heap.size w w1 from hb1); clear hgz hz hb1))
 refine (ix_of k (l0 := List.replicate 48 0) (by rw [List.length_replicate]) (ix_zeros HZ.out (by omega)) (by rw [List.length_replicate]; omega) HOF.out).mono ?_
 rintro e w2 ⟨A, c, rfl, hR, hc, hb⟩
 replace HB := zA (zb5 HB.out hb)
 have HR := zA hR
 have HC := zA hc
 clear hb hR hc HZ
 rw [← HL3.out]
 go_wp2_with (first | ((with_reducible refine gate_dst (N := 1) rfl ?_); refine box_event ?hg (N := 1) ?hd (cs := #[.int .i64 0, .int .i64 0, .int .i64 0, .slice none 0 0]) (t := 24) ?hr ?_; (case hd => rfl); (case hg => rfl); (case hr => first | (go_simp; done) | (go_simp; rfl)); intro gs hgs w3 hA hq; have HQ := zA hq; have HS := zA hA; have HGS := zA (show w2.heap.size ≤ gs by rw [hgs]; exact Nat.le_refl _); have hq0 := zc1 hA 0; have hq1 := zc1 hA 1; have hq2 := zc1 hA 2; have hq3 := zc1 hA 3; have hf0 := zc5 hA 0; have hf1 := zc5 hA 1; have hf2 := zc5 hA 2; have hf3 := zc5 hA 3; clear hA hq hgs))
 have HB3 : Aside0 (Below w2.heap.size w2 ((((w3.setCell ⟨gs, 0, none⟩ (.int .i64 s)).setCell ⟨gs, 1, none⟩ (.int .i64 b)).setCell ⟨gs, 2, none⟩ (.int .i64 n)).setCell ⟨gs, 3, none⟩ (.slice A 3 c))) := ⟨zb4 (zb4 (zb4 (zb4 HQ.out HGS.out) HGS.out) HGS.out) HGS.out⟩
 have HS3 : Aside0 (((((w3.setCell ⟨gs, 0, none⟩ (.int .i64 s)).setCell ⟨gs, 1, none⟩ (.int .i64 b)).setCell ⟨gs, 2, none⟩ (.int .i64 n)).setCell ⟨gs, 3, none⟩ (.slice A 3 c)).heap[gs]? = some (.cells #[.int .i64 s, .int .i64 b, .int .i64 n, .slice A 3 c] 24 (0, 0))) := ⟨blk_put (blk_put (blk_put (blk_put HS.out 0 _ rfl) 1 _ rfl) 2 _ rfl) 3 _ rfl⟩
 replace HR := zA (Kd.C_below HR.out HB3.out)
 replace HB := zA (zb5 HB.out HB3.out)
 refine (ixis_new s b n A c l _ HL3.out HR.out HC.out HCK.out (by rw [← HL3.out]; omega)).mono ?_
 rintro e w4 ⟨g, rfl, hx, hb⟩
 have HX := zA hx
 have HS4 := zA (zc6 HS3.out hb)
 replace HR := zA (Kd.C_below HR.out hb)
 replace HB := zA (zb5 HB.out hb)
 clear hx hb hq0 hq1 hq2 hq3 hf0 hf1 hf2 hf3 HQ HS HS3 HB3 HGS HOF
 have hc3 := zc1 HS4.out 3
 go_wp2_with fail
 obtain ⟨ad, ead, hx0, hx1⟩ := at_T44 HR.out 1 (by omega) (by rw [← HL3.out]; omega)
 obtain ⟨ad', ead', hy0, hy1⟩ := at_T44 HR.out 0 (by omega) (by rw [← HL3.out]; omega)
 cases ead
 cases ead'
 obtain ⟨wk, hwk⟩ : ∃ wk, wk = (rd_T44 l 1).f0 := ⟨_, rfl⟩
 obtain ⟨st, hst⟩ : ∃ st, st = (rd_T44 l 1).f1 := ⟨_, rfl⟩
 obtain ⟨wz, hwz⟩ : ∃ wz, wz = (rd_T44 l 0).f0 := ⟨_, rfl⟩
 rw [← hwk] at hx0
 rw [← hst] at hx1
 rw [← hwz] at hy0
 rw [← hwk, ← hst] at HPK
 rw [← hwz] at HFD
 replace hx0 : w4.cell? ⟨ad.block, ad.off + 2, none⟩ = some (.int .u32 wk) := hx0
 replace hx1 : w4.cell? ⟨ad.block, ad.off + 2 + 1, none⟩ = some (.string st) := hx1
 clear hwk hst hwz hy1
 refine start_ (n := 17) (S := fun w' => w'.cell? ⟨gs, 3, none⟩ = some (.slice (some ad) 3 c) ∧ w'.cell? ⟨ad.block, ad.off + 2, none⟩ = some (.int .u32 wk) ∧ w'.cell? ⟨ad.block, ad.off + 2 + 1, none⟩ = some (.string st)) (ds := []) #[false, false, false, false, false, false, false, false, false, false, false, false, false, false, false, false, false] (by kernel_rfl) rfl rfl ⟨hc3, hx0, hx1⟩ (fun hHeld => ?_); refine with_tabW remoralaw07_awake.tab5 remoralaw07_awake.bits5 (fun HT_ HW_ => ?_)
 refine pure_ (i := 0) (N := some 34) (v := ?_) (a' := ?_) #[true, false, false, false, false, false, false, false, false, false, false, false, false, false, false, false, false] rfl rfl (any_of HT_.out (by kernel_rfl)) (fun _ _ _ h => h) (Or.inl ⟨by rfl, ?_⟩) ?_ ?_
 rotate_left
 ·intro w'
  go_simp
  with_reducible rfl
 rotate_left
 ·simp only [Act.put, zs1, zs2, zs3, i64_w, i32_w]
  rfl
 refine pure_ (i := 1) (N := some 35) (v := ?_) (a' := ?_) #[true, true, false, false, false, false, false, false, false, false, false, false, false, false, false, false, false] rfl rfl (any_of HT_.out (by kernel_rfl)) (fun _ _ _ h => h) (Or.inl ⟨by rfl, ?_⟩) ?_ ?_
 rotate_left
 ·intro w'
  go_simp
  with_reducible rfl
 rotate_left
 ·simp only [Act.put, zs1, zs2, zs3, i64_w, i32_w]
  rfl
 refine pure_ (i := 6) (N := some 40) (v := ?_) (a' := ?_) #[true, true, false, false, false, false, true, false, false, false, false, false, false, false, false, false, false] rfl rfl (any_of HT_.out (by kernel_rfl)) (fun _ _ _ h => h) (Or.inl ⟨by rfl, ?_⟩) ?_ ?_
 rotate_left
 ·intro w'
  go_simp
  with_reducible rfl
 rotate_left
 ·simp only [Act.put, zs1, zs2, zs3, i64_w, i32_w]
  rfl
 refine take_ (i := 2) (N := some 36) (v := ?_) (a' := ?_) #[true, true, true, false, false, false, true, false, false, false, false, false, false, false, false, false, false] rfl rfl (take_ofW HT_.out HW_.out (by kernel_rfl)) (fun _ _ _ h => h) (Or.inl ⟨by rfl, ?_⟩) hHeld ?_ ?_
 rotate_left
 ·rintro w' ⟨s0, s1, s2⟩
  go_simp
  with_reducible rfl
 rotate_left
 ·simp only [Act.put, zs1, zs2, zs3, i64_w, i32_w]
  rfl
 refine pure_ (i := 3) (N := some 37) (v := ?_) (a' := ?_) #[true, true, true, true, false, false, true, false, false, false, false, false, false, false, false, false, false] rfl rfl (any_of HT_.out (by kernel_rfl)) (fun _ _ _ h => h) (Or.inl ⟨by rfl, ?_⟩) ?_ ?_
 rotate_left
 ·intro w'
  go_simp
  with_reducible rfl
 rotate_left
 ·simp only [Act.put, zs1, zs2, zs3, i64_w, i32_w]
  rfl
 refine pure_ (i := 4) (N := some 38) (v := ?_) (a' := ?_) #[true, true, true, true, true, false, true, false, false, false, false, false, false, false, false, false, false] rfl rfl (any_of HT_.out (by kernel_rfl)) (fun _ _ _ h => h) (Or.inl ⟨by rfl, ?_⟩) ?_ ?_
 rotate_left
 ·intro w'
  go_simp
  with_reducible rfl
 rotate_left
 ·simp only [Act.put, zs1, zs2, zs3, i64_w, i32_w]
  rfl
 refine take_ (i := 5) (N := some 39) (v := ?_) (a' := ?_) #[true, true, true, true, true, true, true, false, false, false, false, false, false, false, false, false, false] rfl rfl (take_ofW HT_.out HW_.out (by kernel_rfl)) (fun _ _ _ h => h) (Or.inl ⟨by rfl, ?_⟩) hHeld ?_ ?_
 rotate_left
 ·rintro w' ⟨s0, s1, s2⟩
  go_simp
  with_reducible rfl
 rotate_left
 ·simp only [Act.put, zs1, zs2, zs3, i64_w, i32_w]
  rfl
 refine take_ (i := 7) (N := some 41) (v := ?_) (a' := ?_) #[true, true, true, true, true, true, true, true, false, false, false, false, false, false, false, false, false] rfl rfl (take_ofW HT_.out HW_.out (by kernel_rfl)) (fun _ _ _ h => h) (Or.inl ⟨by rfl, ?_⟩) hHeld ?_ ?_
 rotate_left
 ·rintro w' ⟨s0, s1, s2⟩
  go_simp
  with_reducible rfl
 rotate_left
 ·simp only [Act.put, zs1, zs2, zs3, i64_w, i32_w]
  rfl
 refine pure_ (i := 8) (N := some 42) (v := ?_) (a' := ?_) #[true, true, true, true, true, true, true, true, true, false, false, false, false, false, false, false, false] rfl rfl (any_of HT_.out (by kernel_rfl)) (fun _ _ _ h => h) (Or.inl ⟨by rfl, ?_⟩) ?_ ?_
 rotate_left
 ·intro w'
  go_simp
  with_reducible rfl
 rotate_left
 ·simp only [Act.put, zs1, zs2, zs3, i64_w, i32_w]
  rfl
 refine pure_ (i := 9) (N := some 43) (v := ?_) (a' := ?_) #[true, true, true, true, true, true, true, true, true, true, false, false, false, false, false, false, false] rfl rfl (any_of HT_.out (by kernel_rfl)) (fun _ _ _ h => h) (Or.inl ⟨by rfl, ?_⟩) ?_ ?_
 rotate_left
 ·intro w'
  go_simp
  with_reducible rfl
 rotate_left
 ·simp only [Act.put, zs1, zs2, zs3, i64_w, i32_w]
  rfl
 refine take_ (i := 10) (N := some 44) (v := ?_) (a' := ?_) #[true, true, true, true, true, true, true, true, true, true, true, false, false, false, false, false, false] rfl rfl (take_ofW HT_.out HW_.out (by kernel_rfl)) (fun _ _ _ h => h) (Or.inl ⟨by rfl, ?_⟩) hHeld ?_ ?_
 rotate_left
 ·rintro w' ⟨s0, s1, s2⟩
  go_simp
  with_reducible rfl
 rotate_left
 ·simp only [Act.put, zs1, zs2, zs3, i64_w, i32_w]
  rfl
 refine one_ (i := 11) (N := some 45) #[true, true, true, true, true, true, true, true, true, true, true, true, false, false, false, false, false] rfl rfl (one_of HT_.out (by kernel_rfl)) (by decide) (fun K hK => ?_)
 refine goes_ Try.func13 (by kernel_rfl) rfl #[.pointer (some ⟨g, 0, none⟩), .int .u32 wk, .string st, .int .i64 16, .int .i64 1] (by rfl) rfl rfl (by (try simp only [zm1, zm2, zm3]); first | done | rfl) ?_
 refine (ixis_pick (HX.out.below (zb2 (Below.refl _ _))) HPK.out).mono ?_
 rintro e w5 ⟨rfl, hb⟩
 replace hb : Below w4.heap.size w4 w5 := ⟨hb.os, hb.tape, hb.output, hb.size, hb.block⟩
 refine ⟨_, rfl, ?_⟩
 refine hK.out _ _ ⟨(hb.cell (World.block_lt_of_cell? _ _ hc3)).trans hc3, (hb.cell (World.block_lt_of_cell? _ _ hx0)).trans hx0, (hb.cell (World.block_lt_of_cell? _ _ hx1)).trans hx1⟩ (fun hHeld => ?_)
 clear hK K
 refine norm_ (a' := ?_) ?_ ?_
 rotate_left
 ·show Act.put _ (some 45) _ = _
  simp only [Act.put, zs1, zs2, zs3, i64_w, i32_w]
  rfl
 refine pure_ (i := 12) (N := some 33) (v := ?_) (a' := ?_) #[true, true, true, true, true, true, true, true, true, true, true, true, true, false, false, false, false] rfl rfl (any_of HT_.out (by kernel_rfl)) (fun _ _ _ h => h) (Or.inl ⟨by rfl, ?_⟩) ?_ ?_
 rotate_left
 ·intro w'
  go_simp
  with_reducible rfl
 rotate_left
 ·simp only [Act.put, zs1, zs2, zs3, i64_w, i32_w]
  rfl
 refine pure_ (i := 13) (N := some 46) (v := ?_) (a' := ?_) #[true, true, true, true, true, true, true, true, true, true, true, true, true, true, false, false, false] rfl rfl (any_of HT_.out (by kernel_rfl)) (fun _ _ _ h => h) (Or.inl ⟨by rfl, ?_⟩) ?_ ?_
 rotate_left
 ·intro w'
  go_simp
  with_reducible rfl
 rotate_left
 ·simp only [Act.put, zs1, zs2, zs3, i64_w, i32_w]
  rfl
 refine pure_ (i := 14) (N := some 47) (v := ?_) (a' := ?_) #[true, true, true, true, true, true, true, true, true, true, true, true, true, true, true, false, false] rfl rfl (any_of HT_.out (by kernel_rfl)) (fun _ _ _ h => h) (Or.inl ⟨by rfl, ?_⟩) ?_ ?_
 rotate_left
 ·intro w'
  go_simp
  with_reducible rfl
 rotate_left
 ·simp only [Act.put, zs1, zs2, zs3, i64_w, i32_w]
  rfl
 refine pure_ (i := 15) (N := some 5) (v := ?_) (a' := ?_) #[true, true, true, true, true, true, true, true, true, true, true, true, true, true, true, true, false] rfl rfl (any_of HT_.out (by kernel_rfl)) (fun _ _ _ h => h) (Or.inl ⟨by rfl, ?_⟩) ?_ ?_
 rotate_left
 ·intro w'
  go_simp
  with_reducible rfl
 rotate_left
 ·simp only [Act.put, zs1, zs2, zs3, i64_w, i32_w]
  rfl
 refine pure_ (i := 16) (N := some 6) (v := ?_) (a' := ?_) #[true, true, true, true, true, true, true, true, true, true, true, true, true, true, true, true, true] rfl rfl (any_of HT_.out (by kernel_rfl)) (fun _ _ _ h => h) (Or.inl ⟨by rfl, ?_⟩) ?_ ?_
 rotate_left
 ·intro w'
  go_simp
  with_reducible rfl
 rotate_left
 ·simp only [Act.put, zs1, zs2, zs3, i64_w, i32_w]
  rfl
 refine done_ (done_of HT_.out (by kernel_rfl)) ?_
 have HX5 := zA (HX.out.below hb)
 replace HB := zA (zb5 HB.out hb)
 replace hc3 : w5.cell? ⟨gs, 3, none⟩ = some (.slice (some ad) 3 c) := (zc1 (zc6 HS4.out hb) 3).trans rfl
 replace hy0 := (hb.cell (World.block_lt_of_cell? _ _ hy0)).trans hy0
 replace hy0 : w5.cell? (ad.add 0) = some (.int .u32 wz) := hy0
 have hy2 : w5.cell? ad = some (.int .u32 wz) := hy0
 clear hb hx0 hx1 hHeld HX HR HS4 HT_ HW_
 go_wp2_with fail
 refine (ixis_find HX5.out HFD.out).mono ?_
 rintro e w6 ⟨A1, c1, rfl, hr1, hl1, hb⟩
 have HX6 := zA (HX5.out.below hb)
 replace HB := zA (zb5 HB.out hb)
 have HR1 := zA hr1
 have HC1 := zA hl1
 clear hb hr1 hl1 hc3 hy0 hy2
 go_wp2_with (first | ((with_reducible refine gate_dst (N := 55) rfl ?_); refine ix_litL (N := 55) rfl rfl (cs := #[.int .i64 0, .int .i64 1, .int .i64 2]) (n := 3) (t := 3) ?hr ?_; (case hr => first | (go_simp; done) | (go_simp; rfl)); intro gl hgl w7 hlt hb7; have HLT := zA hlt; have HB7 := zA hb7; clear hgl hlt hb7))
 refine (ix_ints k rfl rfl (Kd.C_below HR1.out HB7.out) HC1.out (ix_lits (xs := [0, 1, 2]) HLT.out rfl (by decide)) (by decide) HIN.out).mono ?_
 rintro e w8 ⟨rfl, hb⟩
 have HX8 := zA ((HX6.out.below HB7.out).below hb)
 replace HB := zA (zb5 (zb5 HB.out HB7.out) hb)
 clear hb HLT HB7 HR1 HC1 HX6 HX5
 go_wp2_with fail
 refine (ixis_loads HX8.out HLD.out).mono ?_
 rintro e w9 ⟨A2, c2, rfl, hr2, hl2, hb⟩
 replace HB := zA (zb5 HB.out hb)
 have HR2 := zA hr2
 have HC2 := zA hl2
 clear hb hr2 hl2
 go_wp2_with fail
 refine (ix_ints k rfl rfl (Kd.C_below HR2.out (zb3 (Below.refl _ _) _)) HC2.out (ix_lits (xs := [3, 0, 0, 1]) (blk_new _ _) rfl (by decide)) (by decide) HI2.out).mono ?_
 rintro e w11 ⟨rfl, hb⟩
 replace HB := zA (zb5 (zb5 HB.out (zb3 (Below.refl _ _) _)) hb)
 clear hb
 go_wp2_with fail
 go_ret
 exact ⟨rfl, HB.out⟩


/-! ### index_Index_Len: function 20 -/
def index_Index_Len.f (l0_0 : List (S44)) (a0_1 : Int) (a0_2 : Int) (l0_3 : List (List Int)) : Option (Int) := some (l0_0.length : Int)
set_option maxHeartbeats 8000000 in
set_option maxRecDepth 100000 in
theorem index_Index_Len.calls (g : Nat) (A0_0 : Option Addr) (c0_0 : Nat) (l0_0 : List (S44)) (a0_1 : Int) (a0_2 : Int) (A0_3 : Option Addr) (c0_3 : Nat) (l0_3 : List (List Int)) (r : Int) (w : World) (hr0_0 : Kd.C k44 w A0_0 l0_0.length l0_0) (hc0_0 : l0_0.length ≤ c0_0) (hr0_3 : Kd.C (Kd.slice 3 (Kd.int .i64)) w A0_3 l0_3.length l0_3) (hc0_3 : l0_3.length ≤ c0_3) (hx : w.heap[g]? = some (.cells #[.slice A0_0 l0_0.length c0_0, .int .i64 a0_1, .int .i64 a0_2, .slice A0_3 l0_3.length c0_3] 61 (0, 0))) (h : index_Index_Len.f l0_0 a0_1 a0_2 l0_3 = some r) :
    Calls Try.prog 20 #[.pointer (some ⟨g, 0, none⟩)] w fun e w' => e = .returned (.int .i64 r) ∧ Below w.heap.size w w' := by
 have hu61 := Try.underlying61
 have HR0_0 := zA hr0_0
 have HC0_0 := zA hc0_0
 clear hr0_0 hc0_0
 have HR0_3 := zA hr0_3
 have HC0_3 := zA hc0_3
 clear hr0_3 hc0_3
 have HB := zA (Below.refl w.heap.size w)
 have H : (some (l0_0.length : Int)) = some r := h
 clear h
 obtain rfl := Option.some.inj H
 go_enter Try.func20, Try.ntmps20
 have BK157 := zA hx
 have hcz3_0 : w.cell? ⟨g, 0, none⟩ = some (.slice A0_0 l0_0.length c0_0) := (zc1 BK157.out 0).trans rfl
 have hcz3_1 : w.cell? ⟨g, 1, none⟩ = some (.int .i64 a0_1) := (zc1 BK157.out 1).trans rfl
 have hcz3_2 : w.cell? ⟨g, 2, none⟩ = some (.int .i64 a0_2) := (zc1 BK157.out 2).trans rfl
 have hcz3_3 : w.cell? ⟨g, 3, none⟩ = some (.slice A0_3 l0_3.length c0_3) := (zc1 BK157.out 3).trans rfl
 have hfz3_0 := zc5 BK157.out 0
 have hfz3_1 := zc5 BK157.out 1
 have hfz3_2 := zc5 BK157.out 2
 have hfz3_3 := zc5 BK157.out 3
 go_wp2_with (first | fail)
 go_ret
 exact ⟨by first | rfl | (simp [*] <;> rfl), by repeat (first | (with_reducible first | exact HB.out | apply zb3 | apply zb1 | apply zb2 | refine zb4 ?_ GE157.out) | exact HB.out)⟩

end Go.Proofs.Ytlndkemblbbfaaa.PIndexOwn
