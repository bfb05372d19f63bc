-- Written by a program of this session (the kit's printer with hand-written contracts among its functions).
-- squeezed
import Derived.Test.YtkihlcmjjoiccaaPMatchSamex0
import Derived.Test.YtkihlcmjjoiccaaPMatchSamex6
import Derived.Test.YtkihlcmjjoiccaaPMatchSamex7
import Derived.Test.YtkihlcmjjoiccaaPMatchSamex9
import Derived.Test.YtkihlcmjjoiccaaRq
namespace Go.Proofs.Ytkihlcmjjoiccaa.PMatchSame
open Go.RowKit Go.Proofs.YtkihlcmjjoiccaaW.PrintWords Go.Proofs.YtkihlcmjjoiccaaW.PrintLast Go.Proofs.YtkihlcmjjoiccaaW.PrintMore
attribute [local go_sem] max2_int min2_int max_two min_two max_three min_three max_four min_four   -- for this text's walks alone
set_option linter.unusedVariables false
set_option linter.unusedSimpArgs false

/-! ### remoralaw09_awake: function 8 -/
/-! ### What the laws hold: the signature in its box, the reference's index -/
structure LwS (w w' : World) (gs : Nat) (a0 a1 a2 : Int) (A : Option Addr) (c : Nat) (l : List S55) : Prop where
 bs : w'.heap[gs]? = some (.cells #[.int .i64 a0, .int .i64 a1, .int .i64 a2, .slice A l.length c] 24 (0, 0))
 rd : Kd.C k55 w' A l.length l
 bl : Below w.heap.size w w'
section
variable {w w' w2 : World} {gs : Nat} {a0 a1 a2 : Int} {A : Option Addr} {c : Nat} {l : List S55}
theorem LwS.step (h : LwS w w' gs a0 a1 a2 A c l) (hb : Below w'.heap.size w' w2) : LwS w w2 gs a0 a1 a2 A c l := ⟨zc6 h.bs hb, Kd.C_below h.rd hb, zb5 h.bl hb⟩
theorem LwS.c0 (h : LwS w w' gs a0 a1 a2 A c l) : w'.cell? ⟨gs, 0, none⟩ = some (.int .i64 a0) := (zc1 h.bs 0).trans rfl
theorem LwS.c1 (h : LwS w w' gs a0 a1 a2 A c l) : w'.cell? ⟨gs, 1, none⟩ = some (.int .i64 a1) := (zc1 h.bs 1).trans rfl
theorem LwS.c2 (h : LwS w w' gs a0 a1 a2 A c l) : w'.cell? ⟨gs, 2, none⟩ = some (.int .i64 a2) := (zc1 h.bs 2).trans rfl
theorem LwS.c3 (h : LwS w w' gs a0 a1 a2 A c l) : w'.cell? ⟨gs, 3, none⟩ = some (.slice A l.length c) := (zc1 h.bs 3).trans rfl
end
/-! ### awake, by hand -/
def awA : List Int := [48, 49, 50, 51, 52, 53, 54, 55, 56, 57, 97, 98, 99, 100, 101, 102]
def awB : List Int := [102, 101, 100, 99, 98, 97, 57, 56, 55, 54, 53, 52, 51, 50, 49, 48]
def awO : List S47 := [⟨16, 16, []⟩, ⟨0, 0, [120]⟩, ⟨0, 16, []⟩]
theorem aw_conv {P : Program} {ops : Array Oper} {rest : List Oper} {o : Oper} {a : Act} {Q : Exit → Act → World → Prop} {W : World} {C : Array Value} {n e : Nat} (hgd : o.guard = none) {N : Tmp} (_hd : o.dst = some N) (xs : List Int) (hC : C.toList = xs.map (Value.int .u8)) (hn : xs.length = n) (hl : n ≤ 1000)
    (hrun : (execOp a.eval o).run P (W.alloc (.cells C e)) = .ok (.value (.slice (some ⟨W.heap.size, 0, none⟩) n n)) (W.alloc (.cells C e (C.size, C.size + 1))))
    (h : ∀ A w1, Kd.C (Kd.int .u8) w1 (some A) n xs → Below W.heap.size W w1 → wpList P ops Q rest (a.put o.dst (.slice (some A) n n)) w1) : wpList P ops Q (o :: rest) a (W.alloc (.cells C e)) := by
 subst hn
 exact Kd.event_run hgd hrun (h _ _ (Jn.C_alloc_lit W .u8 e _ xs C hC (by omega)) (zb3 (Below.refl _ _) _))
theorem toT_inj {l m : List S47} (h : l.map toT = m.map toT) : l = m := by
 have e : ∀ l : List S47, (l.map toT).map ofT = l := fun l => by rw [List.map_map]; exact List.map_id l
 rw [← e l, h, e m]
def remoralaw09_awake.f (k : Nat) : Option Bool :=
 (sig_Of.f k ([] ++ awA ++ awB) 16 8).bind fun s => if s.2.2.2.2 = 0 then
  (match_Of.f k s.1 s.2.1 s.2.2.1 s.2.2.2.1 ([] ++ awB ++ [120] ++ awA)).bind fun m => if m.2 = 0 ∧ m.1.map toT = awO.map toT then
   (delta_Same.f k awO awO).bind fun t => if t = true then some true else none else none else none
theorem remoralaw09_awake.mono : ∀ k, LeO (remoralaw09_awake.f k) (remoralaw09_awake.f (k + 1)) := by
 intro k
 unfold remoralaw09_awake.f
 exact LeO.bind (sig_Of.mono _ _ _ _) fun _ => LeO.ite (LeO.bind (match_Of.mono _ _ _ _ _ _) fun _ => LeO.ite (LeO.bind (delta_Same.mono _ _ _) fun _ => LeO.refl _) (LeO.none _)) (LeO.none _)
theorem aw_opC {w : World} {A : Option Addr} {c : Nat} (hA : Kd.C (Kd.int .u8) w A 1 [120]) (hc : 1 ≤ c) :
    Kd.C k47 (w.alloc (.cells #[.int .i64 16, .int .i64 16, .slice none 0 0, .int .i64 0, .int .i64 0, .slice A 1 c, .int .i64 0, .int .i64 16, .slice none 0 0] 47)) (some ⟨w.heap.size, 0, none⟩) 3 awO := by
 refine Jn.C_of_iso (f := toT) (Jn.kP_alloc_lit w _ _ [(16, 16, []), (0, 0, [120]), (0, 16, [])] _ (by decide) (fun j p hj => ?_))
 match j, hj with
 | 0, hj => obtain rfl := Option.some.inj hj; exact ⟨_, _, rfl, rfl, rfl, Nat.zero_le _, Jn.C_zero _ _ _⟩
 | 1, hj => obtain rfl := Option.some.inj hj; exact ⟨_, _, rfl, rfl, rfl, hc, Kd.C_below hA (zb3 (Below.refl _ _) _)⟩
 | 2, hj => obtain rfl := Option.some.inj hj; exact ⟨_, _, rfl, rfl, rfl, Nat.zero_le _, Jn.C_zero _ _ _⟩
def remoralaw09_awake.T3 : Bool × List (List Nat × List Nat) := (true, [([], []), ([], []), ([], []), ([1, 2], [1, 2]), ([], []), ([3, 4, 3], [3, 4]), ([], []), ([5, 6, 5], [5, 6]), ([0, 7, 7], [0, 7]), ([8], [8]), ([9], [9]), ([9], [9]), ([10, 8, 0, 1, 2, 3, 4, 5, 6, 7, 8, 9, 10], [10]), ([11, 12, 0, 1, 2, 3, 4, 5, 6, 7, 8, 9, 10, 11, 12], [11])])
def remoralaw09_awake.B3 : List Nat := [0, 0, 0, 6, 0, 30, 0, 126, 255, 511, 1023, 1023, 2047, 8191]
theorem remoralaw09_awake.tab3 : rtab .any (opsOf Try.f8 3) = remoralaw09_awake.T3 := by kernel_rfl
theorem remoralaw09_awake.bits3 : waitsOk remoralaw09_awake.T3.2 remoralaw09_awake.B3 = true := by kernel_rfl
set_option maxHeartbeats 16000000 in
set_option maxRecDepth 100000 in
theorem remoralaw09_awake.calls (k : Nat) (r : Bool) (w : World) (h : remoralaw09_awake.f k = some r) :
    Calls Try.prog 8 #[] w fun e w' => e = .returned (.bool r) ∧ Below w.heap.size w w' := by
 have hu := Try.underlying24
 have hu2 := Try.underlying47
 obtain ⟨⟨s, b, n, l, e0⟩, hof, h⟩ := ob_ h
 obtain ⟨h0, h⟩ := oi_ h
 obtain rfl : e0 = 0 := h0
 obtain ⟨⟨m1, m2⟩, hmo, h⟩ := ob_ h
 obtain ⟨h0, h⟩ := oi_ h
 obtain ⟨rfl, rfl⟩ : m2 = 0 ∧ m1 = awO := ⟨h0.1, toT_inj h0.2⟩
 obtain ⟨t, hsm, h⟩ := ob_ h
 obtain ⟨h0, h⟩ := oi_ h
 subst h0
 obtain rfl : true = r := Option.some.inj h
 obtain ⟨la, hla⟩ : ∃ la, la = awA := ⟨_, rfl⟩
 obtain ⟨lb, hlb⟩ : ∃ lb, lb = awB := ⟨_, rfl⟩
 have HOF : Aside0 (sig_Of.f k ([] ++ la ++ lb) 16 8 = some (s, b, n, l, 0)) := ⟨by rw [hla, hlb]; exact hof⟩
 have HMO : Aside0 (match_Of.f k s b n l ([] ++ lb ++ [120] ++ la) = some (awO, 0)) := ⟨by rw [hla, hlb]; exact hmo⟩
 have HSM := zA hsm
 have HLA := zA hla
 have HLB := zA hlb
 have NA : la.length = 16 := by rw [hla]; rfl
 have NB : lb.length = 16 := by rw [hlb]; rfl
 have HNA := zA NA
 have HNB := zA NB
 clear hof hmo hsm h hla hlb NA NB
 have kc := fun (w : World) (C : Array Value) (n c : Nat) => Lib.run_convert_bytes_const (P := Try.prog) w 33 5 C n c Try.underlying33 Try.underlying5
 go_enter Try.func8, Try.ntmps8
 go_wp2_with (first | ((with_reducible refine gate_dst (N := 8) rfl ?_); refine aw_conv ?hg (N := 8) ?hd la ?hC HNA.out (by decide) ?hr ?_; (case hd => rfl); (case hg => rfl); (case hC => first | (rw [HLA.out]; rfl) | (rw [HLB.out]; rfl) | rfl); (case hr => first | (go_simp; done) | (go_simp; rfl)); intro A1 w1 hx hb; have HA := zA hx; have HB1 := zA hb; clear hx hb) | ((with_reducible refine gate_dst (N := 10) rfl ?_); refine aw_conv ?hg (N := 10) ?hd lb ?hC HNB.out (by decide) ?hr ?_; (case hd => rfl); (case hg => rfl); (case hC => first | (rw [HLA.out]; rfl) | (rw [HLB.out]; rfl) | rfl); (case hr => first | (go_simp; done) | (go_simp; rfl)); intro A2 w2 hx hb; have HB2 := zA (zb5 HB1.out hb); have HB2' := zA hb; have HE := zA hx; replace HA := zA (Kd.C_below HA.out hb); clear hx hb) | ((with_reducible refine gate_dst (N := 12) rfl ?_); refine Kd.R_lit (Kd.int .u8) _ 5 ?hg (N := 12) ?hd (xs := ([] : List Int)) (inner := []) (ok := fun _ => True) (okp := fun _ => True) ?hr ?hp (fun _ hk => hk) trivial (Below.refl _ _) (Nat.le_refl _) (by simp) ?_; (case hd => rfl); (case hg => rfl); (case hr => first | (go_simp; done) | (go_simp; rfl)); (case hp => exact (Reps.none _ _)); intro v12 w3 ho hb hg_ hnew_; have H12 := zA ho; have HB3 := zA hb; clear ho hb hg_ hnew_) | ((with_reducible refine gate_builtin (b := .append) (xs := #[.tmp 12, .tmp 13]) rfl ?_); at_builtin; refine Kd.R_append_rows (Kd.int .u8) (w0 := w2) w2.heap.size rfl (.tmp 12) (.tmp 13) 33 5 (.int .u8 0) 1 rfl Try.underlying33 info5 rfl (by decide) (by omega) v12 [] la _ 16 16 (fun _ => True) (fun _ => False) rfl rfl H12.out (Kd.C_below HA.out HB3.out) (fun _ _ h => h) (fun _ h => h.elim) (fun _ _ => trivial) HB3.out (HB3.out).size (by have := HNA.out; have := HNB.out; simp only [List.length_append, List.length_nil]; omega) ?_; intro v14 w4 ho hb hg hat; have H14 := zA ho; have HB4 := zA hb; clear ho hb hg hat) | ((with_reducible refine gate_builtin (b := .append) (xs := #[.tmp 14, .tmp 15]) rfl ?_); at_builtin; refine Kd.R_append_rows (Kd.int .u8) (w0 := w2) w2.heap.size rfl (.tmp 14) (.tmp 15) 33 5 (.int .u8 0) 1 rfl Try.underlying33 info5 rfl (by decide) (by omega) v14 ([] ++ la) lb _ 16 16 (fun _ => True) (fun _ => False) rfl rfl H14.out (Kd.C_below HE.out HB4.out) (fun _ _ h => h) (fun _ h => h.elim) (fun _ _ => trivial) HB4.out (HB4.out).size (by have := HNA.out; have := HNB.out; simp only [List.length_append, List.length_nil]; omega) ?_; intro v16 w5 ho hb hg hat; have H16 := zA ho; have HB5 := zA hb; clear ho hb hg hat))
 clear kc
 obtain ⟨A16, c16, rfl, hl16, hr16⟩ := Kd.R_reads H16.out
 refine (sig_Of.calls k A16 c16 _ 16 8 s b n l 0 _ hr16 hl16 HOF.out).mono ?_
 rintro e w6 ⟨v3, rfl, hR, hb⟩
 obtain ⟨A, c, rfl, hcl, hR⟩ := Kd.R_reads hR
 have HR := zA hR
 have HC := zA hcl
 have HB6 := zA (zb5 HB5.out hb)
 clear hb hR hcl hl16 hr16 H12 H14 H16 HB3 HB4 HB5 HOF
 go_wp2_with (first | ((with_reducible refine gate_dst (N := 3) rfl ?_); refine box_event ?hg (N := 3) ?hd (cs := #[.int .i64 0, .int .i64 0, .int .i64 0, .slice none 0 0]) (t := 24) ?hr ?_; (case hd => rfl); (case hg => rfl); (case hr => first | (go_simp; done) | (go_simp; rfl)); intro gs hgs w7 hA7 hq; have HQ7 := zA hq; have HS0 := zA hA7; have HGS := zA (show w6.heap.size ≤ gs by rw [hgs]; exact Nat.le_refl _); have hq0 := zc1 hA7 0; have hf0 := zc5 hA7 0; have hq1 := zc1 hA7 1; have hf1 := zc5 hA7 1; have hq2 := zc1 hA7 2; have hf2 := zc5 hA7 2; have hq3 := zc1 hA7 3; have hf3 := zc5 hA7 3; clear hA7 hq hgs))
 have HB7 : Aside0 (Below w6.heap.size w6 ((((w7.setCell ⟨gs, 0, none⟩ (.int .i64 s)).setCell ⟨gs, 1, none⟩ (.int .i64 b)).setCell ⟨gs, 2, none⟩ (.int .i64 n)).setCell ⟨gs, 3, none⟩ (.slice A l.length c))) := ⟨zb4 (zb4 (zb4 (zb4 HQ7.out HGS.out) HGS.out) HGS.out) HGS.out⟩
 have HS : Aside0 (LwS w2 ((((w7.setCell ⟨gs, 0, none⟩ (.int .i64 s)).setCell ⟨gs, 1, none⟩ (.int .i64 b)).setCell ⟨gs, 2, none⟩ (.int .i64 n)).setCell ⟨gs, 3, none⟩ (.slice A l.length c)) gs s b n A c l) := ⟨⟨blk_put (blk_put (blk_put (blk_put HS0.out 0 _ rfl) 1 _ rfl) 2 _ rfl) 3 _ rfl, Kd.C_below HR.out HB7.out, zb5 HB6.out HB7.out⟩⟩
 clear hq0 hq1 hq2 hq3 hf0 hf1 hf2 hf3 HQ7 HS0 HGS HB7 HR HB6
 generalize ((((w7.setCell ⟨gs, 0, none⟩ (.int .i64 s)).setCell ⟨gs, 1, none⟩ (.int .i64 b)).setCell ⟨gs, 2, none⟩ (.int .i64 n)).setCell ⟨gs, 3, none⟩ (.slice A l.length c)) = w7' at HS ⊢
 replace HS := zA (HS.out.step (zb2 (Below.refl _ _)))
 refine start_ (n := 14) (S := fun w' => w'.cell? ⟨gs, 0, none⟩ = some (.int .i64 s) ∧ w'.cell? ⟨gs, 1, none⟩ = some (.int .i64 b) ∧ w'.cell? ⟨gs, 2, none⟩ = some (.int .i64 n) ∧ w'.cell? ⟨gs, 3, none⟩ = some (.slice A l.length c)) (ds := [8]) (qq 14 0) (by kernel_rfl) rfl (by kernel_rfl) ⟨HS.out.c0, HS.out.c1, HS.out.c2, HS.out.c3⟩ (fun hHeld => ?_); refine with_tabW remoralaw09_awake.tab3 remoralaw09_awake.bits3 (fun HT_ HW_ => ?_)
 generalize w7'.drew = w8 at HS hHeld ⊢
 have HB := zA (Below.refl w8.heap.size w8)
 refine ord_ [(0, 2, 4), (0, 6, 68), (1, 0, 69)] ?_
 repeat (first | (refine kk_ 0 ?_; refine oP_ (v := ?_) (a' := ?_) HT_ rfl rfl (by kernel_rfl) (fun _ _ _ h => h) (Or.inl ⟨by rfl, ?_⟩) ?_ ?_; rotate_left; (intro w'; go_simp; with_reducible rfl); rotate_left; (simp only [Act.put, zs1, zs2, zs3, i64_w, i32_w]; rfl)) | (refine kk_ 1 ?_; refine oT_ (v := ?_) (a' := ?_) HT_ HW_ rfl rfl (by kernel_rfl) (fun _ _ _ h => h) (Or.inl ⟨by rfl, ?_⟩) hHeld ?_ ?_; rotate_left; (rintro w' ⟨s0, s1, s2, s3⟩; go_simp; with_reducible rfl); rotate_left; (simp only [Act.put, zs1, zs2, zs3, i64_w, i32_w]; rfl)))
 refine oend_ ?_
 refine join_ (σ := Value × Value × Value) 8 (qq 14 95) (fun s_ => [(22, s_.1), (24, s_.2.1), (25, s_.2.2)]) (fun s_ w' => (w'.cell? ⟨gs, 0, none⟩ = some (.int .i64 s) ∧ w'.cell? ⟨gs, 1, none⟩ = some (.int .i64 b) ∧ w'.cell? ⟨gs, 2, none⟩ = some (.int .i64 n) ∧ w'.cell? ⟨gs, 3, none⟩ = some (.slice A l.length c)) ∧ Below w8.heap.size w8 w' ∧ (Kd.int .u8).R 5 w' w8.heap.size (fun _ => True) s_.2.1 ([] ++ lb) ∧ ∃ bs ok, (Kd.int .u8).R 5 w' bs ok s_.2.2 [120]) ?_ ?_
 rotate_left
 ·intro hCont
  refine two_ (i := 1) (j := 4) (Ni := some 22) (Nj := some 25) (qq 14 71) (qq 14 85) rfl rfl rfl rfl (two_of HT_.out (by kernel_rfl)) (by decide) (by decide) (fun K hK => ?_) (fun K hK => ?_)
  ·skip
   refine Kd.R_lit_step (Kd.int .u8) _ 5 ?hg (N := 22) ?hd (xs := ([] : List Int)) (inner := []) (ok := fun _ => True) (okp := fun _ => True) ?hr ?hp (fun _ hk => hk) trivial (Below.refl _ _) (Nat.le_refl _) (by simp) ?_; (case hd => rfl); (case hg => rfl); (case hr => first | (go_simp; done) | (go_simp; rfl)); (case hp => exact (Reps.none _ _))
   intro v22 w22 ho hb hg_ hnew_
   have H22 := zA (Kd.R_lower ho HB.out.size)
   replace HB := zA (zb5 HB.out hb)
   clear ho hb hg_ hnew_
   refine hK.out _ _ ⟨(HS.out.step HB.out).c0, (HS.out.step HB.out).c1, (HS.out.step HB.out).c2, (HS.out.step HB.out).c3⟩ (fun hHeld => ?_)
   clear hK K
   refine norm_ (a' := ?_) ?_ ?_
   rotate_left
   ·show Act.put _ (some 22) _ = _
    simp only [Act.put, zs1, zs2, zs3, i64_w, i32_w]
    rfl
   refine two_ (i := 3) (j := 4) (Ni := some 24) (Nj := some 25) (qq 14 79) (qq 14 87) rfl rfl rfl rfl (two_of HT_.out (by kernel_rfl)) (by decide) (by decide) (fun K hK => ?_) (fun K hK => ?_)
   ·skip
    refine Kd.R_append_rows_step (Kd.int .u8) (w0 := w8) w8.heap.size (by rfl) (.tmp 22) (.tmp 23) 33 5 (.int .u8 0) 1 rfl Try.underlying33 info5 rfl (by decide) (by omega) v22 [] lb _ 16 _ (fun _ => True) (fun _ => False) rfl rfl H22.out (Kd.C_below HE.out (HS.out.step HB.out).bl) (fun _ _ h => h) (fun _ h => h.elim) (fun _ _ => trivial) HB.out HB.out.size (by have := HNA.out; have := HNB.out; simp only [List.length_append, List.length_nil, List.length_cons]; omega) ?_
    intro v24 w24 ho hb hg hat
    have H24 := zA ho
    replace HB := zA hb
    clear ho hb hg hat
    refine hK.out _ _ ⟨(HS.out.step HB.out).c0, (HS.out.step HB.out).c1, (HS.out.step HB.out).c2, (HS.out.step HB.out).c3⟩ (fun hHeld => ?_)
    clear hK K
    refine norm_ (a' := ?_) ?_ ?_
    rotate_left
    ·show Act.put _ (some 24) _ = _
     simp only [Act.put, zs1, zs2, zs3, i64_w, i32_w]
     rfl
    refine one_ (i := 4) (N := some 25) (qq 14 95) rfl rfl (one_of HT_.out (by kernel_rfl)) (by decide) (fun K hK => ?_)
    refine Kd.R_lit_step (Kd.int .u8) _ 5 ?hg (N := 25) ?hd (xs := ([120] : List Int)) (inner := [.int .u8 120]) (ok := fun _ => True) (okp := fun _ => True) ?hr ?hp (fun _ hk => hk) trivial (Below.refl _ _) (Nat.le_refl _) (by simp) ?_; (case hd => rfl); (case hg => rfl); (case hr => first | (go_simp; done) | (go_simp; rfl)); (case hp => exact (Reps.one (show Kd.M (Kd.int .u8) _ _ _ 120 [.int .u8 120] from rfl) (Reps.none _ _)))
    intro v25 w25 ho hb hg_ hnew_
    have H25 := zA ho
    replace H24 := zA (Kd.R_below H24.out hb)
    replace HB := zA (zb5 HB.out hb)
    clear ho hb hg_ hnew_
    refine hK.out _ _ ⟨(HS.out.step HB.out).c0, (HS.out.step HB.out).c1, (HS.out.step HB.out).c2, (HS.out.step HB.out).c3⟩ (fun hHeld => ?_)
    clear hK K
    refine norm_ (a' := ?_) ?_ ?_
    rotate_left
    ·show Act.put _ (some 25) _ = _
     simp only [Act.put, zs1, zs2, zs3, i64_w, i32_w]
     rfl
    exact norm_ (by simp only [putAll, Act.put, zs1, zs2, zs3]) (hCont (v22, v24, v25) _ ⟨hHeld, HB.out, H24.out, ⟨_, _, H25.out⟩⟩)
   ·skip
    refine Kd.R_lit_step (Kd.int .u8) _ 5 ?hg (N := 25) ?hd (xs := ([120] : List Int)) (inner := [.int .u8 120]) (ok := fun _ => True) (okp := fun _ => True) ?hr ?hp (fun _ hk => hk) trivial (Below.refl _ _) (Nat.le_refl _) (by simp) ?_; (case hd => rfl); (case hg => rfl); (case hr => first | (go_simp; done) | (go_simp; rfl)); (case hp => exact (Reps.one (show Kd.M (Kd.int .u8) _ _ _ 120 [.int .u8 120] from rfl) (Reps.none _ _)))
    intro v25 w25 ho hb hg_ hnew_
    have H25 := zA (Kd.R_new' ho (Kd.R_lt H22.out))
    replace H22 := zA (Kd.R_below H22.out hb)
    replace HB := zA (zb5 HB.out hb)
    clear ho hb hg_ hnew_
    refine hK.out _ _ ⟨(HS.out.step HB.out).c0, (HS.out.step HB.out).c1, (HS.out.step HB.out).c2, (HS.out.step HB.out).c3⟩ (fun hHeld => ?_)
    clear hK K
    refine norm_ (a' := ?_) ?_ ?_
    rotate_left
    ·show Act.put _ (some 25) _ = _
     simp only [Act.put, zs1, zs2, zs3, i64_w, i32_w]
     rfl
    refine one_ (i := 3) (N := some 24) (qq 14 95) rfl rfl (one_of HT_.out (by kernel_rfl)) (by decide) (fun K hK => ?_)
    refine Kd.R_append_rows_step (Kd.int .u8) (w0 := w8) w8.heap.size (by rfl) (.tmp 22) (.tmp 23) 33 5 (.int .u8 0) 1 rfl Try.underlying33 info5 rfl (by decide) (by omega) v22 [] lb _ 16 _ (fun _ => True) (fun _ => False) rfl rfl H22.out (Kd.C_below HE.out (HS.out.step HB.out).bl) (fun _ _ h => h) (fun _ h => h.elim) (fun _ _ => trivial) HB.out HB.out.size (by have := HNA.out; have := HNB.out; simp only [List.length_append, List.length_nil, List.length_cons]; omega) ?_
    intro v24 w24 ho hb hg hat
    have H24 := zA ho
    replace H25 := zA (Kd.R_grown H25.out hg (fun _ hk => hk.2))
    replace HB := zA hb
    clear ho hb hg hat
    refine hK.out _ _ ⟨(HS.out.step HB.out).c0, (HS.out.step HB.out).c1, (HS.out.step HB.out).c2, (HS.out.step HB.out).c3⟩ (fun hHeld => ?_)
    clear hK K
    refine norm_ (a' := ?_) ?_ ?_
    rotate_left
    ·show Act.put _ (some 24) _ = _
     simp only [Act.put, zs1, zs2, zs3, i64_w, i32_w]
     rfl
    exact norm_ (by simp only [putAll, Act.put, zs1, zs2, zs3]) (hCont (v22, v24, v25) _ ⟨hHeld, HB.out, H24.out, ⟨_, _, H25.out⟩⟩)
  ·skip
   refine Kd.R_lit_step (Kd.int .u8) _ 5 ?hg (N := 25) ?hd (xs := ([120] : List Int)) (inner := [.int .u8 120]) (ok := fun _ => True) (okp := fun _ => True) ?hr ?hp (fun _ hk => hk) trivial (Below.refl _ _) (Nat.le_refl _) (by simp) ?_; (case hd => rfl); (case hg => rfl); (case hr => first | (go_simp; done) | (go_simp; rfl)); (case hp => exact (Reps.one (show Kd.M (Kd.int .u8) _ _ _ 120 [.int .u8 120] from rfl) (Reps.none _ _)))
   intro v25 w25 ho hb hg_ hnew_
   have H25 := zA ho
   replace HB := zA (zb5 HB.out hb)
   clear ho hb hg_ hnew_
   refine hK.out _ _ ⟨(HS.out.step HB.out).c0, (HS.out.step HB.out).c1, (HS.out.step HB.out).c2, (HS.out.step HB.out).c3⟩ (fun hHeld => ?_)
   clear hK K
   refine norm_ (a' := ?_) ?_ ?_
   rotate_left
   ·show Act.put _ (some 25) _ = _
    simp only [Act.put, zs1, zs2, zs3, i64_w, i32_w]
    rfl
   refine one_ (i := 1) (N := some 22) (qq 14 87) rfl rfl (one_of HT_.out (by kernel_rfl)) (by decide) (fun K hK => ?_)
   refine Kd.R_lit_step (Kd.int .u8) _ 5 ?hg (N := 22) ?hd (xs := ([] : List Int)) (inner := []) (ok := fun _ => True) (okp := fun _ => True) ?hr ?hp (fun _ hk => hk) trivial (Below.refl _ _) (Nat.le_refl _) (by simp) ?_; (case hd => rfl); (case hg => rfl); (case hr => first | (go_simp; done) | (go_simp; rfl)); (case hp => exact (Reps.none _ _))
   intro v22 w22 ho hb hg_ hnew_
   have H22 := zA (Kd.R_lower ho HB.out.size)
   replace H25 := zA (Kd.R_elder' H25.out (Kd.R_base ho) hb)
   replace HB := zA (zb5 HB.out hb)
   clear ho hb hg_ hnew_
   refine hK.out _ _ ⟨(HS.out.step HB.out).c0, (HS.out.step HB.out).c1, (HS.out.step HB.out).c2, (HS.out.step HB.out).c3⟩ (fun hHeld => ?_)
   clear hK K
   refine norm_ (a' := ?_) ?_ ?_
   rotate_left
   ·show Act.put _ (some 22) _ = _
    simp only [Act.put, zs1, zs2, zs3, i64_w, i32_w]
    rfl
   refine one_ (i := 3) (N := some 24) (qq 14 95) rfl rfl (one_of HT_.out (by kernel_rfl)) (by decide) (fun K hK => ?_)
   refine Kd.R_append_rows_step (Kd.int .u8) (w0 := w8) w8.heap.size (by rfl) (.tmp 22) (.tmp 23) 33 5 (.int .u8 0) 1 rfl Try.underlying33 info5 rfl (by decide) (by omega) v22 [] lb _ 16 _ (fun _ => True) (fun _ => False) rfl rfl H22.out (Kd.C_below HE.out (HS.out.step HB.out).bl) (fun _ _ h => h) (fun _ h => h.elim) (fun _ _ => trivial) HB.out HB.out.size (by have := HNA.out; have := HNB.out; simp only [List.length_append, List.length_nil, List.length_cons]; omega) ?_
   intro v24 w24 ho hb hg hat
   have H24 := zA ho
   replace H25 := zA (Kd.R_grown H25.out hg (fun _ hk => hk.2))
   replace HB := zA hb
   clear ho hb hg hat
   refine hK.out _ _ ⟨(HS.out.step HB.out).c0, (HS.out.step HB.out).c1, (HS.out.step HB.out).c2, (HS.out.step HB.out).c3⟩ (fun hHeld => ?_)
   clear hK K
   refine norm_ (a' := ?_) ?_ ?_
   rotate_left
   ·show Act.put _ (some 24) _ = _
    simp only [Act.put, zs1, zs2, zs3, i64_w, i32_w]
    rfl
   exact norm_ (by simp only [putAll, Act.put, zs1, zs2, zs3]) (hCont (v22, v24, v25) _ ⟨hHeld, HB.out, H24.out, ⟨_, _, H25.out⟩⟩)
 rintro ⟨v22, v24, v25⟩ w9 ⟨hHeld, hb9, h24, bs9, ok9, h25⟩
 obtain ⟨A25, c25, rfl, hl25, hr25⟩ := Kd.R_reads h25
 replace HB := zA hb9
 have H24 := zA h24
 have H25 := zA hr25
 clear hb9 h24 h25 hr25 hl25
 refine norm_ (a' := ?_) (by simp only [putAll, Act.put, zs1, zs2, zs3]; rfl) ?_
 refine one_ (i := 5) (N := some 26) (qq 14 127) rfl rfl (one_of HT_.out (by kernel_rfl)) (by decide) (fun K hK => ?_)
 refine Kd.R_append_rows_step (Kd.int .u8) (w0 := w8) w8.heap.size (by rfl) (.tmp 24) (.tmp 25) 33 5 (.int .u8 0) 1 rfl Try.underlying33 info5 rfl (by decide) (by omega) v24 ([] ++ lb) [120] _ 1 _ (fun _ => True) (fun _ => False) rfl rfl H24.out H25.out (fun _ _ h => h) (fun _ h => h.elim) (fun _ _ => trivial) HB.out HB.out.size (by have := HNA.out; have := HNB.out; simp only [List.length_append, List.length_nil, List.length_cons]; omega) ?_
 intro v26 w26 ho hb hg hat
 have H26 := zA ho
 replace HB := zA hb
 clear ho hb hg hat H24 H25
 refine hK.out _ _ ⟨(HS.out.step HB.out).c0, (HS.out.step HB.out).c1, (HS.out.step HB.out).c2, (HS.out.step HB.out).c3⟩ (fun hHeld => ?_)
 clear hK K
 refine norm_ (a' := ?_) ?_ ?_
 rotate_left
 ·show Act.put _ (some 26) _ = _
  simp only [Act.put, zs1, zs2, zs3, i64_w, i32_w]
  rfl
 refine one_ (i := 7) (N := some 28) (qq 14 255) rfl rfl (one_of HT_.out (by kernel_rfl)) (by decide) (fun K hK => ?_)
 refine Kd.R_append_rows_step (Kd.int .u8) (w0 := w8) w8.heap.size (by rfl) (.tmp 26) (.tmp 27) 33 5 (.int .u8 0) 1 rfl Try.underlying33 info5 rfl (by decide) (by omega) v26 ([] ++ lb ++ [120]) la _ 16 _ (fun _ => True) (fun _ => False) rfl rfl H26.out (Kd.C_below HA.out (HS.out.step HB.out).bl) (fun _ _ h => h) (fun _ h => h.elim) (fun _ _ => trivial) HB.out HB.out.size (by have := HNA.out; have := HNB.out; simp only [List.length_append, List.length_nil, List.length_cons]; omega) ?_
 intro v28 w28 ho hb hg hat
 obtain ⟨A28, c28, rfl, hl28, hr28⟩ := Kd.R_reads ho
 have H28 := zA hr28
 have HL28 := zA hl28
 replace HB := zA hb
 clear ho hb hg hat H26 hl28 hr28
 refine hK.out _ _ ⟨(HS.out.step HB.out).c0, (HS.out.step HB.out).c1, (HS.out.step HB.out).c2, (HS.out.step HB.out).c3⟩ (fun hHeld => ?_)
 clear hK K
 refine norm_ (a' := ?_) ?_ ?_
 rotate_left
 ·show Act.put _ (some 28) _ = _
  simp only [Act.put, zs1, zs2, zs3, i64_w, i32_w]
  rfl
 refine last_ (i := 8) (N := some 29) (qq 14 511) rfl rfl (one_of HT_.out (by kernel_rfl)) (by decide) (fun K hK => ?_)
 refine goes_ Try.func15 (by kernel_rfl) rfl #[.agg #[.int .i64 s, .int .i64 b, .int .i64 n, .slice A l.length c], .slice A28 ([] ++ lb ++ [120] ++ la).length c28] (by rfl) rfl rfl (by (try simp only [zm1, zm2, zm3]); first | done | rfl) ?_
 refine (match_Of.calls k s b n A c l A28 c28 _ awO 0 w28 (HS.out.step HB.out).rd HC.out H28.out HL28.out HMO.out).mono ?_
 rintro e w29 ⟨v29, rfl, hN, hb⟩
 obtain ⟨Am, cm, rfl, hlm, hrm⟩ := Kd.N_reads hN
 have HM := zA hrm
 have HLM := zA hlm
 have HB9 := zA (zb5 (zb5 (zb5 HB1.out HB2'.out) (HS.out.step HB.out).bl) hb)
 refine ⟨_, rfl, ?_⟩
 refine hK.out _ _ ?_
 clear hK K
 refine norm_ (a' := ?_) ?_ ?_
 rotate_left
 ·show Act.put _ (some 29) _ = _
  simp only [Act.put, zs1, zs2, zs3, i64_w, i32_w]
  rfl
 refine ord_ [(0, 9, 1023), (0, 10, 2047), (0, 11, 4095), (0, 12, 8191), (0, 13, 16383)] ?_
 repeat (refine kk_ 0 ?_; refine oP_ (v := ?_) (a' := ?_) HT_ rfl rfl (by kernel_rfl) (fun _ _ _ h => h) (Or.inl ⟨by rfl, ?_⟩) ?_ ?_; rotate_left; (intro w'; go_simp; with_reducible rfl); rotate_left; (simp only [Act.put, zs1, zs2, zs3, i64_w, i32_w]; rfl))
 refine oend_ ?_
 refine done_ (done_of HT_.out (by kernel_rfl)) ?_
 clear hN hb hlm hrm HMO HA HE HS H28 HL28 HT_ HW_ hHeld HC HB1 HB2 HB2' HB
 have kc := fun (w : World) (C : Array Value) (n c : Nat) => Lib.run_convert_bytes_const (P := Try.prog) w 33 5 C n c Try.underlying33 Try.underlying5
 go_wp2_with (first | ((with_reducible refine gate_dst (N := 42) rfl ?_); (try (refine gate_guard (by rfl) ?_; dsimp only)); refine aw_conv ?hg (N := 42) ?hd [120] ?hC rfl (by decide) ?hr ?_; (case hd => rfl); (case hg => rfl); (case hC => rfl); (case hr => first | (go_simp; done) | (go_simp; rfl)); intro A42 w42 hx hb; have H42 := zA hx; have HB42 := zA hb; clear hx hb))
 clear kc
 have HB10 := zA (zb3 (Below.refl w42.heap.size w42) (.cells #[.int .i64 16, .int .i64 16, .slice none 0 0, .int .i64 0, .int .i64 0, .slice (some A42) 1 1, .int .i64 0, .int .i64 16, .slice none 0 0] 47))
 refine (delta_Same.calls k Am cm awO _ 3 awO true _ (Kd.C_below HM.out (zb5 HB42.out HB10.out)) HLM.out (aw_opC H42.out (Nat.le_refl _)) (by decide) HSM.out).mono ?_
 rintro e w50 ⟨rfl, hb⟩
 replace HB9 := zA (zb5 (zb5 (zb5 HB9.out HB42.out) HB10.out) (by first | exact hb | exact hb.below))
 clear hb HM HLM H42 HB42 HB10
 go_wp2_with fail
 go_ret
 exact ⟨rfl, HB9.out⟩


/-! ### delta_told: function 38 -/
def delta_told.f (a0_0 : Int) (a0_1 : Int) (l0_2 : List Int) : Option (Bool) := some (decide ((l0_2.length : Int) > 0))
set_option maxHeartbeats 8000000 in
set_option maxRecDepth 100000 in
theorem delta_told.calls (a0_0 : Int) (a0_1 : Int) (A0_2 : Option Addr) (c0_2 : Nat) (l0_2 : List Int) (r : Bool) (w : World) (hr0_2 : Kd.C (Kd.int .u8) w A0_2 l0_2.length l0_2) (hc0_2 : l0_2.length ≤ c0_2) (h : delta_told.f a0_0 a0_1 l0_2 = some r) :
    Calls Try.prog 38 #[.agg #[.int .i64 a0_0, .int .i64 a0_1, .slice A0_2 l0_2.length c0_2]] w fun e w' => e = .returned (.bool r) ∧ Below w.heap.size w w' := by
 have hu47 := Try.underlying47
 have HR0_2 := zA hr0_2
 have HC0_2 := zA hc0_2
 clear hr0_2 hc0_2
 have HB := zA (Below.refl w.heap.size w)
 have H : (some (decide ((l0_2.length : Int) > 0))) = some r := h
 clear h
 obtain rfl := Option.some.inj H
 go_enter Try.func38, Try.ntmps38
 go_wp2_with (first | ((with_reducible refine gate_dst (N := 1) rfl ?_); refine box_event ?hg (N := 1) ?hd (cs := #[.int .i64 a0_0, .int .i64 a0_1, .slice A0_2 l0_2.length c0_2]) (t := 47) ?hr ?_; (case hd => rfl); (case hg => rfl); (case hr => first | (go_simp; done) | (go_simp; rfl)); intro gb154 hg w2 hbox hb; have n0_ := zA (zb5 (by repeat (first | (with_reducible first | exact HB.out | apply zb3 | apply zb1 | apply zb2) | exact HB.out)) hb); have n1_ := zA (hbox); have n2_ := zA ((by rw [hg]; exact (zb6 (by repeat (first | (with_reducible first | exact HB.out | apply zb3 | apply zb1 | apply zb2) | exact HB.out))) : w.heap.size ≤ gb154)); have n3_ := zA ((by rw [hg]; exact (zb6 (by repeat (first | (with_reducible first | exact HB.out | apply zb3 | apply zb1 | apply zb2) | exact HB.out))) : w.heap.size ≤ gb154)); clear HB; have HB := n0_; have BK154 := n1_; have GW154 := n2_; have GE154 := n3_; clear n0_ n1_ n2_ n3_; clear hb hbox hg; have hcz3_0 : w2.cell? ⟨gb154, 0, none⟩ = some (.int .i64 a0_0) := (zc1 BK154.out 0).trans rfl; have hcz3_1 : w2.cell? ⟨gb154, 1, none⟩ = some (.int .i64 a0_1) := (zc1 BK154.out 1).trans rfl; have hcz3_2 : w2.cell? ⟨gb154, 2, none⟩ = some (.slice A0_2 l0_2.length c0_2) := (zc1 BK154.out 2).trans rfl; have hfz3_0 := zc5 BK154.out 0; have hfz3_1 := zc5 BK154.out 1; have hfz3_2 := zc5 BK154.out 2))
 go_ret
 exact ⟨by first | rfl | (simp [*] <;> rfl), by repeat (first | (with_reducible first | exact HB.out | apply zb3 | apply zb1 | apply zb2 | refine zb4 ?_ GE154.out) | exact HB.out)⟩

/-! ### delta_length: function 39 -/
def delta_length.f (a0_0 : Int) (a0_1 : Int) (l0_2 : List Int) : Option (Int) := (delta_told.f a0_0 a0_1 l0_2).bind fun t156 => (if t156 = true then (some (l0_2.length : Int)) else (some (mx a0_1 0)))
set_option maxHeartbeats 8000000 in
set_option maxRecDepth 100000 in
theorem delta_length.calls (a0_0 : Int) (a0_1 : Int) (A0_2 : Option Addr) (c0_2 : Nat) (l0_2 : List Int) (r : Int) (w : World) (hr0_2 : Kd.C (Kd.int .u8) w A0_2 l0_2.length l0_2) (hc0_2 : l0_2.length ≤ c0_2) (h : delta_length.f a0_0 a0_1 l0_2 = some r) :
    Calls Try.prog 39 #[.agg #[.int .i64 a0_0, .int .i64 a0_1, .slice A0_2 l0_2.length c0_2]] w fun e w' => e = .returned (.int .i64 r) ∧ Below w.heap.size w w' := by
 have hu47 := Try.underlying47
 have HR0_2 := zA hr0_2
 have HC0_2 := zA hc0_2
 clear hr0_2 hc0_2
 have HB := zA (Below.refl w.heap.size w)
 have H : ((delta_told.f a0_0 a0_1 l0_2).bind fun t156 => (if t156 = true then (some (l0_2.length : Int)) else (some (mx a0_1 0)))) = some r := h
 clear h
 replace H := Option.bind_eq_some_iff.mp H
 obtain ⟨t156, A20, H⟩ := H
 replace H : (if t156 = true then (some (l0_2.length : Int)) else (some (mx a0_1 0))) = some r := H
 have A2 := zA A20
 clear A20
 by_cases c3 : t156 = true
 ·subst c3
  have H1 : (some (l0_2.length : Int)) = some r := by rw [if_pos rfl] at H; exact H
  clear H
  have H := H1
  clear H1
  obtain rfl := Option.some.inj H
  go_enter Try.func39, Try.ntmps39
  go_wp2_with (first | ((with_reducible refine gate_dst (N := 1) rfl ?_); refine box_event ?hg (N := 1) ?hd (cs := #[.int .i64 a0_0, .int .i64 a0_1, .slice A0_2 l0_2.length c0_2]) (t := 47) ?hr ?_; (case hd => rfl); (case hg => rfl); (case hr => first | (go_simp; done) | (go_simp; rfl)); intro gb155 hg w4 hbox hb; have n0_ := zA (zb5 (by repeat (first | (with_reducible first | exact HB.out | apply zb3 | apply zb1 | apply zb2) | exact HB.out)) hb); have n1_ := zA (hbox); have n2_ := zA ((by rw [hg]; exact (zb6 (by repeat (first | (with_reducible first | exact HB.out | apply zb3 | apply zb1 | apply zb2) | exact HB.out))) : w.heap.size ≤ gb155)); have n3_ := zA ((by rw [hg]; exact (zb6 (by repeat (first | (with_reducible first | exact HB.out | apply zb3 | apply zb1 | apply zb2) | exact HB.out))) : w.heap.size ≤ gb155)); clear HB; have HB := n0_; have BK155 := n1_; have GW155 := n2_; have GE155 := n3_; clear n0_ n1_ n2_ n3_; clear hb hbox hg; have hcz5_0 : w4.cell? ⟨gb155, 0, none⟩ = some (.int .i64 a0_0) := (zc1 BK155.out 0).trans rfl; have hcz5_1 : w4.cell? ⟨gb155, 1, none⟩ = some (.int .i64 a0_1) := (zc1 BK155.out 1).trans rfl; have hcz5_2 : w4.cell? ⟨gb155, 2, none⟩ = some (.slice A0_2 l0_2.length c0_2) := (zc1 BK155.out 2).trans rfl; have hfz5_0 := zc5 BK155.out 0; have hfz5_1 := zc5 BK155.out 1; have hfz5_2 := zc5 BK155.out 2) | ((with_reducible refine gate_callee (f := 38) rfl ?_); refine goesL_ (some 4) rfl rfl Try.func38 (by kernel_rfl) rfl #[.agg #[.int .i64 a0_0, .int .i64 a0_1, .slice A0_2 l0_2.length c0_2]] rfl (by (try simp only [zm1, zm2, zm3]); first | done | rfl | (simp only [List.length_drop, List.length_take]; rfl)) ?_; (with_reducible refine (delta_told.calls a0_0 a0_1 _ _ l0_2 true _ ?side1 ?side2 A2.out).mono ?_); (case side1 => repeat (first | exact (Kd.C_below HR0_2.out HB.out) | (with_reducible refine Kd.C_alloc ?_ _) | (with_reducible refine Kd.C_drewN ?_ _) | (with_reducible refine Kd.C_drew ?_))); (case side2 => exact HC0_2.out); rintro e w6 ⟨rfl, hb⟩; refine ⟨_, rfl, ?_⟩; have n0_ := zA (zc6 (g := gb155) (o := .cells #[.int .i64 a0_0, .int .i64 a0_1, .slice A0_2 l0_2.length c0_2] 47 (0, 0)) (by (with_reducible repeat (first | refine zc3 ?_ _ | refine zc4 ?_ | refine zc2 ?_ _)); exact BK155.out) hb); have n1_ := zA (zb5 (by repeat (first | (with_reducible first | exact HB.out | apply zb3 | apply zb1 | apply zb2 | refine zb4 ?_ GE155.out) | exact HB.out)) hb); clear BK155; clear HB; have BK155 := n0_; have HB := n1_; clear n0_ n1_; (try clear hb); (try clear hb2); (try clear hk); (try clear hi); have hcz7_0 : w6.cell? ⟨gb155, 0, none⟩ = some (.int .i64 a0_0) := (zc1 BK155.out 0).trans rfl; have hcz7_1 : w6.cell? ⟨gb155, 1, none⟩ = some (.int .i64 a0_1) := (zc1 BK155.out 1).trans rfl; have hcz7_2 : w6.cell? ⟨gb155, 2, none⟩ = some (.slice A0_2 l0_2.length c0_2) := (zc1 BK155.out 2).trans rfl; have hfz7_0 := zc5 BK155.out 0; have hfz7_1 := zc5 BK155.out 1; have hfz7_2 := zc5 BK155.out 2))
  go_ret
  exact ⟨by first | rfl | (simp [*] <;> rfl), by repeat (first | (with_reducible first | exact HB.out | apply zb3 | apply zb1 | apply zb2 | refine zb4 ?_ GE155.out) | exact HB.out)⟩
 ·replace c3 := Bool.eq_false_iff.mpr c3
  subst c3
  have H1 : (some (mx a0_1 0)) = some r := by rw [if_neg (show ¬ (false = true) by decide)] at H; exact H
  clear H
  have H := H1
  clear H1
  obtain ⟨ji8, hji8⟩ : ∃ j_ : Int, (mx a0_1 0) = j_ := ⟨_, rfl⟩
  replace H : (some ji8) = some r := by first | (rw [hji8] at H; exact H) | (simp only [hji8] at H ⊢; exact H)
  (try rw [hji8] at A2)
  (try (have hji8l : 0 ≤ ji8 := by (rw [← hji8]; unfold mx; (repeat' split) <;> omega)))
  (try (have hji8m : 0 ≤ ji8 := by omega))
  have hji8_ : (if a0_1 < 0 then 0 else a0_1) = ji8 := hji8
  obtain rfl := Option.some.inj H
  go_enter Try.func39, Try.ntmps39
  go_wp2_with (first | ((with_reducible refine gate_dst (N := 1) rfl ?_); refine box_event ?hg (N := 1) ?hd (cs := #[.int .i64 a0_0, .int .i64 a0_1, .slice A0_2 l0_2.length c0_2]) (t := 47) ?hr ?_; (case hd => rfl); (case hg => rfl); (case hr => first | (go_simp; done) | (go_simp; rfl)); intro gb155 hg w9 hbox hb; have n0_ := zA (zb5 (by repeat (first | (with_reducible first | exact HB.out | apply zb3 | apply zb1 | apply zb2) | exact HB.out)) hb); have n1_ := zA (hbox); have n2_ := zA ((by rw [hg]; exact (zb6 (by repeat (first | (with_reducible first | exact HB.out | apply zb3 | apply zb1 | apply zb2) | exact HB.out))) : w.heap.size ≤ gb155)); have n3_ := zA ((by rw [hg]; exact (zb6 (by repeat (first | (with_reducible first | exact HB.out | apply zb3 | apply zb1 | apply zb2) | exact HB.out))) : w.heap.size ≤ gb155)); clear HB; have HB := n0_; have BK155 := n1_; have GW155 := n2_; have GE155 := n3_; clear n0_ n1_ n2_ n3_; clear hb hbox hg; have hcz10_0 : w9.cell? ⟨gb155, 0, none⟩ = some (.int .i64 a0_0) := (zc1 BK155.out 0).trans rfl; have hcz10_1 : w9.cell? ⟨gb155, 1, none⟩ = some (.int .i64 a0_1) := (zc1 BK155.out 1).trans rfl; have hcz10_2 : w9.cell? ⟨gb155, 2, none⟩ = some (.slice A0_2 l0_2.length c0_2) := (zc1 BK155.out 2).trans rfl; have hfz10_0 := zc5 BK155.out 0; have hfz10_1 := zc5 BK155.out 1; have hfz10_2 := zc5 BK155.out 2) | ((with_reducible refine gate_callee (f := 38) rfl ?_); refine goesL_ (some 4) rfl rfl Try.func38 (by kernel_rfl) rfl #[.agg #[.int .i64 a0_0, .int .i64 a0_1, .slice A0_2 l0_2.length c0_2]] rfl (by (try simp only [zm1, zm2, zm3]); first | done | rfl | (simp only [List.length_drop, List.length_take]; rfl)) ?_; (with_reducible refine (delta_told.calls a0_0 a0_1 _ _ l0_2 false _ ?side1 ?side2 A2.out).mono ?_); (case side1 => repeat (first | exact (Kd.C_below HR0_2.out HB.out) | (with_reducible refine Kd.C_alloc ?_ _) | (with_reducible refine Kd.C_drewN ?_ _) | (with_reducible refine Kd.C_drew ?_))); (case side2 => exact HC0_2.out); rintro e w11 ⟨rfl, hb⟩; refine ⟨_, rfl, ?_⟩; have n0_ := zA (zc6 (g := gb155) (o := .cells #[.int .i64 a0_0, .int .i64 a0_1, .slice A0_2 l0_2.length c0_2] 47 (0, 0)) (by (with_reducible repeat (first | refine zc3 ?_ _ | refine zc4 ?_ | refine zc2 ?_ _)); exact BK155.out) hb); have n1_ := zA (zb5 (by repeat (first | (with_reducible first | exact HB.out | apply zb3 | apply zb1 | apply zb2 | refine zb4 ?_ GE155.out) | exact HB.out)) hb); clear BK155; clear HB; have BK155 := n0_; have HB := n1_; clear n0_ n1_; (try clear hb); (try clear hb2); (try clear hk); (try clear hi); have hcz12_0 : w11.cell? ⟨gb155, 0, none⟩ = some (.int .i64 a0_0) := (zc1 BK155.out 0).trans rfl; have hcz12_1 : w11.cell? ⟨gb155, 1, none⟩ = some (.int .i64 a0_1) := (zc1 BK155.out 1).trans rfl; have hcz12_2 : w11.cell? ⟨gb155, 2, none⟩ = some (.slice A0_2 l0_2.length c0_2) := (zc1 BK155.out 2).trans rfl; have hfz12_0 := zc5 BK155.out 0; have hfz12_1 := zc5 BK155.out 1; have hfz12_2 := zc5 BK155.out 2))
  go_ret
  exact ⟨by first | rfl | (simp [errW_none, errW_some] <;> rfl) | (simp only [← hji8]; first | rfl | (simp [errW_none, errW_some] <;> rfl)) | (simp [*, errW_none, errW_some] <;> rfl), by repeat (first | (with_reducible first | exact HB.out | apply zb3 | apply zb1 | apply zb2 | refine zb4 ?_ GE155.out) | exact HB.out)⟩

/-! ### delta_Cost: function 20 -/
def delta_Cost.l0 : Nat → Int → Int → List (S47) → Int → Int → Option (Int × Int)
 | 0, _, _, _, _, _ => none
 | k + 1, x4, x5, x8, x9, x10 => if x10 < x9 then (if 0 ≤ x10 then (if x10 < (x8.length : Int) then ((delta_told.f ((rd_T47 x8 x10).f0) ((rd_T47 x8 x10).f1) ((rd_T47 x8 x10).f2)).bind fun t159 => (if t159 = true then ((delta_length.f ((rd_T47 x8 x10).f0) ((rd_T47 x8 x10).f1) ((rd_T47 x8 x10).f2)).bind fun t160 => (delta_Cost.l0 k (wrap64 (x4 + t160)) x5 x8 x9 (wrap64 (x10 + 1)))) else ((delta_length.f ((rd_T47 x8 x10).f0) ((rd_T47 x8 x10).f1) ((rd_T47 x8 x10).f2)).bind fun t161 => (delta_Cost.l0 k x4 (wrap64 (x5 + t161)) x8 x9 (wrap64 (x10 + 1)))))) else (none)) else (none)) else (some (x4, x5))
def delta_Cost.f (k : Nat) (l0 : List (S47)) : Option (Int × Int) := delta_Cost.l0 k 0 0 l0 (l0.length : Int) 0
theorem delta_Cost.mono_l : ∀ k, (∀ y0 y1 y2 y3 y4, LeO (delta_Cost.l0 k y0 y1 y2 y3 y4) (delta_Cost.l0 (k + 1) y0 y1 y2 y3 y4))
 | 0 => fun _ _ _ _ _ r h => by simp [delta_Cost.l0] at h
 | k + 1 => by
  have ih0 := delta_Cost.mono_l k
  ·intro y0 y1 y2 y3 y4
   unfold delta_Cost.l0
   repeat' first
   | (with_reducible exact ih0 _ _ _ _ _)
   | (with_reducible exact LeO.refl _)
   | (with_reducible exact LeO.none _)
   | (with_reducible refine LeO.ite ?_ ?_)
   | (with_reducible refine LeO.bind ?_ (fun _ => ?_))
   | exact ih0 _ _ _ _ _
   | exact LeO.none _
   | refine LeO.ite ?_ ?_
   | refine LeO.bind ?_ (fun _ => ?_)
theorem delta_Cost.mono : ∀ a0 k, LeO (delta_Cost.f k a0) (delta_Cost.f (k + 1) a0) := by
 intro a0 k
 have ih0 := delta_Cost.mono_l k
 unfold delta_Cost.f
 repeat' first
     | (with_reducible exact ih0 _ _ _ _ _)
     | (with_reducible exact LeO.refl _)
     | (with_reducible exact LeO.none _)
     | (with_reducible refine LeO.ite ?_ ?_)
     | (with_reducible refine LeO.bind ?_ (fun _ => ?_))
     | exact ih0 _ _ _ _ _
     | exact LeO.none _
     | refine LeO.ite ?_ ?_
     | refine LeO.bind ?_ (fun _ => ?_)
set_option maxHeartbeats 8000000 in
set_option maxRecDepth 100000 in
theorem delta_Cost.calls (k : Nat) (A0 : Option Addr) (c0 : Nat) (l0 : List (S47)) (r1 : Int) (r2 : Int) (w : World) (hr0 : Kd.C k47 w A0 l0.length l0) (hc0 : l0.length ≤ c0) (h : delta_Cost.f k l0 = some (r1, r2)) :
    Calls Try.prog 20 #[.slice A0 l0.length c0] w fun e w' => e = .returned (.tuple #[.int .i64 r1, .int .i64 r2]) ∧ Below w.heap.size w w' := by
 have hu47 := Try.underlying47
 have HR0 := zA hr0
 have HC0 := zA hc0
 clear hr0 hc0
 have HB := zA (Below.refl w.heap.size w)
 have H : (delta_Cost.l0 k 0 0 l0 (l0.length : Int) 0) = some (r1, r2) := h
 clear h
 have H' := zA H
 clear H
 go_enter Try.func20, Try.ntmps20
 go_wp2
 go_loopg [4, 5, 10] k (fun kq v4 v5 v10 w' => ∃ (x4_1 : Int) (x5_1 : Int) (x10_1 : Int), v4 = .int .i64 x4_1 ∧ v5 = .int .i64 x5_1 ∧ v10 = .int .i64 x10_1 ∧ Aside0 (delta_Cost.l0 kq x4_1 x5_1 l0 (l0.length : Int) x10_1 = some (r1, r2)) ∧ Aside0 (kq ≤ k) ∧ Aside0 (Below w.heap.size w w'))
 case atStart => exact ⟨(0), (0), (0), (by first | rfl | (simp; done) | (simp [*]; done)), (by first | rfl | (simp; done) | (simp [*]; done)), (by first | rfl | (simp; done) | (simp [*]; done)), H', ⟨Nat.le_refl _⟩, ⟨by repeat (first | (with_reducible first | exact HB.out | apply zb3 | apply zb1 | apply zb2) | exact HB.out)⟩⟩
 case round =>
  clear H'
  obtain ⟨x4_1, x5_1, x10_1, rfl, rfl, rfl, HA, HK1, HB⟩ := hrel
  cases gk with
  | zero => exact absurd HA.out (by simp [delta_Cost.l0])
  | succ k1 =>
   have H := HA.out
   clear HA
   simp only [delta_Cost.l0] at H
   by_cases c2 : x10_1 < (l0.length : Int)
   ·rw [if_pos c2] at H
    have c2b0 : decide (x10_1 < (l0.length : Int)) = true := zd1 c2
    clear c2
    by_cases c3 : 0 ≤ x10_1
    ·rw [if_pos c3] at H
     have c3b0 : decide (0 ≤ x10_1) = true := zd1 c3
     clear c3
     by_cases c4 : x10_1 < (l0.length : Int)
     ·rw [if_pos c4] at H
      have c4b0 : decide (x10_1 < (l0.length : Int)) = true := zd1 c4
      clear c4
      replace H := Option.bind_eq_some_iff.mp H
      obtain ⟨t159, A50, H⟩ := H
      replace H : (if t159 = true then ((delta_length.f ((rd_T47 l0 x10_1).f0) ((rd_T47 l0 x10_1).f1) ((rd_T47 l0 x10_1).f2)).bind fun t160 => (delta_Cost.l0 k1 (wrap64 (x4_1 + t160)) x5_1 l0 (l0.length : Int) (wrap64 (x10_1 + 1)))) else ((delta_length.f ((rd_T47 l0 x10_1).f0) ((rd_T47 l0 x10_1).f1) ((rd_T47 l0 x10_1).f2)).bind fun t161 => (delta_Cost.l0 k1 x4_1 (wrap64 (x5_1 + t161)) l0 (l0.length : Int) (wrap64 (x10_1 + 1))))) = some (r1, r2) := H
      have A5 := zA A50
      clear A50
      by_cases c6 : t159 = true
      ·subst c6
       have H1 : ((delta_length.f ((rd_T47 l0 x10_1).f0) ((rd_T47 l0 x10_1).f1) ((rd_T47 l0 x10_1).f2)).bind fun t160 => (delta_Cost.l0 k1 (wrap64 (x4_1 + t160)) x5_1 l0 (l0.length : Int) (wrap64 (x10_1 + 1)))) = some (r1, r2) := by rw [if_pos rfl] at H; exact H
       clear H
       have H := H1
       clear H1
       replace H := Option.bind_eq_some_iff.mp H
       obtain ⟨t160, A70, H⟩ := H
       replace H : (delta_Cost.l0 k1 (wrap64 (x4_1 + t160)) x5_1 l0 (l0.length : Int) (wrap64 (x10_1 + 1))) = some (r1, r2) := H
       have A7 := zA A70
       clear A70
       have H' := zA H
       clear H
       have p157 : 0 ≤ (x10_1 : Int) := zd3 (by first | (with_reducible assumption) | assumption)
       have q157 : x10_1 < (l0.length : Int) := zd3 (by first | (with_reducible assumption) | assumption)
       obtain ⟨ad157, A157_2, c157_2, e157, hx157_0, hx157_1, hx157_2, hl157_2, hi157_2⟩ := at_T47 HR0.out x10_1 p157 q157
       cases e157
       replace hx157_0 := (HB.out.cell (World.block_lt_of_cell? w _ hx157_0)).trans hx157_0
       replace hx157_1 := (HB.out.cell (World.block_lt_of_cell? w _ hx157_1)).trans hx157_1
       replace hx157_2 := (HB.out.cell (World.block_lt_of_cell? w _ hx157_2)).trans hx157_2
       have HR157_2 := zA hi157_2
       have HC157_2 := zA hl157_2
       clear hi157_2 hl157_2
       replace p157 := eq_true p157
       replace q157 := eq_true q157
       go_wp2_with (first | ((with_reducible refine gate_dst (N := 7) rfl ?_); refine box_event ?hg (N := 7) ?hd (cs := #[.int .i64 0, .int .i64 0, .slice none 0 0]) (t := 47) ?hr ?_; (case hd => rfl); (case hg => rfl); (case hr => first | (go_simp; done) | (go_simp; rfl)); intro gb158 hg w8 hbox hb; have n0_ := zA (zb5 (by repeat (first | (with_reducible first | exact HB.out | apply zb3 | apply zb1 | apply zb2) | exact HB.out)) hb); have n1_ := zA (hbox); have n2_ := zA ((by rw [hg]; exact (zb6 (by repeat (first | (with_reducible first | exact HB.out | apply zb3 | apply zb1 | apply zb2) | exact HB.out))) : w.heap.size ≤ gb158)); have n3_ := zA ((by rw [hg]; exact (zb6 (by repeat (first | (with_reducible first | exact HB.out | apply zb3 | apply zb1 | apply zb2) | exact HB.out))) : w.heap.size ≤ gb158)); clear HB; have HB := n0_; have BK158 := n1_; have GW158 := n2_; have GE158 := n3_; clear n0_ n1_ n2_ n3_; clear hb hbox hg; have hcz9_0 : w8.cell? ⟨gb158, 0, none⟩ = some (.int .i64 0) := (zc1 BK158.out 0).trans rfl; have hcz9_1 : w8.cell? ⟨gb158, 1, none⟩ = some (.int .i64 0) := (zc1 BK158.out 1).trans rfl; have hcz9_2 : w8.cell? ⟨gb158, 2, none⟩ = some (.slice none 0 0) := (zc1 BK158.out 2).trans rfl; have hfz9_0 := zc5 BK158.out 0; have hfz9_1 := zc5 BK158.out 1; have hfz9_2 := zc5 BK158.out 2) | ((with_reducible refine gate_callee (f := 38) rfl ?_); refine goesL_ (some 15) rfl rfl Try.func38 (by kernel_rfl) rfl #[.agg #[.int .i64 ((rd_T47 l0 x10_1).f0), .int .i64 ((rd_T47 l0 x10_1).f1), .slice A157_2 ((rd_T47 l0 x10_1).f2).length c157_2]] rfl (by (try simp only [zm1, zm2, zm3]); first | done | rfl | (simp only [List.length_drop, List.length_take]; rfl)) ?_; (with_reducible refine (delta_told.calls ((rd_T47 l0 x10_1).f0) ((rd_T47 l0 x10_1).f1) _ _ ((rd_T47 l0 x10_1).f2) true _ ?side1 ?side2 A5.out).mono ?_); (case side1 => exact Kd.C_below HR157_2.out (by repeat (first | (with_reducible first | exact HB.out | apply zb3 | apply zb1 | apply zb2 | refine zb4 ?_ GE158.out) | exact HB.out))); (case side2 => exact HC157_2.out); rintro e w10 ⟨rfl, hb⟩; refine ⟨_, rfl, ?_⟩; have n0_ := zA (zc6 (g := gb158) (o := .cells #[.int .i64 ((rd_T47 l0 x10_1).f0), .int .i64 ((rd_T47 l0 x10_1).f1), .slice A157_2 ((rd_T47 l0 x10_1).f2).length c157_2] 47 (0, 0)) (by (with_reducible repeat (first | refine zc3 ?_ _ | refine zc4 ?_ | refine zc2 ?_ _)); refine blk_put (cs := #[.int .i64 ((rd_T47 l0 x10_1).f0), .int .i64 ((rd_T47 l0 x10_1).f1), .slice none 0 0]) ?_ 2 _ rfl; (with_reducible repeat (first | refine zc3 ?_ _ | refine zc4 ?_ | refine zc2 ?_ _)); refine blk_put (cs := #[.int .i64 ((rd_T47 l0 x10_1).f0), .int .i64 0, .slice none 0 0]) ?_ 1 _ rfl; (with_reducible repeat (first | refine zc3 ?_ _ | refine zc4 ?_ | refine zc2 ?_ _)); refine blk_put (cs := #[.int .i64 0, .int .i64 0, .slice none 0 0]) ?_ 0 _ rfl; (with_reducible repeat (first | refine zc3 ?_ _ | refine zc4 ?_ | refine zc2 ?_ _)); exact BK158.out) hb); have n1_ := zA (zb5 (by repeat (first | (with_reducible first | exact HB.out | apply zb3 | apply zb1 | apply zb2 | refine zb4 ?_ GE158.out) | exact HB.out)) hb); clear BK158; clear HB; have BK158 := n0_; have HB := n1_; clear n0_ n1_; (try clear hb); (try clear hb2); (try clear hk); (try clear hi); have hcz11_0 : w10.cell? ⟨gb158, 0, none⟩ = some (.int .i64 ((rd_T47 l0 x10_1).f0)) := (zc1 BK158.out 0).trans rfl; have hcz11_1 : w10.cell? ⟨gb158, 1, none⟩ = some (.int .i64 ((rd_T47 l0 x10_1).f1)) := (zc1 BK158.out 1).trans rfl; have hcz11_2 : w10.cell? ⟨gb158, 2, none⟩ = some (.slice A157_2 ((rd_T47 l0 x10_1).f2).length c157_2) := (zc1 BK158.out 2).trans rfl; have hfz11_0 := zc5 BK158.out 0; have hfz11_1 := zc5 BK158.out 1; have hfz11_2 := zc5 BK158.out 2) | ((with_reducible refine gate_callee (f := 39) rfl ?_); refine goesL_ (some 18) rfl rfl Try.func39 (by kernel_rfl) rfl #[.agg #[.int .i64 ((rd_T47 l0 x10_1).f0), .int .i64 ((rd_T47 l0 x10_1).f1), .slice A157_2 ((rd_T47 l0 x10_1).f2).length c157_2]] rfl (by (try simp only [zm1, zm2, zm3]); first | done | rfl | (simp only [List.length_drop, List.length_take]; rfl)) ?_; (with_reducible refine (delta_length.calls ((rd_T47 l0 x10_1).f0) ((rd_T47 l0 x10_1).f1) _ _ ((rd_T47 l0 x10_1).f2) t160 _ ?side1 ?side2 A7.out).mono ?_); (case side1 => repeat (first | exact (Kd.C_below HR157_2.out HB.out) | (with_reducible refine Kd.C_alloc ?_ _) | (with_reducible refine Kd.C_drewN ?_ _) | (with_reducible refine Kd.C_drew ?_))); (case side2 => exact HC157_2.out); rintro e w12 ⟨rfl, hb⟩; refine ⟨_, rfl, ?_⟩; have n0_ := zA (zc6 (g := gb158) (o := .cells #[.int .i64 ((rd_T47 l0 x10_1).f0), .int .i64 ((rd_T47 l0 x10_1).f1), .slice A157_2 ((rd_T47 l0 x10_1).f2).length c157_2] 47 (0, 0)) (by (with_reducible repeat (first | refine zc3 ?_ _ | refine zc4 ?_ | refine zc2 ?_ _)); exact BK158.out) hb); have n1_ := zA (zb5 (by repeat (first | (with_reducible first | exact HB.out | apply zb3 | apply zb1 | apply zb2 | refine zb4 ?_ GE158.out) | exact HB.out)) hb); clear BK158; clear HB; have BK158 := n0_; have HB := n1_; clear n0_ n1_; (try clear hb); (try clear hb2); (try clear hk); (try clear hi)))
       go_roundg k1
       case measure => have := HK1.out; omega
       case rel => exact ⟨(wrap64 (x4_1 + t160)), (x5_1), (wrap64 (x10_1 + 1)), (by first | rfl | (simp; done) | (simp [*]; done)), (by first | rfl | (simp; done) | (simp [*]; done)), (by first | rfl | (simp; done) | (simp [*]; done)), H', ⟨by have := HK1.out; omega⟩, ⟨by repeat (first | (with_reducible first | exact HB.out | apply zb3 | apply zb1 | apply zb2 | refine zb4 ?_ GE158.out) | exact HB.out)⟩⟩
      ·replace c6 := Bool.eq_false_iff.mpr c6
       subst c6
       have H1 : ((delta_length.f ((rd_T47 l0 x10_1).f0) ((rd_T47 l0 x10_1).f1) ((rd_T47 l0 x10_1).f2)).bind fun t161 => (delta_Cost.l0 k1 x4_1 (wrap64 (x5_1 + t161)) l0 (l0.length : Int) (wrap64 (x10_1 + 1)))) = some (r1, r2) := by rw [if_neg (show ¬ (false = true) by decide)] at H; exact H
       clear H
       have H := H1
       clear H1
       replace H := Option.bind_eq_some_iff.mp H
       obtain ⟨t161, A130, H⟩ := H
       replace H : (delta_Cost.l0 k1 x4_1 (wrap64 (x5_1 + t161)) l0 (l0.length : Int) (wrap64 (x10_1 + 1))) = some (r1, r2) := H
       have A13 := zA A130
       clear A130
       have H' := zA H
       clear H
       have p157 : 0 ≤ (x10_1 : Int) := zd3 (by first | (with_reducible assumption) | assumption)
       have q157 : x10_1 < (l0.length : Int) := zd3 (by first | (with_reducible assumption) | assumption)
       obtain ⟨ad157, A157_2, c157_2, e157, hx157_0, hx157_1, hx157_2, hl157_2, hi157_2⟩ := at_T47 HR0.out x10_1 p157 q157
       cases e157
       replace hx157_0 := (HB.out.cell (World.block_lt_of_cell? w _ hx157_0)).trans hx157_0
       replace hx157_1 := (HB.out.cell (World.block_lt_of_cell? w _ hx157_1)).trans hx157_1
       replace hx157_2 := (HB.out.cell (World.block_lt_of_cell? w _ hx157_2)).trans hx157_2
       have HR157_2 := zA hi157_2
       have HC157_2 := zA hl157_2
       clear hi157_2 hl157_2
       replace p157 := eq_true p157
       replace q157 := eq_true q157
       go_wp2_with (first | ((with_reducible refine gate_dst (N := 7) rfl ?_); refine box_event ?hg (N := 7) ?hd (cs := #[.int .i64 0, .int .i64 0, .slice none 0 0]) (t := 47) ?hr ?_; (case hd => rfl); (case hg => rfl); (case hr => first | (go_simp; done) | (go_simp; rfl)); intro gb158 hg w14 hbox hb; have n0_ := zA (zb5 (by repeat (first | (with_reducible first | exact HB.out | apply zb3 | apply zb1 | apply zb2) | exact HB.out)) hb); have n1_ := zA (hbox); have n2_ := zA ((by rw [hg]; exact (zb6 (by repeat (first | (with_reducible first | exact HB.out | apply zb3 | apply zb1 | apply zb2) | exact HB.out))) : w.heap.size ≤ gb158)); have n3_ := zA ((by rw [hg]; exact (zb6 (by repeat (first | (with_reducible first | exact HB.out | apply zb3 | apply zb1 | apply zb2) | exact HB.out))) : w.heap.size ≤ gb158)); clear HB; have HB := n0_; have BK158 := n1_; have GW158 := n2_; have GE158 := n3_; clear n0_ n1_ n2_ n3_; clear hb hbox hg; have hcz15_0 : w14.cell? ⟨gb158, 0, none⟩ = some (.int .i64 0) := (zc1 BK158.out 0).trans rfl; have hcz15_1 : w14.cell? ⟨gb158, 1, none⟩ = some (.int .i64 0) := (zc1 BK158.out 1).trans rfl; have hcz15_2 : w14.cell? ⟨gb158, 2, none⟩ = some (.slice none 0 0) := (zc1 BK158.out 2).trans rfl; have hfz15_0 := zc5 BK158.out 0; have hfz15_1 := zc5 BK158.out 1; have hfz15_2 := zc5 BK158.out 2) | ((with_reducible refine gate_callee (f := 38) rfl ?_); refine goesL_ (some 15) rfl rfl Try.func38 (by kernel_rfl) rfl #[.agg #[.int .i64 ((rd_T47 l0 x10_1).f0), .int .i64 ((rd_T47 l0 x10_1).f1), .slice A157_2 ((rd_T47 l0 x10_1).f2).length c157_2]] rfl (by (try simp only [zm1, zm2, zm3]); first | done | rfl | (simp only [List.length_drop, List.length_take]; rfl)) ?_; (with_reducible refine (delta_told.calls ((rd_T47 l0 x10_1).f0) ((rd_T47 l0 x10_1).f1) _ _ ((rd_T47 l0 x10_1).f2) false _ ?side1 ?side2 A5.out).mono ?_); (case side1 => exact Kd.C_below HR157_2.out (by repeat (first | (with_reducible first | exact HB.out | apply zb3 | apply zb1 | apply zb2 | refine zb4 ?_ GE158.out) | exact HB.out))); (case side2 => exact HC157_2.out); rintro e w16 ⟨rfl, hb⟩; refine ⟨_, rfl, ?_⟩; have n0_ := zA (zc6 (g := gb158) (o := .cells #[.int .i64 ((rd_T47 l0 x10_1).f0), .int .i64 ((rd_T47 l0 x10_1).f1), .slice A157_2 ((rd_T47 l0 x10_1).f2).length c157_2] 47 (0, 0)) (by (with_reducible repeat (first | refine zc3 ?_ _ | refine zc4 ?_ | refine zc2 ?_ _)); refine blk_put (cs := #[.int .i64 ((rd_T47 l0 x10_1).f0), .int .i64 ((rd_T47 l0 x10_1).f1), .slice none 0 0]) ?_ 2 _ rfl; (with_reducible repeat (first | refine zc3 ?_ _ | refine zc4 ?_ | refine zc2 ?_ _)); refine blk_put (cs := #[.int .i64 ((rd_T47 l0 x10_1).f0), .int .i64 0, .slice none 0 0]) ?_ 1 _ rfl; (with_reducible repeat (first | refine zc3 ?_ _ | refine zc4 ?_ | refine zc2 ?_ _)); refine blk_put (cs := #[.int .i64 0, .int .i64 0, .slice none 0 0]) ?_ 0 _ rfl; (with_reducible repeat (first | refine zc3 ?_ _ | refine zc4 ?_ | refine zc2 ?_ _)); exact BK158.out) hb); have n1_ := zA (zb5 (by repeat (first | (with_reducible first | exact HB.out | apply zb3 | apply zb1 | apply zb2 | refine zb4 ?_ GE158.out) | exact HB.out)) hb); clear BK158; clear HB; have BK158 := n0_; have HB := n1_; clear n0_ n1_; (try clear hb); (try clear hb2); (try clear hk); (try clear hi); have hcz17_0 : w16.cell? ⟨gb158, 0, none⟩ = some (.int .i64 ((rd_T47 l0 x10_1).f0)) := (zc1 BK158.out 0).trans rfl; have hcz17_1 : w16.cell? ⟨gb158, 1, none⟩ = some (.int .i64 ((rd_T47 l0 x10_1).f1)) := (zc1 BK158.out 1).trans rfl; have hcz17_2 : w16.cell? ⟨gb158, 2, none⟩ = some (.slice A157_2 ((rd_T47 l0 x10_1).f2).length c157_2) := (zc1 BK158.out 2).trans rfl; have hfz17_0 := zc5 BK158.out 0; have hfz17_1 := zc5 BK158.out 1; have hfz17_2 := zc5 BK158.out 2) | ((with_reducible refine gate_callee (f := 39) rfl ?_); refine goesL_ (some 22) rfl rfl Try.func39 (by kernel_rfl) rfl #[.agg #[.int .i64 ((rd_T47 l0 x10_1).f0), .int .i64 ((rd_T47 l0 x10_1).f1), .slice A157_2 ((rd_T47 l0 x10_1).f2).length c157_2]] rfl (by (try simp only [zm1, zm2, zm3]); first | done | rfl | (simp only [List.length_drop, List.length_take]; rfl)) ?_; (with_reducible refine (delta_length.calls ((rd_T47 l0 x10_1).f0) ((rd_T47 l0 x10_1).f1) _ _ ((rd_T47 l0 x10_1).f2) t161 _ ?side1 ?side2 A13.out).mono ?_); (case side1 => repeat (first | exact (Kd.C_below HR157_2.out HB.out) | (with_reducible refine Kd.C_alloc ?_ _) | (with_reducible refine Kd.C_drewN ?_ _) | (with_reducible refine Kd.C_drew ?_))); (case side2 => exact HC157_2.out); rintro e w18 ⟨rfl, hb⟩; refine ⟨_, rfl, ?_⟩; have n0_ := zA (zc6 (g := gb158) (o := .cells #[.int .i64 ((rd_T47 l0 x10_1).f0), .int .i64 ((rd_T47 l0 x10_1).f1), .slice A157_2 ((rd_T47 l0 x10_1).f2).length c157_2] 47 (0, 0)) (by (with_reducible repeat (first | refine zc3 ?_ _ | refine zc4 ?_ | refine zc2 ?_ _)); exact BK158.out) hb); have n1_ := zA (zb5 (by repeat (first | (with_reducible first | exact HB.out | apply zb3 | apply zb1 | apply zb2 | refine zb4 ?_ GE158.out) | exact HB.out)) hb); clear BK158; clear HB; have BK158 := n0_; have HB := n1_; clear n0_ n1_; (try clear hb); (try clear hb2); (try clear hk); (try clear hi)))
       go_roundg k1
       case measure => have := HK1.out; omega
       case rel => exact ⟨(x4_1), (wrap64 (x5_1 + t161)), (wrap64 (x10_1 + 1)), (by first | rfl | (simp; done) | (simp [*]; done)), (by first | rfl | (simp; done) | (simp [*]; done)), (by first | rfl | (simp; done) | (simp [*]; done)), H', ⟨by have := HK1.out; omega⟩, ⟨by repeat (first | (with_reducible first | exact HB.out | apply zb3 | apply zb1 | apply zb2 | refine zb4 ?_ GE158.out) | exact HB.out)⟩⟩
     ·rw [if_neg c4] at H
      exact absurd H (by simp)
    ·rw [if_neg c3] at H
     exact absurd H (by simp)
   ·rw [if_neg c2] at H
    have c2b0 : decide (x10_1 < (l0.length : Int)) = false := zd2 c2
    clear c2
    simp only [Option.some.injEq, Prod.mk.injEq] at H
    obtain ⟨rfl, rfl⟩ := H
    go_wp2
    go_ret2
    exact ⟨by first | rfl | (simp [*] <;> rfl), by repeat (first | (with_reducible first | exact HB.out | apply zb3 | apply zb1 | apply zb2) | exact HB.out)⟩

/-! ### remoralaw09_MatchSame: function 5 -/
def remoralaw09_MatchSame.f (k : Nat) (l0 : List Int) (a1 : Int) (a2 : Int) : Option (Bool) := if (l0.length : Int) > 1500 then ((remoralaw09_awake.f k).bind fun t162 => (some t162)) else ((sig_Of.f k l0 a1 a2).bind fun bt163 => (if bt163.2.2.2.2 = 0 then ((match_Of.f k bt163.1 bt163.2.1 bt163.2.2.1 bt163.2.2.2.1 l0).bind fun bt171 => ((delta_Cost.f k bt171.1).bind fun bt175 => (if bt171.2 = 0 then (if bt175.1 = 0 then (if bt175.2 = (l0.length : Int) then (if (bt171.1.length : Int) = (mn (l0.length : Int) 1) then (if (l0.length : Int) = 0 then ((remoralaw09_awake.f k).bind fun t177 => (some t177)) else (if 0 < (bt171.1.length : Int) then (if ((rd_T47 bt171.1 0).f0) = 0 then ((remoralaw09_awake.f k).bind fun t179 => (some t179)) else (none)) else (none))) else (none)) else (none)) else (none)) else (none)))) else ((remoralaw09_awake.f k).bind fun t180 => (some t180))))
theorem remoralaw09_MatchSame.mono : ∀ a0 a1 a2 k, LeO (remoralaw09_MatchSame.f k a0 a1 a2) (remoralaw09_MatchSame.f (k + 1) a0 a1 a2) := by
 intro a0 a1 a2 k
 unfold remoralaw09_MatchSame.f
 repeat' first
     | (with_reducible exact delta_Cost.mono _ _)
     | (with_reducible exact match_Of.mono _ _ _ _ _ _)
     | (with_reducible exact remoralaw09_awake.mono _)
     | (with_reducible exact sig_Of.mono _ _ _ _)
     | (with_reducible exact LeO.refl _)
     | (with_reducible exact LeO.none _)
     | (with_reducible refine LeO.ite ?_ ?_)
     | (with_reducible refine LeO.bind ?_ (fun _ => ?_))
     | exact delta_Cost.mono _ _
     | exact match_Of.mono _ _ _ _ _ _
     | exact remoralaw09_awake.mono _
     | exact sig_Of.mono _ _ _ _
     | exact LeO.none _
     | refine LeO.ite ?_ ?_
     | refine LeO.bind ?_ (fun _ => ?_)
set_option maxHeartbeats 8000000 in
set_option maxRecDepth 100000 in
theorem remoralaw09_MatchSame.calls (k : Nat) (A0 : Option Addr) (c0 : Nat) (l0 : List Int) (a1 : Int) (a2 : Int) (r : Bool) (w : World) (hr0 : Kd.C (Kd.int .u8) w A0 l0.length l0) (hc0 : l0.length ≤ c0) (h : remoralaw09_MatchSame.f k l0 a1 a2 = some r) :
    Calls Try.prog 5 #[.slice A0 l0.length c0, .int .i64 a1, .int .i64 a2] w fun e w' => e = .returned (.bool r) ∧ Below w.heap.size w w' := by
 have hu24 := Try.underlying24
 have HR0 := zA hr0
 have HC0 := zA hc0
 clear hr0 hc0
 have HB := zA (Below.refl w.heap.size w)
 have H : (if (l0.length : Int) > 1500 then ((remoralaw09_awake.f k).bind fun t162 => (some t162)) else ((sig_Of.f k l0 a1 a2).bind fun bt163 => (if bt163.2.2.2.2 = 0 then ((match_Of.f k bt163.1 bt163.2.1 bt163.2.2.1 bt163.2.2.2.1 l0).bind fun bt171 => ((delta_Cost.f k bt171.1).bind fun bt175 => (if bt171.2 = 0 then (if bt175.1 = 0 then (if bt175.2 = (l0.length : Int) then (if (bt171.1.length : Int) = (mn (l0.length : Int) 1) then (if (l0.length : Int) = 0 then ((remoralaw09_awake.f k).bind fun t177 => (some t177)) else (if 0 < (bt171.1.length : Int) then (if ((rd_T47 bt171.1 0).f0) = 0 then ((remoralaw09_awake.f k).bind fun t179 => (some t179)) else (none)) else (none))) else (none)) else (none)) else (none)) else (none)))) else ((remoralaw09_awake.f k).bind fun t180 => (some t180))))) = some r := h
 clear h
 by_cases c4 : (l0.length : Int) > 1500
 ·rw [if_pos c4] at H
  have c4b0 : decide (1500 < (l0.length : Int)) = true := zd1 c4
  have c4b1 : decide (1500 < l0.length) = true := zd1 (by omega)
  clear c4
  replace H := Option.bind_eq_some_iff.mp H
  obtain ⟨t162, A50, H⟩ := H
  replace H : (some t162) = some r := H
  have A5 := zA A50
  clear A50
  obtain rfl := Option.some.inj H
  go_enter Try.func5, Try.ntmps5
  go_wp2_with (first | ((with_reducible refine gate_callee (f := 8) rfl ?_); refine goesL_ (some 16) rfl rfl Try.func8 (by kernel_rfl) rfl #[] rfl (by (try simp only [zm1, zm2, zm3]); first | done | rfl | (simp only [List.length_drop, List.length_take]; rfl)) ?_; (with_reducible refine (remoralaw09_awake.calls k  t162 _ A5.out).mono ?_); rintro e w6 ⟨rfl, hb⟩; refine ⟨_, rfl, ?_⟩; have n0_ := zA (zb5 (by repeat (first | (with_reducible first | exact HB.out | apply zb3 | apply zb1 | apply zb2) | exact HB.out)) hb); clear HB; have HB := n0_; clear n0_; (try clear hb); (try clear hb2); (try clear hk); (try clear hi)))
  go_ret
  exact ⟨by first | rfl | (simp [*] <;> rfl), by repeat (first | (with_reducible first | exact HB.out | apply zb3 | apply zb1 | apply zb2) | exact HB.out)⟩
 ·rw [if_neg c4] at H
  have c4b0 : decide (1500 < (l0.length : Int)) = false := zd2 c4
  have c4b1 : decide (1500 < l0.length) = false := zd2 (by omega)
  clear c4
  replace H := Option.bind_eq_some_iff.mp H
  obtain ⟨⟨t163, t164, t165, t166, t169⟩, A70, H⟩ := H
  replace H : (if t169 = 0 then ((match_Of.f k t163 t164 t165 t166 l0).bind fun bt171 => ((delta_Cost.f k bt171.1).bind fun bt175 => (if bt171.2 = 0 then (if bt175.1 = 0 then (if bt175.2 = (l0.length : Int) then (if (bt171.1.length : Int) = (mn (l0.length : Int) 1) then (if (l0.length : Int) = 0 then ((remoralaw09_awake.f k).bind fun t177 => (some t177)) else (if 0 < (bt171.1.length : Int) then (if ((rd_T47 bt171.1 0).f0) = 0 then ((remoralaw09_awake.f k).bind fun t179 => (some t179)) else (none)) else (none))) else (none)) else (none)) else (none)) else (none)))) else ((remoralaw09_awake.f k).bind fun t180 => (some t180))) = some r := H
  have A7 := zA A70
  clear A70
  by_cases c8 : t169 = 0
  ·rw [if_pos c8] at H
   have c8b0 : (t169 == 0) = true := beq_iff_eq.mpr c8
   have c8b1 : (t169 != 0) = false := bne_eq_false_iff_eq.mpr c8
   clear c8
   replace H := Option.bind_eq_some_iff.mp H
   obtain ⟨⟨t171, t174⟩, A90, H⟩ := H
   replace H : ((delta_Cost.f k t171).bind fun bt175 => (if t174 = 0 then (if bt175.1 = 0 then (if bt175.2 = (l0.length : Int) then (if (t171.length : Int) = (mn (l0.length : Int) 1) then (if (l0.length : Int) = 0 then ((remoralaw09_awake.f k).bind fun t177 => (some t177)) else (if 0 < (t171.length : Int) then (if ((rd_T47 t171 0).f0) = 0 then ((remoralaw09_awake.f k).bind fun t179 => (some t179)) else (none)) else (none))) else (none)) else (none)) else (none)) else (none))) = some r := H
   have A9 := zA A90
   clear A90
   replace H := Option.bind_eq_some_iff.mp H
   obtain ⟨⟨t175, t176⟩, A100, H⟩ := H
   replace H : (if t174 = 0 then (if t175 = 0 then (if t176 = (l0.length : Int) then (if (t171.length : Int) = (mn (l0.length : Int) 1) then (if (l0.length : Int) = 0 then ((remoralaw09_awake.f k).bind fun t177 => (some t177)) else (if 0 < (t171.length : Int) then (if ((rd_T47 t171 0).f0) = 0 then ((remoralaw09_awake.f k).bind fun t179 => (some t179)) else (none)) else (none))) else (none)) else (none)) else (none)) else (none)) = some r := H
   have A10 := zA A100
   clear A100
   by_cases c11 : t174 = 0
   ·rw [if_pos c11] at H
    have c11b0 : (t174 == 0) = true := beq_iff_eq.mpr c11
    have c11b1 : (t174 != 0) = false := bne_eq_false_iff_eq.mpr c11
    clear c11
    by_cases c12 : t175 = 0
    ·rw [if_pos c12] at H
     have c12b0 : (t175 == 0) = true := beq_iff_eq.mpr c12
     have c12b1 : (t175 != 0) = false := bne_eq_false_iff_eq.mpr c12
     clear c12
     by_cases c13 : t176 = (l0.length : Int)
     ·rw [if_pos c13] at H
      have c13b0 : (t176 == (l0.length : Int)) = true := beq_iff_eq.mpr c13
      have c13b1 : (t176 != (l0.length : Int)) = false := bne_eq_false_iff_eq.mpr c13
      clear c13
      obtain ⟨ji14, hji14⟩ : ∃ j_ : Int, (mn (l0.length : Int) 1) = j_ := ⟨_, rfl⟩
      replace H : (if (t171.length : Int) = (ji14) then (if (l0.length : Int) = 0 then ((remoralaw09_awake.f k).bind fun t177 => (some t177)) else (if 0 < (t171.length : Int) then (if ((rd_T47 t171 0).f0) = 0 then ((remoralaw09_awake.f k).bind fun t179 => (some t179)) else (none)) else (none))) else (none)) = some r := by first | (rw [hji14] at H; exact H) | (simp only [hji14] at H ⊢; exact H)
      (try rw [hji14] at A7)
      (try rw [hji14] at A9)
      (try rw [hji14] at A10)
      (try (have hji14h : ji14 ≤ 1 := by (rw [← hji14]; unfold mn; (repeat' split) <;> omega)))
      (try (have hji14g : ji14 ≤ 64 := by omega))
      (try (have hji14l : 0 ≤ ji14 := by (rw [← hji14]; unfold mn; (repeat' split) <;> omega)))
      (try (have hji14m : 0 ≤ ji14 := by omega))
      have hji14_ : (if 1 < (l0.length : Int) then 1 else (l0.length : Int)) = ji14 := hji14
      by_cases c15 : (t171.length : Int) = (ji14)
      ·rw [if_pos c15] at H
       have c15b0 : ((t171.length : Int) == (ji14)) = true := beq_iff_eq.mpr c15
       have c15b1 : ((t171.length : Int) != (ji14)) = false := bne_eq_false_iff_eq.mpr c15
       clear c15
       by_cases c16 : (l0.length : Int) = 0
       ·rw [if_pos c16] at H
        have c16b0 : ((l0.length : Int) == 0) = true := beq_iff_eq.mpr c16
        have c16b1 : ((l0.length : Int) != 0) = false := bne_eq_false_iff_eq.mpr c16
        clear c16
        replace H := Option.bind_eq_some_iff.mp H
        obtain ⟨t177, A170, H⟩ := H
        replace H : (some t177) = some r := H
        have A17 := zA A170
        clear A170
        obtain rfl := Option.some.inj H
        go_enter Try.func5, Try.ntmps5
        go_wp2_with (first | ((with_reducible refine gate_callee (f := 19) rfl ?_); refine goesL_ (some 21) rfl rfl Try.func19 (by kernel_rfl) rfl #[.slice A0 l0.length c0, .int .i64 a1, .int .i64 a2] rfl (by (try simp only [zm1, zm2, zm3]); first | done | rfl | (simp only [List.length_drop, List.length_take]; rfl)) ?_; (with_reducible refine (sig_Of.calls k _ _ l0 a1 a2 t163 t164 t165 t166 t169 _ ?side1 ?side2 A7.out).mono ?_); (case side1 => repeat (first | exact HR0.out | (with_reducible refine Kd.C_alloc ?_ _) | (with_reducible refine Kd.C_drewN ?_ _) | (with_reducible refine Kd.C_drew ?_))); (case side2 => exact HC0.out); rintro e w18 ⟨v167, rfl, ho0, hb⟩; refine ⟨_, rfl, ?_⟩; have n0_ := zA (Kd.R_lower ho0 (zb6 (by repeat (first | (with_reducible first | exact HB.out | apply zb3 | apply zb1 | apply zb2) | exact HB.out)))); have n1_ := zA (zb5 (by repeat (first | (with_reducible first | exact HB.out | apply zb3 | apply zb1 | apply zb2) | exact HB.out)) hb); clear HB; have HO168 := n0_; have HB := n1_; clear n0_ n1_; (try clear hb); (try clear hb2); (try clear hk); (try clear hi); (try clear ho0)) | ((with_reducible refine gate_dst (N := 7) rfl ?_); (try (refine gate_guard (by rfl) ?_; dsimp only)); refine box_event ?hg (N := 7) ?hd (cs := #[.int .i64 0, .int .i64 0, .int .i64 0, .slice none 0 0]) (t := 24) ?hr ?_; (case hd => rfl); (case hg => rfl); (case hr => first | (go_simp; done) | (go_simp; rfl)); intro gb170 hg w19 hbox hb; have n0_ := zA (Kd.R_below (by (with_reducible repeat (first | apply Kd.R_alloc | apply Kd.R_drewN | apply Kd.R_drew)); exact HO168.out) hb); have n1_ := zA (zb5 (by repeat (first | (with_reducible first | exact HB.out | apply zb3 | apply zb1 | apply zb2) | exact HB.out)) hb); have n2_ := zA (hbox); have n3_ := zA ((by rw [hg]; exact (zb6 (by repeat (first | (with_reducible first | exact HB.out | apply zb3 | apply zb1 | apply zb2) | exact HB.out))) : w.heap.size ≤ gb170)); have n4_ := zA ((by rw [hg]; exact (zb6 (by repeat (first | (with_reducible first | exact HB.out | apply zb3 | apply zb1 | apply zb2) | exact HB.out))) : w.heap.size ≤ gb170)); clear HO168; clear HB; have HO168 := n0_; have HB := n1_; have BK170 := n2_; have GW170 := n3_; have GE170 := n4_; clear n0_ n1_ n2_ n3_ n4_; clear hb hbox hg; have hcz20_0 : w19.cell? ⟨gb170, 0, none⟩ = some (.int .i64 0) := (zc1 BK170.out 0).trans rfl; have hcz20_1 : w19.cell? ⟨gb170, 1, none⟩ = some (.int .i64 0) := (zc1 BK170.out 1).trans rfl; have hcz20_2 : w19.cell? ⟨gb170, 2, none⟩ = some (.int .i64 0) := (zc1 BK170.out 2).trans rfl; have hcz20_3 : w19.cell? ⟨gb170, 3, none⟩ = some (.slice none 0 0) := (zc1 BK170.out 3).trans rfl; have hfz20_0 := zc5 BK170.out 0; have hfz20_1 := zc5 BK170.out 1; have hfz20_2 := zc5 BK170.out 2; have hfz20_3 := zc5 BK170.out 3; obtain ⟨Ao21, co21, eo21⟩ := Kd.R_slice HO168.out; subst eo21) | ((with_reducible refine gate_callee (f := 15) rfl ?_); refine goesL_ (some 30) rfl rfl Try.func15 (by kernel_rfl) rfl #[.agg #[.int .i64 t163, .int .i64 t164, .int .i64 t165, .slice Ao21 t166.length co21], .slice A0 l0.length c0] rfl (by (try simp only [zm1, zm2, zm3]); first | done | rfl | (simp only [List.length_drop, List.length_take]; rfl)) ?_; (with_reducible refine (match_Of.calls k t163 t164 t165 _ _ t166 _ _ l0 t171 t174 _ ?side1 ?side2 ?side3 ?side4 A9.out).mono ?_); (case side1 => refine (Kd.R_reads' (e := 55) (base := w.heap.size) (ok := fun k_ => True) (n := t166.length) (c := co21) ?_).2.2; exact (by (with_reducible repeat (first | apply Kd.R_alloc | apply Kd.R_drewN | apply Kd.R_drew)); exact (Kd.R_mono (Kd.R_far (p := ⟨gb170, 3, none⟩) (Kd.R_far (p := ⟨gb170, 2, none⟩) (Kd.R_far (p := ⟨gb170, 1, none⟩) (Kd.R_far (p := ⟨gb170, 0, none⟩) (Kd.R_types HO168.out BK170.out (by decide)) (fun _ hk => hk.2) (.int .i64 t163)) (fun _ hk => hk.2) (.int .i64 t164)) (fun _ hk => hk.2) (.int .i64 t165)) (fun _ hk => hk.2) (.slice Ao21 t166.length co21)) (fun _ h_ => h_.1)))); (case side2 => exact (Kd.R_reads' HO168.out).2.1); (case side3 => exact Kd.C_below HR0.out (by repeat (first | (with_reducible first | exact HB.out | apply zb3 | apply zb1 | apply zb2 | refine zb4 ?_ GE170.out) | exact HB.out))); (case side4 => exact HC0.out); rintro e w22 ⟨v172, rfl, ho0, hb⟩; refine ⟨_, rfl, ?_⟩; have n0_ := zA (Kd.R_below (by (with_reducible repeat (first | apply Kd.R_alloc | apply Kd.R_drewN | apply Kd.R_drew)); exact (Kd.R_mono (Kd.R_far (p := ⟨gb170, 3, none⟩) (Kd.R_far (p := ⟨gb170, 2, none⟩) (Kd.R_far (p := ⟨gb170, 1, none⟩) (Kd.R_far (p := ⟨gb170, 0, none⟩) (Kd.R_types HO168.out BK170.out (by decide)) (fun _ hk => hk.2) (.int .i64 t163)) (fun _ hk => hk.2) (.int .i64 t164)) (fun _ hk => hk.2) (.int .i64 t165)) (fun _ hk => hk.2) (.slice Ao21 t166.length co21)) (fun _ h_ => h_.1))) hb); have n1_ := zA (Kd.N_lower (Kd.N_mono (ok' := fun k_ => some k_ ≠ (.slice Ao21 t166.length co21 : Value).ownBlock ∧ k_ ≠ gb170) ho0 (fun k_ hk_ => ⟨(Kd.fresh' (Kd.R_lt (by (with_reducible repeat (first | apply Kd.R_alloc | apply Kd.R_drewN | apply Kd.R_drew)); exact (Kd.R_mono (Kd.R_far (p := ⟨gb170, 3, none⟩) (Kd.R_far (p := ⟨gb170, 2, none⟩) (Kd.R_far (p := ⟨gb170, 1, none⟩) (Kd.R_far (p := ⟨gb170, 0, none⟩) (Kd.R_types HO168.out BK170.out (by decide)) (fun _ hk => hk.2) (.int .i64 t163)) (fun _ hk => hk.2) (.int .i64 t164)) (fun _ hk => hk.2) (.int .i64 t165)) (fun _ hk => hk.2) (.slice Ao21 t166.length co21)) (fun _ h_ => h_.1)))) k_ hk_), (Kd.freshB (g := gb170) (o := .cells #[.int .i64 t163, .int .i64 t164, .int .i64 t165, .slice Ao21 t166.length co21] 24 (0, 0)) (by (with_reducible repeat (first | refine zc3 ?_ _ | refine zc4 ?_ | refine zc2 ?_ _)); refine blk_put (cs := #[.int .i64 t163, .int .i64 t164, .int .i64 t165, .slice none 0 0]) ?_ 3 _ rfl; (with_reducible repeat (first | refine zc3 ?_ _ | refine zc4 ?_ | refine zc2 ?_ _)); refine blk_put (cs := #[.int .i64 t163, .int .i64 t164, .int .i64 0, .slice none 0 0]) ?_ 2 _ rfl; (with_reducible repeat (first | refine zc3 ?_ _ | refine zc4 ?_ | refine zc2 ?_ _)); refine blk_put (cs := #[.int .i64 t163, .int .i64 0, .int .i64 0, .slice none 0 0]) ?_ 1 _ rfl; (with_reducible repeat (first | refine zc3 ?_ _ | refine zc4 ?_ | refine zc2 ?_ _)); refine blk_put (cs := #[.int .i64 0, .int .i64 0, .int .i64 0, .slice none 0 0]) ?_ 0 _ rfl; (with_reducible repeat (first | refine zc3 ?_ _ | refine zc4 ?_ | refine zc2 ?_ _)); exact BK170.out) k_ hk_)⟩)) (zb6 (by repeat (first | (with_reducible first | exact HB.out | apply zb3 | apply zb1 | apply zb2 | refine zb4 ?_ GE170.out) | exact HB.out)))); have n2_ := zA (zc6 (g := gb170) (o := .cells #[.int .i64 t163, .int .i64 t164, .int .i64 t165, .slice Ao21 t166.length co21] 24 (0, 0)) (by (with_reducible repeat (first | refine zc3 ?_ _ | refine zc4 ?_ | refine zc2 ?_ _)); refine blk_put (cs := #[.int .i64 t163, .int .i64 t164, .int .i64 t165, .slice none 0 0]) ?_ 3 _ rfl; (with_reducible repeat (first | refine zc3 ?_ _ | refine zc4 ?_ | refine zc2 ?_ _)); refine blk_put (cs := #[.int .i64 t163, .int .i64 t164, .int .i64 0, .slice none 0 0]) ?_ 2 _ rfl; (with_reducible repeat (first | refine zc3 ?_ _ | refine zc4 ?_ | refine zc2 ?_ _)); refine blk_put (cs := #[.int .i64 t163, .int .i64 0, .int .i64 0, .slice none 0 0]) ?_ 1 _ rfl; (with_reducible repeat (first | refine zc3 ?_ _ | refine zc4 ?_ | refine zc2 ?_ _)); refine blk_put (cs := #[.int .i64 0, .int .i64 0, .int .i64 0, .slice none 0 0]) ?_ 0 _ rfl; (with_reducible repeat (first | refine zc3 ?_ _ | refine zc4 ?_ | refine zc2 ?_ _)); exact BK170.out) hb); have n3_ := zA (zb5 (by repeat (first | (with_reducible first | exact HB.out | apply zb3 | apply zb1 | apply zb2 | refine zb4 ?_ GE170.out) | exact HB.out)) hb); clear HO168; clear BK170; clear HB; have HO168 := n0_; have HO173 := n1_; have BK170 := n2_; have HB := n3_; clear n0_ n1_ n2_ n3_; (try clear hb); (try clear hb2); (try clear hk); (try clear hi); (try clear ho0); obtain ⟨Ao23, co23, eo23⟩ := Kd.N_slice HO173.out; subst eo23) | ((with_reducible refine gate_callee (f := 20) rfl ?_); refine goesL_ (some 35) rfl rfl Try.func20 (by kernel_rfl) rfl #[.slice Ao23 t171.length co23] rfl (by (try simp only [zm1, zm2, zm3]); first | done | rfl | (simp only [List.length_drop, List.length_take]; rfl)) ?_; (with_reducible refine (delta_Cost.calls k _ _ t171 t175 t176 _ ?side1 ?side2 A10.out).mono ?_); (case side1 => repeat (first | exact (Kd.N_reads' HO173.out).2.2 | (with_reducible refine Kd.C_alloc ?_ _) | (with_reducible refine Kd.C_drewN ?_ _) | (with_reducible refine Kd.C_drew ?_))); (case side2 => exact (Kd.N_reads' HO173.out).2.1); rintro e w24 ⟨rfl, hb⟩; refine ⟨_, rfl, ?_⟩; have n0_ := zA (Kd.R_below (by (with_reducible repeat (first | apply Kd.R_alloc | apply Kd.R_drewN | apply Kd.R_drew)); exact HO168.out) hb); have n1_ := zA (Kd.N_below (by (with_reducible repeat (first | apply Kd.N_alloc | apply Kd.N_drewN | apply Kd.N_drew)); exact HO173.out) hb); have n2_ := zA (zc6 (g := gb170) (o := .cells #[.int .i64 t163, .int .i64 t164, .int .i64 t165, .slice Ao21 t166.length co21] 24 (0, 0)) (by (with_reducible repeat (first | refine zc3 ?_ _ | refine zc4 ?_ | refine zc2 ?_ _)); exact BK170.out) hb); have n3_ := zA (zb5 (by repeat (first | (with_reducible first | exact HB.out | apply zb3 | apply zb1 | apply zb2 | refine zb4 ?_ GE170.out) | exact HB.out)) hb); clear HO168; clear HO173; clear BK170; clear HB; have HO168 := n0_; have HO173 := n1_; have BK170 := n2_; have HB := n3_; clear n0_ n1_ n2_ n3_; (try clear hb); (try clear hb2); (try clear hk); (try clear hi)) | (go_at_call 8; (with_reducible refine (remoralaw09_awake.calls k  t177 _ A17.out).mono ?_); rintro e w25 ⟨rfl, hb⟩; have n0_ := zA (Kd.R_below (by (with_reducible repeat (first | apply Kd.R_alloc | apply Kd.R_drewN | apply Kd.R_drew)); exact HO168.out) hb); have n1_ := zA (Kd.N_below (by (with_reducible repeat (first | apply Kd.N_alloc | apply Kd.N_drewN | apply Kd.N_drew)); exact HO173.out) hb); have n2_ := zA (zc6 (g := gb170) (o := .cells #[.int .i64 t163, .int .i64 t164, .int .i64 t165, .slice Ao21 t166.length co21] 24 (0, 0)) (by (with_reducible repeat (first | refine zc3 ?_ _ | refine zc4 ?_ | refine zc2 ?_ _)); exact BK170.out) hb); have n3_ := zA (zb5 (by repeat (first | (with_reducible first | exact HB.out | apply zb3 | apply zb1 | apply zb2 | refine zb4 ?_ GE170.out) | exact HB.out)) hb); clear HO168; clear HO173; clear BK170; clear HB; have HO168 := n0_; have HO173 := n1_; have BK170 := n2_; have HB := n3_; clear n0_ n1_ n2_ n3_; (try clear hb); (try clear hb2); (try clear hk); (try clear hi)))
        go_ret
        exact ⟨by first | rfl | (simp [errW_none, errW_some] <;> rfl) | (simp only [← hji14]; first | rfl | (simp [errW_none, errW_some] <;> rfl)) | (simp [*, errW_none, errW_some] <;> rfl), by repeat (first | (with_reducible first | exact HB.out | apply zb3 | apply zb1 | apply zb2 | refine zb4 ?_ GE170.out) | exact HB.out)⟩
       ·rw [if_neg c16] at H
        have c16b0 : ((l0.length : Int) == 0) = false := beq_eq_false_iff_ne.mpr c16
        have c16b1 : ((l0.length : Int) != 0) = true := bne_iff_ne.mpr c16
        have c16b2 : ¬ (l0 = []) := fun h_ => c16 (by rw [h_]; rfl)
        by_cases c26 : 0 < (t171.length : Int)
        ·rw [if_pos c26] at H
         have c26b0 : decide (0 < (t171.length : Int)) = true := zd1 c26
         have c26b1 : decide (0 < t171.length) = true := zd1 (by omega)
         clear c26
         by_cases c27 : ((rd_T47 t171 0).f0) = 0
         ·rw [if_pos c27] at H
          have c27b0 : (((rd_T47 t171 0).f0) == 0) = true := beq_iff_eq.mpr c27
          have c27b1 : (((rd_T47 t171 0).f0) != 0) = false := bne_eq_false_iff_eq.mpr c27
          clear c27
          replace H := Option.bind_eq_some_iff.mp H
          obtain ⟨t179, A280, H⟩ := H
          replace H : (some t179) = some r := H
          have A28 := zA A280
          clear A280
          obtain rfl := Option.some.inj H
          go_enter Try.func5, Try.ntmps5
          go_wp2_with (first | ((with_reducible refine gate_callee (f := 19) rfl ?_); refine goesL_ (some 21) rfl rfl Try.func19 (by kernel_rfl) rfl #[.slice A0 l0.length c0, .int .i64 a1, .int .i64 a2] rfl (by (try simp only [zm1, zm2, zm3]); first | done | rfl | (simp only [List.length_drop, List.length_take]; rfl)) ?_; (with_reducible refine (sig_Of.calls k _ _ l0 a1 a2 t163 t164 t165 t166 t169 _ ?side1 ?side2 A7.out).mono ?_); (case side1 => repeat (first | exact HR0.out | (with_reducible refine Kd.C_alloc ?_ _) | (with_reducible refine Kd.C_drewN ?_ _) | (with_reducible refine Kd.C_drew ?_))); (case side2 => exact HC0.out); rintro e w29 ⟨v167, rfl, ho0, hb⟩; refine ⟨_, rfl, ?_⟩; have n0_ := zA (Kd.R_lower ho0 (zb6 (by repeat (first | (with_reducible first | exact HB.out | apply zb3 | apply zb1 | apply zb2) | exact HB.out)))); have n1_ := zA (zb5 (by repeat (first | (with_reducible first | exact HB.out | apply zb3 | apply zb1 | apply zb2) | exact HB.out)) hb); clear HB; have HO168 := n0_; have HB := n1_; clear n0_ n1_; (try clear hb); (try clear hb2); (try clear hk); (try clear hi); (try clear ho0)) | ((with_reducible refine gate_dst (N := 7) rfl ?_); (try (refine gate_guard (by rfl) ?_; dsimp only)); refine box_event ?hg (N := 7) ?hd (cs := #[.int .i64 0, .int .i64 0, .int .i64 0, .slice none 0 0]) (t := 24) ?hr ?_; (case hd => rfl); (case hg => rfl); (case hr => first | (go_simp; done) | (go_simp; rfl)); intro gb170 hg w30 hbox hb; have n0_ := zA (Kd.R_below (by (with_reducible repeat (first | apply Kd.R_alloc | apply Kd.R_drewN | apply Kd.R_drew)); exact HO168.out) hb); have n1_ := zA (zb5 (by repeat (first | (with_reducible first | exact HB.out | apply zb3 | apply zb1 | apply zb2) | exact HB.out)) hb); have n2_ := zA (hbox); have n3_ := zA ((by rw [hg]; exact (zb6 (by repeat (first | (with_reducible first | exact HB.out | apply zb3 | apply zb1 | apply zb2) | exact HB.out))) : w.heap.size ≤ gb170)); have n4_ := zA ((by rw [hg]; exact (zb6 (by repeat (first | (with_reducible first | exact HB.out | apply zb3 | apply zb1 | apply zb2) | exact HB.out))) : w.heap.size ≤ gb170)); clear HO168; clear HB; have HO168 := n0_; have HB := n1_; have BK170 := n2_; have GW170 := n3_; have GE170 := n4_; clear n0_ n1_ n2_ n3_ n4_; clear hb hbox hg; have hcz31_0 : w30.cell? ⟨gb170, 0, none⟩ = some (.int .i64 0) := (zc1 BK170.out 0).trans rfl; have hcz31_1 : w30.cell? ⟨gb170, 1, none⟩ = some (.int .i64 0) := (zc1 BK170.out 1).trans rfl; have hcz31_2 : w30.cell? ⟨gb170, 2, none⟩ = some (.int .i64 0) := (zc1 BK170.out 2).trans rfl; have hcz31_3 : w30.cell? ⟨gb170, 3, none⟩ = some (.slice none 0 0) := (zc1 BK170.out 3).trans rfl; have hfz31_0 := zc5 BK170.out 0; have hfz31_1 := zc5 BK170.out 1; have hfz31_2 := zc5 BK170.out 2; have hfz31_3 := zc5 BK170.out 3; obtain ⟨Ao32, co32, eo32⟩ := Kd.R_slice HO168.out; subst eo32) | ((with_reducible refine gate_callee (f := 15) rfl ?_); refine goesL_ (some 30) rfl rfl Try.func15 (by kernel_rfl) rfl #[.agg #[.int .i64 t163, .int .i64 t164, .int .i64 t165, .slice Ao32 t166.length co32], .slice A0 l0.length c0] rfl (by (try simp only [zm1, zm2, zm3]); first | done | rfl | (simp only [List.length_drop, List.length_take]; rfl)) ?_; (with_reducible refine (match_Of.calls k t163 t164 t165 _ _ t166 _ _ l0 t171 t174 _ ?side1 ?side2 ?side3 ?side4 A9.out).mono ?_); (case side1 => refine (Kd.R_reads' (e := 55) (base := w.heap.size) (ok := fun k_ => True) (n := t166.length) (c := co32) ?_).2.2; exact (by (with_reducible repeat (first | apply Kd.R_alloc | apply Kd.R_drewN | apply Kd.R_drew)); exact (Kd.R_mono (Kd.R_far (p := ⟨gb170, 3, none⟩) (Kd.R_far (p := ⟨gb170, 2, none⟩) (Kd.R_far (p := ⟨gb170, 1, none⟩) (Kd.R_far (p := ⟨gb170, 0, none⟩) (Kd.R_types HO168.out BK170.out (by decide)) (fun _ hk => hk.2) (.int .i64 t163)) (fun _ hk => hk.2) (.int .i64 t164)) (fun _ hk => hk.2) (.int .i64 t165)) (fun _ hk => hk.2) (.slice Ao32 t166.length co32)) (fun _ h_ => h_.1)))); (case side2 => exact (Kd.R_reads' HO168.out).2.1); (case side3 => exact Kd.C_below HR0.out (by repeat (first | (with_reducible first | exact HB.out | apply zb3 | apply zb1 | apply zb2 | refine zb4 ?_ GE170.out) | exact HB.out))); (case side4 => exact HC0.out); rintro e w33 ⟨v172, rfl, ho0, hb⟩; refine ⟨_, rfl, ?_⟩; have n0_ := zA (Kd.R_below (by (with_reducible repeat (first | apply Kd.R_alloc | apply Kd.R_drewN | apply Kd.R_drew)); exact (Kd.R_mono (Kd.R_far (p := ⟨gb170, 3, none⟩) (Kd.R_far (p := ⟨gb170, 2, none⟩) (Kd.R_far (p := ⟨gb170, 1, none⟩) (Kd.R_far (p := ⟨gb170, 0, none⟩) (Kd.R_types HO168.out BK170.out (by decide)) (fun _ hk => hk.2) (.int .i64 t163)) (fun _ hk => hk.2) (.int .i64 t164)) (fun _ hk => hk.2) (.int .i64 t165)) (fun _ hk => hk.2) (.slice Ao32 t166.length co32)) (fun _ h_ => h_.1))) hb); have n1_ := zA (Kd.N_lower (Kd.N_mono (ok' := fun k_ => some k_ ≠ (.slice Ao32 t166.length co32 : Value).ownBlock ∧ k_ ≠ gb170) ho0 (fun k_ hk_ => ⟨(Kd.fresh' (Kd.R_lt (by (with_reducible repeat (first | apply Kd.R_alloc | apply Kd.R_drewN | apply Kd.R_drew)); exact (Kd.R_mono (Kd.R_far (p := ⟨gb170, 3, none⟩) (Kd.R_far (p := ⟨gb170, 2, none⟩) (Kd.R_far (p := ⟨gb170, 1, none⟩) (Kd.R_far (p := ⟨gb170, 0, none⟩) (Kd.R_types HO168.out BK170.out (by decide)) (fun _ hk => hk.2) (.int .i64 t163)) (fun _ hk => hk.2) (.int .i64 t164)) (fun _ hk => hk.2) (.int .i64 t165)) (fun _ hk => hk.2) (.slice Ao32 t166.length co32)) (fun _ h_ => h_.1)))) k_ hk_), (Kd.freshB (g := gb170) (o := .cells #[.int .i64 t163, .int .i64 t164, .int .i64 t165, .slice Ao32 t166.length co32] 24 (0, 0)) (by (with_reducible repeat (first | refine zc3 ?_ _ | refine zc4 ?_ | refine zc2 ?_ _)); refine blk_put (cs := #[.int .i64 t163, .int .i64 t164, .int .i64 t165, .slice none 0 0]) ?_ 3 _ rfl; (with_reducible repeat (first | refine zc3 ?_ _ | refine zc4 ?_ | refine zc2 ?_ _)); refine blk_put (cs := #[.int .i64 t163, .int .i64 t164, .int .i64 0, .slice none 0 0]) ?_ 2 _ rfl; (with_reducible repeat (first | refine zc3 ?_ _ | refine zc4 ?_ | refine zc2 ?_ _)); refine blk_put (cs := #[.int .i64 t163, .int .i64 0, .int .i64 0, .slice none 0 0]) ?_ 1 _ rfl; (with_reducible repeat (first | refine zc3 ?_ _ | refine zc4 ?_ | refine zc2 ?_ _)); refine blk_put (cs := #[.int .i64 0, .int .i64 0, .int .i64 0, .slice none 0 0]) ?_ 0 _ rfl; (with_reducible repeat (first | refine zc3 ?_ _ | refine zc4 ?_ | refine zc2 ?_ _)); exact BK170.out) k_ hk_)⟩)) (zb6 (by repeat (first | (with_reducible first | exact HB.out | apply zb3 | apply zb1 | apply zb2 | refine zb4 ?_ GE170.out) | exact HB.out)))); have n2_ := zA (zc6 (g := gb170) (o := .cells #[.int .i64 t163, .int .i64 t164, .int .i64 t165, .slice Ao32 t166.length co32] 24 (0, 0)) (by (with_reducible repeat (first | refine zc3 ?_ _ | refine zc4 ?_ | refine zc2 ?_ _)); refine blk_put (cs := #[.int .i64 t163, .int .i64 t164, .int .i64 t165, .slice none 0 0]) ?_ 3 _ rfl; (with_reducible repeat (first | refine zc3 ?_ _ | refine zc4 ?_ | refine zc2 ?_ _)); refine blk_put (cs := #[.int .i64 t163, .int .i64 t164, .int .i64 0, .slice none 0 0]) ?_ 2 _ rfl; (with_reducible repeat (first | refine zc3 ?_ _ | refine zc4 ?_ | refine zc2 ?_ _)); refine blk_put (cs := #[.int .i64 t163, .int .i64 0, .int .i64 0, .slice none 0 0]) ?_ 1 _ rfl; (with_reducible repeat (first | refine zc3 ?_ _ | refine zc4 ?_ | refine zc2 ?_ _)); refine blk_put (cs := #[.int .i64 0, .int .i64 0, .int .i64 0, .slice none 0 0]) ?_ 0 _ rfl; (with_reducible repeat (first | refine zc3 ?_ _ | refine zc4 ?_ | refine zc2 ?_ _)); exact BK170.out) hb); have n3_ := zA (zb5 (by repeat (first | (with_reducible first | exact HB.out | apply zb3 | apply zb1 | apply zb2 | refine zb4 ?_ GE170.out) | exact HB.out)) hb); clear HO168; clear BK170; clear HB; have HO168 := n0_; have HO173 := n1_; have BK170 := n2_; have HB := n3_; clear n0_ n1_ n2_ n3_; (try clear hb); (try clear hb2); (try clear hk); (try clear hi); (try clear ho0); obtain ⟨Ao34, co34, eo34⟩ := Kd.N_slice HO173.out; subst eo34) | ((with_reducible refine gate_callee (f := 20) rfl ?_); refine goesL_ (some 35) rfl rfl Try.func20 (by kernel_rfl) rfl #[.slice Ao34 t171.length co34] rfl (by (try simp only [zm1, zm2, zm3]); first | done | rfl | (simp only [List.length_drop, List.length_take]; rfl)) ?_; (with_reducible refine (delta_Cost.calls k _ _ t171 t175 t176 _ ?side1 ?side2 A10.out).mono ?_); (case side1 => repeat (first | exact (Kd.N_reads' HO173.out).2.2 | (with_reducible refine Kd.C_alloc ?_ _) | (with_reducible refine Kd.C_drewN ?_ _) | (with_reducible refine Kd.C_drew ?_))); (case side2 => exact (Kd.N_reads' HO173.out).2.1); rintro e w35 ⟨rfl, hb⟩; refine ⟨_, rfl, ?_⟩; have n0_ := zA (Kd.R_below (by (with_reducible repeat (first | apply Kd.R_alloc | apply Kd.R_drewN | apply Kd.R_drew)); exact HO168.out) hb); have n1_ := zA (Kd.N_below (by (with_reducible repeat (first | apply Kd.N_alloc | apply Kd.N_drewN | apply Kd.N_drew)); exact HO173.out) hb); have n2_ := zA (zc6 (g := gb170) (o := .cells #[.int .i64 t163, .int .i64 t164, .int .i64 t165, .slice Ao32 t166.length co32] 24 (0, 0)) (by (with_reducible repeat (first | refine zc3 ?_ _ | refine zc4 ?_ | refine zc2 ?_ _)); exact BK170.out) hb); have n3_ := zA (zb5 (by repeat (first | (with_reducible first | exact HB.out | apply zb3 | apply zb1 | apply zb2 | refine zb4 ?_ GE170.out) | exact HB.out)) hb); clear HO168; clear HO173; clear BK170; clear HB; have HO168 := n0_; have HO173 := n1_; have BK170 := n2_; have HB := n3_; clear n0_ n1_ n2_ n3_; (try clear hb); (try clear hb2); (try clear hk); (try clear hi); have p178 : 0 ≤ (0 : Int) := (by omega); have q178 : 0 < (t171.length : Int) := zd3 (by first | (with_reducible assumption) | assumption); obtain ⟨ad178, A178_2, c178_2, e178, hx178_0, hx178_1, hx178_2, hl178_2, hi178_2⟩ := at_T47 (Kd.N_reads' HO173.out).2.2 0 p178 q178; cases e178; obtain ⟨ce178, hce178, hMe178, hcc178⟩ := Kd.N_get HO173.out z47 0 p178 (by first | exact q178 | exact zd3 (by first | (with_reducible assumption) | assumption) | (have e_ := (Kd.N_reads' HO173.out).1; omega)); obtain ⟨ua178_2, uc178_2, rfl, ul178_2, ge178_2⟩ := k47_openF hMe178; have hv178_2 := hcc178 2 _ rfl; rw [add_field _ _ 2 (by omega)] at hv178_2; replace hv178_2 := Option.some.inj (hv178_2.symm.trans hx178_2); injection hv178_2 with hva_ hvn_ hvc_; rw [hva_] at ge178_2; rw [hvc_] at ul178_2; have HL178_2 := zA (show Kd.V (Kd.int .u8) 5 _ w.heap.size _ _ ((rd_T47 t171 0).f2) from Kd.V_mk ul178_2 ge178_2); clear hva_ hvn_ hvc_ ge178_2 ul178_2; clear hcc178 hce178; have qi178 : (0 < t171.length) = True := eq_true (by omega); (try rw [show ((0 : Int)).toNat = 0 from rfl] at hx178_0); (try rw [show 0 * 3 = 0 from rfl] at hx178_0); (try rw [Addr.add_zero'] at hx178_0); (try rw [show ((0 : Int)).toNat = 0 from rfl] at hx178_1); (try rw [show 0 * 3 = 0 from rfl] at hx178_1); (try rw [Addr.add_zero'] at hx178_1); (try rw [show ((0 : Int)).toNat = 0 from rfl] at hx178_2); (try rw [show 0 * 3 = 0 from rfl] at hx178_2); (try rw [Addr.add_zero'] at hx178_2); have HR178_2 := zA hi178_2; have HC178_2 := zA hl178_2; clear hi178_2 hl178_2; replace p178 := eq_true p178; replace q178 := eq_true q178) | (go_at_call 8; (with_reducible refine (remoralaw09_awake.calls k  t179 _ A28.out).mono ?_); rintro e w36 ⟨rfl, hb⟩; have n0_ := zA (Kd.R_below (by (with_reducible repeat (first | apply Kd.R_alloc | apply Kd.R_drewN | apply Kd.R_drew)); exact HO168.out) hb); have n1_ := zA (Kd.N_below (by (with_reducible repeat (first | apply Kd.N_alloc | apply Kd.N_drewN | apply Kd.N_drew)); exact HO173.out) hb); have n2_ := zA (Kd.V_below (by (with_reducible repeat (first | apply Kd.V_alloc | apply Kd.V_drewN | apply Kd.V_drew)); exact HL178_2.out) hb); have n3_ := zA (zc6 (g := gb170) (o := .cells #[.int .i64 t163, .int .i64 t164, .int .i64 t165, .slice Ao32 t166.length co32] 24 (0, 0)) (by (with_reducible repeat (first | refine zc3 ?_ _ | refine zc4 ?_ | refine zc2 ?_ _)); exact BK170.out) hb); have n4_ := zA (Kd.C_below (by repeat (first | (with_reducible exact HR178_2.out) | (with_reducible refine Kd.C_alloc ?_ _) | (with_reducible refine Kd.C_drewN ?_ _) | (with_reducible refine Kd.C_drew ?_) | exact HR178_2.out)) hb); have n5_ := zA (zb5 (by repeat (first | (with_reducible first | exact HB.out | apply zb3 | apply zb1 | apply zb2 | refine zb4 ?_ GE170.out) | exact HB.out)) hb); clear HO168; clear HO173; clear HL178_2; clear BK170; clear HR178_2; clear HB; have HO168 := n0_; have HO173 := n1_; have HL178_2 := n2_; have BK170 := n3_; have HR178_2 := n4_; have HB := n5_; clear n0_ n1_ n2_ n3_ n4_ n5_; (try clear hb); (try clear hb2); (try clear hk); (try clear hi)))
          go_ret
          exact ⟨by first | rfl | (simp [errW_none, errW_some] <;> rfl) | (simp only [← hji14]; first | rfl | (simp [errW_none, errW_some] <;> rfl)) | (simp [*, errW_none, errW_some] <;> rfl), by repeat (first | (with_reducible first | exact HB.out | apply zb3 | apply zb1 | apply zb2 | refine zb4 ?_ GE170.out) | exact HB.out)⟩
         ·rw [if_neg c27] at H
          exact absurd H (by simp)
        ·rw [if_neg c26] at H
         exact absurd H (by simp)
      ·rw [if_neg c15] at H
       exact absurd H (by simp)
     ·rw [if_neg c13] at H
      exact absurd H (by simp)
    ·rw [if_neg c12] at H
     exact absurd H (by simp)
   ·rw [if_neg c11] at H
    exact absurd H (by simp)
  ·rw [if_neg c8] at H
   have c8b0 : (t169 == 0) = false := beq_eq_false_iff_ne.mpr c8
   have c8b1 : (t169 != 0) = true := bne_iff_ne.mpr c8
   replace H := Option.bind_eq_some_iff.mp H
   obtain ⟨t180, A370, H⟩ := H
   replace H : (some t180) = some r := H
   have A37 := zA A370
   clear A370
   obtain rfl := Option.some.inj H
   go_enter Try.func5, Try.ntmps5
   go_wp2_with (first | ((with_reducible refine gate_callee (f := 19) rfl ?_); refine goesL_ (some 21) rfl rfl Try.func19 (by kernel_rfl) rfl #[.slice A0 l0.length c0, .int .i64 a1, .int .i64 a2] rfl (by (try simp only [zm1, zm2, zm3]); first | done | rfl | (simp only [List.length_drop, List.length_take]; rfl)) ?_; (with_reducible refine (sig_Of.calls k _ _ l0 a1 a2 t163 t164 t165 t166 t169 _ ?side1 ?side2 A7.out).mono ?_); (case side1 => repeat (first | exact HR0.out | (with_reducible refine Kd.C_alloc ?_ _) | (with_reducible refine Kd.C_drewN ?_ _) | (with_reducible refine Kd.C_drew ?_))); (case side2 => exact HC0.out); rintro e w38 ⟨v167, rfl, ho0, hb⟩; refine ⟨_, rfl, ?_⟩; have n0_ := zA (Kd.R_lower ho0 (zb6 (by repeat (first | (with_reducible first | exact HB.out | apply zb3 | apply zb1 | apply zb2) | exact HB.out)))); have n1_ := zA (zb5 (by repeat (first | (with_reducible first | exact HB.out | apply zb3 | apply zb1 | apply zb2) | exact HB.out)) hb); clear HB; have HO168 := n0_; have HB := n1_; clear n0_ n1_; (try clear hb); (try clear hb2); (try clear hk); (try clear hi); (try clear ho0)) | ((with_reducible refine gate_dst (N := 7) rfl ?_); (try (refine gate_guard (by rfl) ?_; dsimp only)); refine box_event ?hg (N := 7) ?hd (cs := #[.int .i64 0, .int .i64 0, .int .i64 0, .slice none 0 0]) (t := 24) ?hr ?_; (case hd => rfl); (case hg => rfl); (case hr => first | (go_simp; done) | (go_simp; rfl)); intro gb170 hg w39 hbox hb; have n0_ := zA (Kd.R_below (by (with_reducible repeat (first | apply Kd.R_alloc | apply Kd.R_drewN | apply Kd.R_drew)); exact HO168.out) hb); have n1_ := zA (zb5 (by repeat (first | (with_reducible first | exact HB.out | apply zb3 | apply zb1 | apply zb2) | exact HB.out)) hb); have n2_ := zA (hbox); have n3_ := zA ((by rw [hg]; exact (zb6 (by repeat (first | (with_reducible first | exact HB.out | apply zb3 | apply zb1 | apply zb2) | exact HB.out))) : w.heap.size ≤ gb170)); have n4_ := zA ((by rw [hg]; exact (zb6 (by repeat (first | (with_reducible first | exact HB.out | apply zb3 | apply zb1 | apply zb2) | exact HB.out))) : w.heap.size ≤ gb170)); clear HO168; clear HB; have HO168 := n0_; have HB := n1_; have BK170 := n2_; have GW170 := n3_; have GE170 := n4_; clear n0_ n1_ n2_ n3_ n4_; clear hb hbox hg; have hcz40_0 : w39.cell? ⟨gb170, 0, none⟩ = some (.int .i64 0) := (zc1 BK170.out 0).trans rfl; have hcz40_1 : w39.cell? ⟨gb170, 1, none⟩ = some (.int .i64 0) := (zc1 BK170.out 1).trans rfl; have hcz40_2 : w39.cell? ⟨gb170, 2, none⟩ = some (.int .i64 0) := (zc1 BK170.out 2).trans rfl; have hcz40_3 : w39.cell? ⟨gb170, 3, none⟩ = some (.slice none 0 0) := (zc1 BK170.out 3).trans rfl; have hfz40_0 := zc5 BK170.out 0; have hfz40_1 := zc5 BK170.out 1; have hfz40_2 := zc5 BK170.out 2; have hfz40_3 := zc5 BK170.out 3; obtain ⟨Ao41, co41, eo41⟩ := Kd.R_slice HO168.out; subst eo41) | ((with_reducible refine gate_callee (f := 8) rfl ?_); refine goesL_ (some 26) rfl rfl Try.func8 (by kernel_rfl) rfl #[] rfl (by (try simp only [zm1, zm2, zm3]); first | done | rfl | (simp only [List.length_drop, List.length_take]; rfl)) ?_; (with_reducible refine (remoralaw09_awake.calls k  t180 _ A37.out).mono ?_); rintro e w42 ⟨rfl, hb⟩; refine ⟨_, rfl, ?_⟩; have n0_ := zA (Kd.R_below (by (with_reducible repeat (first | apply Kd.R_alloc | apply Kd.R_drewN | apply Kd.R_drew)); exact (Kd.R_mono (Kd.R_far (p := ⟨gb170, 3, none⟩) (Kd.R_far (p := ⟨gb170, 2, none⟩) (Kd.R_far (p := ⟨gb170, 1, none⟩) (Kd.R_far (p := ⟨gb170, 0, none⟩) (Kd.R_types HO168.out BK170.out (by decide)) (fun _ hk => hk.2) (.int .i64 t163)) (fun _ hk => hk.2) (.int .i64 t164)) (fun _ hk => hk.2) (.int .i64 t165)) (fun _ hk => hk.2) (.slice Ao41 t166.length co41)) (fun _ h_ => h_.1))) hb); have n1_ := zA (zc6 (g := gb170) (o := .cells #[.int .i64 t163, .int .i64 t164, .int .i64 t165, .slice Ao41 t166.length co41] 24 (0, 0)) (by (with_reducible repeat (first | refine zc3 ?_ _ | refine zc4 ?_ | refine zc2 ?_ _)); refine blk_put (cs := #[.int .i64 t163, .int .i64 t164, .int .i64 t165, .slice none 0 0]) ?_ 3 _ rfl; (with_reducible repeat (first | refine zc3 ?_ _ | refine zc4 ?_ | refine zc2 ?_ _)); refine blk_put (cs := #[.int .i64 t163, .int .i64 t164, .int .i64 0, .slice none 0 0]) ?_ 2 _ rfl; (with_reducible repeat (first | refine zc3 ?_ _ | refine zc4 ?_ | refine zc2 ?_ _)); refine blk_put (cs := #[.int .i64 t163, .int .i64 0, .int .i64 0, .slice none 0 0]) ?_ 1 _ rfl; (with_reducible repeat (first | refine zc3 ?_ _ | refine zc4 ?_ | refine zc2 ?_ _)); refine blk_put (cs := #[.int .i64 0, .int .i64 0, .int .i64 0, .slice none 0 0]) ?_ 0 _ rfl; (with_reducible repeat (first | refine zc3 ?_ _ | refine zc4 ?_ | refine zc2 ?_ _)); exact BK170.out) hb); have n2_ := zA (zb5 (by repeat (first | (with_reducible first | exact HB.out | apply zb3 | apply zb1 | apply zb2 | refine zb4 ?_ GE170.out) | exact HB.out)) hb); clear HO168; clear BK170; clear HB; have HO168 := n0_; have BK170 := n1_; have HB := n2_; clear n0_ n1_ n2_; (try clear hb); (try clear hb2); (try clear hk); (try clear hi)))
   go_ret
   exact ⟨by first | rfl | (simp [*] <;> rfl), by repeat (first | (with_reducible first | exact HB.out | apply zb3 | apply zb1 | apply zb2 | refine zb4 ?_ GE170.out) | exact HB.out)⟩


/-- THE ONE PURE STATEMENT of remoralaw09_MatchSame. -/
def remoralaw09_MatchSame.Pure : Prop := ∀ (l0 : List Int) (a1 : Int) (a2 : Int), (l0.length ≤ maxLen ∧ ∀ q0_ ∈ l0, (Lit.int .u8 q0_).wf = true) → l0.length * 1 ≤ 140737488351232 → (Lit.int .i64 a1).wf = true → (Lit.int .i64 a2).wf = true → ∃ k, remoralaw09_MatchSame.f k l0 a1 a2 = some true

end Go.Proofs.Ytkihlcmjjoiccaa.PMatchSame
