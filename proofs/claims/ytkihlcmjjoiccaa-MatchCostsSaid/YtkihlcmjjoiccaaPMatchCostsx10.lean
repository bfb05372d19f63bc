-- Written by a program of this session (the kit's printer with hand-written contracts among its functions).
-- squeezed
import Derived.Test.YtkihlcmjjoiccaaPMatchCostsx0
import Derived.Test.YtkihlcmjjoiccaaPMatchCostsx6
import Derived.Test.YtkihlcmjjoiccaaPMatchCostsx7
import Derived.Test.YtkihlcmjjoiccaaPMatchCostsx9
import Derived.Test.YtkihlcmjjoiccaaRq
namespace Go.Proofs.Ytkihlcmjjoiccaa.PMatchCosts
open Go.RowKit Go.Proofs.YtkihlcmjjoiccaaW.PrintWords Go.Proofs.YtkihlcmjjoiccaaW.PrintLast Go.Proofs.YtkihlcmjjoiccaaW.PrintMore
attribute [local go_sem] max2_int min2_int max_two min_two max_three min_three max_four min_four   -- for this text's walks alone
set_option linter.unusedVariables false
set_option linter.unusedSimpArgs false

structure LwS (w w' : World) (gs : Nat) (a0 a1 a2 : Int) (A : Option Addr) (c : Nat) (l : List S55) : Prop where
 bs : w'.heap[gs]? = some (.cells #[.int .i64 a0, .int .i64 a1, .int .i64 a2, .slice A l.length c] 24 (0, 0))
 rd : Kd.C k55 w' A l.length l
 bl : Below w.heap.size w w'
section
variable {w w' w2 : World} {gs : Nat} {a0 a1 a2 : Int} {A : Option Addr} {c : Nat} {l : List S55}
theorem LwS.step (h : LwS w w' gs a0 a1 a2 A c l) (hb : Below w'.heap.size w' w2) : LwS w w2 gs a0 a1 a2 A c l := ⟨zc6 h.bs hb, Kd.C_below h.rd hb, zb5 h.bl hb⟩
theorem LwS.c0 (h : LwS w w' gs a0 a1 a2 A c l) : w'.cell? ⟨gs, 0, none⟩ = some (.int .i64 a0) := (zc1 h.bs 0).trans rfl
theorem LwS.c1 (h : LwS w w' gs a0 a1 a2 A c l) : w'.cell? ⟨gs, 1, none⟩ = some (.int .i64 a1) := (zc1 h.bs 1).trans rfl
theorem LwS.c2 (h : LwS w w' gs a0 a1 a2 A c l) : w'.cell? ⟨gs, 2, none⟩ = some (.int .i64 a2) := (zc1 h.bs 2).trans rfl
theorem LwS.c3 (h : LwS w w' gs a0 a1 a2 A c l) : w'.cell? ⟨gs, 3, none⟩ = some (.slice A l.length c) := (zc1 h.bs 3).trans rfl
end
def awA : List Int := [48, 49, 50, 51, 52, 53, 54, 55, 56, 57, 97, 98, 99, 100, 101, 102]
def awB : List Int := [102, 101, 100, 99, 98, 97, 57, 56, 55, 54, 53, 52, 51, 50, 49, 48]
def awO : List S47 := [⟨16, 16, []⟩, ⟨0, 0, [120]⟩, ⟨0, 16, []⟩]
theorem aw_conv {P : Program} {ops : Array Oper} {rest : List Oper} {o : Oper} {a : Act} {Q : Exit → Act → World → Prop} {W : World} {C : Array Value} {n e : Nat} (hgd : o.guard = none) {N : Tmp} (_hd : o.dst = some N) (xs : List Int) (hC : C.toList = xs.map (Value.int .u8)) (hn : xs.length = n) (hl : n ≤ 1000)
    (hrun : (execOp a.eval o).run P (W.alloc (.cells C e)) = .ok (.value (.slice (some ⟨W.heap.size, 0, none⟩) n n)) (W.alloc (.cells C e (C.size, C.size + 1))))
    (h : ∀ A w1, Kd.C (Kd.int .u8) w1 (some A) n xs → Below W.heap.size W w1 → wpList P ops Q rest (a.put o.dst (.slice (some A) n n)) w1) : wpList P ops Q (o :: rest) a (W.alloc (.cells C e)) := by
 subst hn
 exact Kd.event_run hgd hrun (h _ _ (Jn.C_alloc_lit W .u8 e _ xs C hC (by omega)) (zb3 (Below.refl _ _) _))
theorem toT_inj {l m : List S47} (h : l.map toT = m.map toT) : l = m := by
 have e : ∀ l : List S47, (l.map toT).map ofT = l := fun l => by rw [List.map_map]; exact List.map_id l
 rw [← e l, h, e m]
def remoralaw09_awake.f (k : Nat) : Option Bool :=
 (sig_Of.f k ([] ++ awA ++ awB) 16 8).bind fun s => if s.2.2.2.2 = 0 then
  (match_Of.f k s.1 s.2.1 s.2.2.1 s.2.2.2.1 ([] ++ awB ++ [120] ++ awA)).bind fun m => if m.2 = 0 ∧ m.1.map toT = awO.map toT then
   (delta_Same.f k awO awO).bind fun t => if t = true then some true else none else none else none
theorem remoralaw09_awake.mono : ∀ k, LeO (remoralaw09_awake.f k) (remoralaw09_awake.f (k + 1)) := by
 intro k
 unfold remoralaw09_awake.f
 exact LeO.bind (sig_Of.mono _ _ _ _) fun _ => LeO.ite (LeO.bind (match_Of.mono _ _ _ _ _ _) fun _ => LeO.ite (LeO.bind (delta_Same.mono _ _ _) fun _ => LeO.refl _) (LeO.none _)) (LeO.none _)
theorem aw_opC {w : World} {A : Option Addr} {c : Nat} (hA : Kd.C (Kd.int .u8) w A 1 [120]) (hc : 1 ≤ c) :
    Kd.C k47 (w.alloc (.cells #[.int .i64 16, .int .i64 16, .slice none 0 0, .int .i64 0, .int .i64 0, .slice A 1 c, .int .i64 0, .int .i64 16, .slice none 0 0] 47)) (some ⟨w.heap.size, 0, none⟩) 3 awO := by
 refine Jn.C_of_iso (f := toT) (Jn.kP_alloc_lit w _ _ [(16, 16, []), (0, 0, [120]), (0, 16, [])] _ (by decide) (fun j p hj => ?_))
 match j, hj with
 | 0, hj => obtain rfl := Option.some.inj hj; exact ⟨_, _, rfl, rfl, rfl, Nat.zero_le _, Jn.C_zero _ _ _⟩
 | 1, hj => obtain rfl := Option.some.inj hj; exact ⟨_, _, rfl, rfl, rfl, hc, Kd.C_below hA (zb3 (Below.refl _ _) _)⟩
 | 2, hj => obtain rfl := Option.some.inj hj; exact ⟨_, _, rfl, rfl, rfl, Nat.zero_le _, Jn.C_zero _ _ _⟩
def remoralaw09_awake.T3 : Bool × List (List Nat × List Nat) := (true, [([], []), ([], []), ([], []), ([1, 2], [1, 2]), ([], []), ([3, 4, 3], [3, 4]), ([], []), ([5, 6, 5], [5, 6]), ([0, 7, 7], [0, 7]), ([8], [8]), ([9], [9]), ([9], [9]), ([10, 8, 0, 1, 2, 3, 4, 5, 6, 7, 8, 9, 10], [10]), ([11, 12, 0, 1, 2, 3, 4, 5, 6, 7, 8, 9, 10, 11, 12], [11])])
def remoralaw09_awake.B3 : List Nat := [0, 0, 0, 6, 0, 30, 0, 126, 255, 511, 1023, 1023, 2047, 8191]
theorem remoralaw09_awake.tab3 : rtab .any (opsOf Try.f8 3) = remoralaw09_awake.T3 := by kernel_rfl
theorem remoralaw09_awake.bits3 : waitsOk remoralaw09_awake.T3.2 remoralaw09_awake.B3 = true := by kernel_rfl
set_option maxHeartbeats 16000000 in
set_option maxRecDepth 100000 in
theorem remoralaw09_awake.calls (k : Nat) (r : Bool) (w : World) (h : remoralaw09_awake.f k = some r) :
    Calls Try.prog 8 #[] w fun e w' => e = .returned (.bool r) ∧ Below w.heap.size w w' := by
 have hu := Try.underlying24
 have hu2 := Try.underlying47
 obtain ⟨⟨s, b, n, l, e0⟩, hof, h⟩ := ob_ h
 obtain ⟨h0, h⟩ := oi_ h
 obtain rfl : e0 = 0 := h0
 obtain ⟨⟨m1, m2⟩, hmo, h⟩ := ob_ h
 obtain ⟨h0, h⟩ := oi_ h
 obtain ⟨rfl, rfl⟩ : m2 = 0 ∧ m1 = awO := ⟨h0.1, toT_inj h0.2⟩
 obtain ⟨t, hsm, h⟩ := ob_ h
 obtain ⟨h0, h⟩ := oi_ h
 subst h0
 obtain rfl : true = r := Option.some.inj h
 obtain ⟨la, hla⟩ : ∃ la, la = awA := ⟨_, rfl⟩
 obtain ⟨lb, hlb⟩ : ∃ lb, lb = awB := ⟨_, rfl⟩
 have HOF : Aside0 (sig_Of.f k ([] ++ la ++ lb) 16 8 = some (s, b, n, l, 0)) := ⟨by rw [hla, hlb]; exact hof⟩
 have HMO : Aside0 (match_Of.f k s b n l ([] ++ lb ++ [120] ++ la) = some (awO, 0)) := ⟨by rw [hla, hlb]; exact hmo⟩
 have HSM := zA hsm
 have HLA := zA hla
 have HLB := zA hlb
 have NA : la.length = 16 := by rw [hla]; rfl
 have NB : lb.length = 16 := by rw [hlb]; rfl
 have HNA := zA NA
 have HNB := zA NB
 clear hof hmo hsm h hla hlb NA NB
 have kc := fun (w : World) (C : Array Value) (n c : Nat) => Lib.run_convert_bytes_const (P := Try.prog) w 33 5 C n c Try.underlying33 Try.underlying5
 go_enter Try.func8, Try.ntmps8
 go_wp2_with (first | ((with_reducible refine gate_dst (N := 8) rfl ?_); refine aw_conv ?hg (N := 8) ?hd la ?hC HNA.out (by decide) ?hr ?_; (case hd => rfl); (case hg => rfl); (case hC => first | (rw [HLA.out]; rfl) | (rw [HLB.out]; rfl) | rfl); (case hr => first | (go_simp; done) | (go_simp; rfl)); intro A1 w1 hx hb; have HA := zA hx; have HB1 := zA hb; clear hx hb) | ((with_reducible refine gate_dst (N := 10) rfl ?_); refine aw_conv ?hg (N := 10) ?hd lb ?hC HNB.out (by decide) ?hr ?_; (case hd => rfl); (case hg => rfl); (case hC => first | (rw [HLA.out]; rfl) | (rw [HLB.out]; rfl) | rfl); (case hr => first | (go_simp; done) | (go_simp; rfl)); intro A2 w2 hx hb; have HB2 := zA (zb5 HB1.out hb); have HB2' := zA hb; have HE := zA hx; replace HA := zA (Kd.C_below HA.out hb); clear hx hb) | ((with_reducible refine gate_dst (N := 12) rfl ?_); refine Kd.R_lit (Kd.int .u8) _ 5 ?hg (N := 12) ?hd (xs := ([] : List Int)) (inner := []) (ok := fun _ => True) (okp := fun _ => True) ?hr ?hp (fun _ hk => hk) trivial (Below.refl _ _) (Nat.le_refl _) (by simp) ?_; (case hd => rfl); (case hg => rfl); (case hr => first | (go_simp; done) | (go_simp; rfl)); (case hp => exact (Reps.none _ _)); intro v12 w3 ho hb hg_ hnew_; have H12 := zA ho; have HB3 := zA hb; clear ho hb hg_ hnew_) | ((with_reducible refine gate_builtin (b := .append) (xs := #[.tmp 12, .tmp 13]) rfl ?_); at_builtin; refine Kd.R_append_rows (Kd.int .u8) (w0 := w2) w2.heap.size rfl (.tmp 12) (.tmp 13) 33 5 (.int .u8 0) 1 rfl Try.underlying33 info5 rfl (by decide) (by omega) v12 [] la _ 16 16 (fun _ => True) (fun _ => False) rfl rfl H12.out (Kd.C_below HA.out HB3.out) (fun _ _ h => h) (fun _ h => h.elim) (fun _ _ => trivial) HB3.out (HB3.out).size (by have := HNA.out; have := HNB.out; simp only [List.length_append, List.length_nil]; omega) ?_; intro v14 w4 ho hb hg hat; have H14 := zA ho; have HB4 := zA hb; clear ho hb hg hat) | ((with_reducible refine gate_builtin (b := .append) (xs := #[.tmp 14, .tmp 15]) rfl ?_); at_builtin; refine Kd.R_append_rows (Kd.int .u8) (w0 := w2) w2.heap.size rfl (.tmp 14) (.tmp 15) 33 5 (.int .u8 0) 1 rfl Try.underlying33 info5 rfl (by decide) (by omega) v14 ([] ++ la) lb _ 16 16 (fun _ => True) (fun _ => False) rfl rfl H14.out (Kd.C_below HE.out HB4.out) (fun _ _ h => h) (fun _ h => h.elim) (fun _ _ => trivial) HB4.out (HB4.out).size (by have := HNA.out; have := HNB.out; simp only [List.length_append, List.length_nil]; omega) ?_; intro v16 w5 ho hb hg hat; have H16 := zA ho; have HB5 := zA hb; clear ho hb hg hat))
 clear kc
 obtain ⟨A16, c16, rfl, hl16, hr16⟩ := Kd.R_reads H16.out
 refine (sig_Of.calls k A16 c16 _ 16 8 s b n l 0 _ hr16 hl16 HOF.out).mono ?_
 rintro e w6 ⟨v3, rfl, hR, hb⟩
 obtain ⟨A, c, rfl, hcl, hR⟩ := Kd.R_reads hR
 have HR := zA hR
 have HC := zA hcl
 have HB6 := zA (zb5 HB5.out hb)
 clear hb hR hcl hl16 hr16 H12 H14 H16 HB3 HB4 HB5 HOF
 go_wp2_with (first | ((with_reducible refine gate_dst (N := 3) rfl ?_); refine box_event ?hg (N := 3) ?hd (cs := #[.int .i64 0, .int .i64 0, .int .i64 0, .slice none 0 0]) (t := 24) ?hr ?_; (case hd => rfl); (case hg => rfl); (case hr => first | (go_simp; done) | (go_simp; rfl)); intro gs hgs w7 hA7 hq; have HQ7 := zA hq; have HS0 := zA hA7; have HGS := zA (show w6.heap.size ≤ gs by rw [hgs]; exact Nat.le_refl _); have hq0 := zc1 hA7 0; have hf0 := zc5 hA7 0; have hq1 := zc1 hA7 1; have hf1 := zc5 hA7 1; have hq2 := zc1 hA7 2; have hf2 := zc5 hA7 2; have hq3 := zc1 hA7 3; have hf3 := zc5 hA7 3; clear hA7 hq hgs))
 have HB7 : Aside0 (Below w6.heap.size w6 ((((w7.setCell ⟨gs, 0, none⟩ (.int .i64 s)).setCell ⟨gs, 1, none⟩ (.int .i64 b)).setCell ⟨gs, 2, none⟩ (.int .i64 n)).setCell ⟨gs, 3, none⟩ (.slice A l.length c))) := ⟨zb4 (zb4 (zb4 (zb4 HQ7.out HGS.out) HGS.out) HGS.out) HGS.out⟩
 have HS : Aside0 (LwS w2 ((((w7.setCell ⟨gs, 0, none⟩ (.int .i64 s)).setCell ⟨gs, 1, none⟩ (.int .i64 b)).setCell ⟨gs, 2, none⟩ (.int .i64 n)).setCell ⟨gs, 3, none⟩ (.slice A l.length c)) gs s b n A c l) := ⟨⟨blk_put (blk_put (blk_put (blk_put HS0.out 0 _ rfl) 1 _ rfl) 2 _ rfl) 3 _ rfl, Kd.C_below HR.out HB7.out, zb5 HB6.out HB7.out⟩⟩
 clear hq0 hq1 hq2 hq3 hf0 hf1 hf2 hf3 HQ7 HS0 HGS HB7 HR HB6
 generalize ((((w7.setCell ⟨gs, 0, none⟩ (.int .i64 s)).setCell ⟨gs, 1, none⟩ (.int .i64 b)).setCell ⟨gs, 2, none⟩ (.int .i64 n)).setCell ⟨gs, 3, none⟩ (.slice A l.length c)) = w7' at HS ⊢
 replace HS := zA (HS.out.step (zb2 (Below.refl _ _)))
 refine start_ (n := 14) (S := fun w' => w'.cell? ⟨gs, 0, none⟩ = some (.int .i64 s) ∧ w'.cell? ⟨gs, 1, none⟩ = some (.int .i64 b) ∧ w'.cell? ⟨gs, 2, none⟩ = some (.int .i64 n) ∧ w'.cell? ⟨gs, 3, none⟩ = some (.slice A l.length c)) (ds := [8]) (qq 14 0) (by kernel_rfl) rfl (by kernel_rfl) ⟨HS.out.c0, HS.out.c1, HS.out.c2, HS.out.c3⟩ (fun hHeld => ?_); refine with_tabW remoralaw09_awake.tab3 remoralaw09_awake.bits3 (fun HT_ HW_ => ?_)
 generalize w7'.drew = w8 at HS hHeld ⊢
 have HB := zA (Below.refl w8.heap.size w8)
 refine ord_ [(0, 2, 4), (0, 6, 68), (1, 0, 69)] ?_
 repeat (first | (refine kk_ 0 ?_; refine oP_ (v := ?_) (a' := ?_) HT_ rfl rfl (by kernel_rfl) (fun _ _ _ h => h) (Or.inl ⟨by rfl, ?_⟩) ?_ ?_; rotate_left; (intro w'; go_simp; with_reducible rfl); rotate_left; (simp only [Act.put, zs1, zs2, zs3, i64_w, i32_w]; rfl)) | (refine kk_ 1 ?_; refine oT_ (v := ?_) (a' := ?_) HT_ HW_ rfl rfl (by kernel_rfl) (fun _ _ _ h => h) (Or.inl ⟨by rfl, ?_⟩) hHeld ?_ ?_; rotate_left; (rintro w' ⟨s0, s1, s2, s3⟩; go_simp; with_reducible rfl); rotate_left; (simp only [Act.put, zs1, zs2, zs3, i64_w, i32_w]; rfl)))
 refine oend_ ?_
 refine join_ (σ := Value × Value × Value) 8 (qq 14 95) (fun s_ => [(22, s_.1), (24, s_.2.1), (25, s_.2.2)]) (fun s_ w' => (w'.cell? ⟨gs, 0, none⟩ = some (.int .i64 s) ∧ w'.cell? ⟨gs, 1, none⟩ = some (.int .i64 b) ∧ w'.cell? ⟨gs, 2, none⟩ = some (.int .i64 n) ∧ w'.cell? ⟨gs, 3, none⟩ = some (.slice A l.length c)) ∧ Below w8.heap.size w8 w' ∧ (Kd.int .u8).R 5 w' w8.heap.size (fun _ => True) s_.2.1 ([] ++ lb) ∧ ∃ bs ok, (Kd.int .u8).R 5 w' bs ok s_.2.2 [120]) ?_ ?_
 rotate_left
 ·intro hCont
  refine two_ (i := 1) (j := 4) (Ni := some 22) (Nj := some 25) (qq 14 71) (qq 14 85) rfl rfl rfl rfl (two_of HT_.out (by kernel_rfl)) (by decide) (by decide) (fun K hK => ?_) (fun K hK => ?_)
  ·skip
   refine Kd.R_lit_step (Kd.int .u8) _ 5 ?hg (N := 22) ?hd (xs := ([] : List Int)) (inner := []) (ok := fun _ => True) (okp := fun _ => True) ?hr ?hp (fun _ hk => hk) trivial (Below.refl _ _) (Nat.le_refl _) (by simp) ?_; (case hd => rfl); (case hg => rfl); (case hr => first | (go_simp; done) | (go_simp; rfl)); (case hp => exact (Reps.none _ _))
   intro v22 w22 ho hb hg_ hnew_
   have H22 := zA (Kd.R_lower ho HB.out.size)
   replace HB := zA (zb5 HB.out hb)
   clear ho hb hg_ hnew_
   refine hK.out _ _ ⟨(HS.out.step HB.out).c0, (HS.out.step HB.out).c1, (HS.out.step HB.out).c2, (HS.out.step HB.out).c3⟩ (fun hHeld => ?_)
   clear hK K
   refine norm_ (a' := ?_) ?_ ?_
   rotate_left
   ·show Act.put _ (some 22) _ = _
    simp only [Act.put, zs1, zs2, zs3, i64_w, i32_w]
    rfl
   refine two_ (i := 3) (j := 4) (Ni := some 24) (Nj := some 25) (qq 14 79) (qq 14 87) rfl rfl rfl rfl (two_of HT_.out (by kernel_rfl)) (by decide) (by decide) (fun K hK => ?_) (fun K hK => ?_)
   ·skip
    refine Kd.R_append_rows_step (Kd.int .u8) (w0 := w8) w8.heap.size (by rfl) (.tmp 22) (.tmp 23) 33 5 (.int .u8 0) 1 rfl Try.underlying33 info5 rfl (by decide) (by omega) v22 [] lb _ 16 _ (fun _ => True) (fun _ => False) rfl rfl H22.out (Kd.C_below HE.out (HS.out.step HB.out).bl) (fun _ _ h => h) (fun _ h => h.elim) (fun _ _ => trivial) HB.out HB.out.size (by have := HNA.out; have := HNB.out; simp only [List.length_append, List.length_nil, List.length_cons]; omega) ?_
    intro v24 w24 ho hb hg hat
    have H24 := zA ho
    replace HB := zA hb
    clear ho hb hg hat
    refine hK.out _ _ ⟨(HS.out.step HB.out).c0, (HS.out.step HB.out).c1, (HS.out.step HB.out).c2, (HS.out.step HB.out).c3⟩ (fun hHeld => ?_)
    clear hK K
    refine norm_ (a' := ?_) ?_ ?_
    rotate_left
    ·show Act.put _ (some 24) _ = _
     simp only [Act.put, zs1, zs2, zs3, i64_w, i32_w]
     rfl
    refine one_ (i := 4) (N := some 25) (qq 14 95) rfl rfl (one_of HT_.out (by kernel_rfl)) (by decide) (fun K hK => ?_)
    refine Kd.R_lit_step (Kd.int .u8) _ 5 ?hg (N := 25) ?hd (xs := ([120] : List Int)) (inner := [.int .u8 120]) (ok := fun _ => True) (okp := fun _ => True) ?hr ?hp (fun _ hk => hk) trivial (Below.refl _ _) (Nat.le_refl _) (by simp) ?_; (case hd => rfl); (case hg => rfl); (case hr => first | (go_simp; done) | (go_simp; rfl)); (case hp => exact (Reps.one (show Kd.M (Kd.int .u8) _ _ _ 120 [.int .u8 120] from rfl) (Reps.none _ _)))
    intro v25 w25 ho hb hg_ hnew_
    have H25 := zA ho
    replace H24 := zA (Kd.R_below H24.out hb)
    replace HB := zA (zb5 HB.out hb)
    clear ho hb hg_ hnew_
    refine hK.out _ _ ⟨(HS.out.step HB.out).c0, (HS.out.step HB.out).c1, (HS.out.step HB.out).c2, (HS.out.step HB.out).c3⟩ (fun hHeld => ?_)
    clear hK K
    refine norm_ (a' := ?_) ?_ ?_
    rotate_left
    ·show Act.put _ (some 25) _ = _
     simp only [Act.put, zs1, zs2, zs3, i64_w, i32_w]
     rfl
    exact norm_ (by simp only [putAll, Act.put, zs1, zs2, zs3]) (hCont (v22, v24, v25) _ ⟨hHeld, HB.out, H24.out, ⟨_, _, H25.out⟩⟩)
   ·skip
    refine Kd.R_lit_step (Kd.int .u8) _ 5 ?hg (N := 25) ?hd (xs := ([120] : List Int)) (inner := [.int .u8 120]) (ok := fun _ => True) (okp := fun _ => True) ?hr ?hp (fun _ hk => hk) trivial (Below.refl _ _) (Nat.le_refl _) (by simp) ?_; (case hd => rfl); (case hg => rfl); (case hr => first | (go_simp; done) | (go_simp; rfl)); (case hp => exact (Reps.one (show Kd.M (Kd.int .u8) _ _ _ 120 [.int .u8 120] from rfl) (Reps.none _ _)))
    intro v25 w25 ho hb hg_ hnew_
    have H25 := zA (Kd.R_new' ho (Kd.R_lt H22.out))
    replace H22 := zA (Kd.R_below H22.out hb)
    replace HB := zA (zb5 HB.out hb)
    clear ho hb hg_ hnew_
    refine hK.out _ _ ⟨(HS.out.step HB.out).c0, (HS.out.step HB.out).c1, (HS.out.step HB.out).c2, (HS.out.step HB.out).c3⟩ (fun hHeld => ?_)
    clear hK K
    refine norm_ (a' := ?_) ?_ ?_
    rotate_left
    ·show Act.put _ (some 25) _ = _
     simp only [Act.put, zs1, zs2, zs3, i64_w, i32_w]
     rfl
    refine one_ (i := 3) (N := some 24) (qq 14 95) rfl rfl (one_of HT_.out (by kernel_rfl)) (by decide) (fun K hK => ?_)
    refine Kd.R_append_rows_step (Kd.int .u8) (w0 := w8) w8.heap.size (by rfl) (.tmp 22) (.tmp 23) 33 5 (.int .u8 0) 1 rfl Try.underlying33 info5 rfl (by decide) (by omega) v22 [] lb _ 16 _ (fun _ => True) (fun _ => False) rfl rfl H22.out (Kd.C_below HE.out (HS.out.step HB.out).bl) (fun _ _ h => h) (fun _ h => h.elim) (fun _ _ => trivial) HB.out HB.out.size (by have := HNA.out; have := HNB.out; simp only [List.length_append, List.length_nil, List.length_cons]; omega) ?_
    intro v24 w24 ho hb hg hat
    have H24 := zA ho
    replace H25 := zA (Kd.R_grown H25.out hg (fun _ hk => hk.2))
    replace HB := zA hb
    clear ho hb hg hat
    refine hK.out _ _ ⟨(HS.out.step HB.out).c0, (HS.out.step HB.out).c1, (HS.out.step HB.out).c2, (HS.out.step HB.out).c3⟩ (fun hHeld => ?_)
    clear hK K
    refine norm_ (a' := ?_) ?_ ?_
    rotate_left
    ·show Act.put _ (some 24) _ = _
     simp only [Act.put, zs1, zs2, zs3, i64_w, i32_w]
     rfl
    exact norm_ (by simp only [putAll, Act.put, zs1, zs2, zs3]) (hCont (v22, v24, v25) _ ⟨hHeld, HB.out, H24.out, ⟨_, _, H25.out⟩⟩)
  ·skip
   refine Kd.R_lit_step (Kd.int .u8) _ 5 ?hg (N := 25) ?hd (xs := ([120] : List Int)) (inner := [.int .u8 120]) (ok := fun _ => True) (okp := fun _ => True) ?hr ?hp (fun _ hk => hk) trivial (Below.refl _ _) (Nat.le_refl _) (by simp) ?_; (case hd => rfl); (case hg => rfl); (case hr => first | (go_simp; done) | (go_simp; rfl)); (case hp => exact (Reps.one (show Kd.M (Kd.int .u8) _ _ _ 120 [.int .u8 120] from rfl) (Reps.none _ _)))
   intro v25 w25 ho hb hg_ hnew_
   have H25 := zA ho
   replace HB := zA (zb5 HB.out hb)
   clear ho hb hg_ hnew_
   refine hK.out _ _ ⟨(HS.out.step HB.out).c0, (HS.out.step HB.out).c1, (HS.out.step HB.out).c2, (HS.out.step HB.out).c3⟩ (fun hHeld => ?_)
   clear hK K
   refine norm_ (a' := ?_) ?_ ?_
   rotate_left
   ·show Act.put _ (some 25) _ = _
    simp only [Act.put, zs1, zs2, zs3, i64_w, i32_w]
    rfl
   refine one_ (i := 1) (N := some 22) (qq 14 87) rfl rfl (one_of HT_.out (by kernel_rfl)) (by decide) (fun K hK => ?_)
   refine Kd.R_lit_step (Kd.int .u8) _ 5 ?hg (N := 22) ?hd (xs := ([] : List Int)) (inner := []) (ok := fun _ => True) (okp := fun _ => True) ?hr ?hp (fun _ hk => hk) trivial (Below.refl _ _) (Nat.le_refl _) (by simp) ?_; (case hd => rfl); (case hg => rfl); (case hr => first | (go_simp; done) | (go_simp; rfl)); (case hp => exact (Reps.none _ _))
   intro v22 w22 ho hb hg_ hnew_
   have H22 := zA (Kd.R_lower ho HB.out.size)
   replace H25 := zA (Kd.R_elder' H25.out (Kd.R_base ho) hb)
   replace HB := zA (zb5 HB.out hb)
   clear ho hb hg_ hnew_
   refine hK.out _ _ ⟨(HS.out.step HB.out).c0, (HS.out.step HB.out).c1, (HS.out.step HB.out).c2, (HS.out.step HB.out).c3⟩ (fun hHeld => ?_)
   clear hK K
   refine norm_ (a' := ?_) ?_ ?_
   rotate_left
   ·show Act.put _ (some 22) _ = _
    simp only [Act.put, zs1, zs2, zs3, i64_w, i32_w]
    rfl
   refine one_ (i := 3) (N := some 24) (qq 14 95) rfl rfl (one_of HT_.out (by kernel_rfl)) (by decide) (fun K hK => ?_)
   refine Kd.R_append_rows_step (Kd.int .u8) (w0 := w8) w8.heap.size (by rfl) (.tmp 22) (.tmp 23) 33 5 (.int .u8 0) 1 rfl Try.underlying33 info5 rfl (by decide) (by omega) v22 [] lb _ 16 _ (fun _ => True) (fun _ => False) rfl rfl H22.out (Kd.C_below HE.out (HS.out.step HB.out).bl) (fun _ _ h => h) (fun _ h => h.elim) (fun _ _ => trivial) HB.out HB.out.size (by have := HNA.out; have := HNB.out; simp only [List.length_append, List.length_nil, List.length_cons]; omega) ?_
   intro v24 w24 ho hb hg hat
   have H24 := zA ho
   replace H25 := zA (Kd.R_grown H25.out hg (fun _ hk => hk.2))
   replace HB := zA hb
   clear ho hb hg hat
   refine hK.out _ _ ⟨(HS.out.step HB.out).c0, (HS.out.step HB.out).c1, (HS.out.step HB.out).c2, (HS.out.step HB.out).c3⟩ (fun hHeld => ?_)
   clear hK K
   refine norm_ (a' := ?_) ?_ ?_
   rotate_left
   ·show Act.put _ (some 24) _ = _
    simp only [Act.put, zs1, zs2, zs3, i64_w, i32_w]
    rfl
   exact norm_ (by simp only [putAll, Act.put, zs1, zs2, zs3]) (hCont (v22, v24, v25) _ ⟨hHeld, HB.out, H24.out, ⟨_, _, H25.out⟩⟩)
 rintro ⟨v22, v24, v25⟩ w9 ⟨hHeld, hb9, h24, bs9, ok9, h25⟩
 obtain ⟨A25, c25, rfl, hl25, hr25⟩ := Kd.R_reads h25
 replace HB := zA hb9
 have H24 := zA h24
 have H25 := zA hr25
 clear hb9 h24 h25 hr25 hl25
 refine norm_ (a' := ?_) (by simp only [putAll, Act.put, zs1, zs2, zs3]; rfl) ?_
 refine one_ (i := 5) (N := some 26) (qq 14 127) rfl rfl (one_of HT_.out (by kernel_rfl)) (by decide) (fun K hK => ?_)
 refine Kd.R_append_rows_step (Kd.int .u8) (w0 := w8) w8.heap.size (by rfl) (.tmp 24) (.tmp 25) 33 5 (.int .u8 0) 1 rfl Try.underlying33 info5 rfl (by decide) (by omega) v24 ([] ++ lb) [120] _ 1 _ (fun _ => True) (fun _ => False) rfl rfl H24.out H25.out (fun _ _ h => h) (fun _ h => h.elim) (fun _ _ => trivial) HB.out HB.out.size (by have := HNA.out; have := HNB.out; simp only [List.length_append, List.length_nil, List.length_cons]; omega) ?_
 intro v26 w26 ho hb hg hat
 have H26 := zA ho
 replace HB := zA hb
 clear ho hb hg hat H24 H25
 refine hK.out _ _ ⟨(HS.out.step HB.out).c0, (HS.out.step HB.out).c1, (HS.out.step HB.out).c2, (HS.out.step HB.out).c3⟩ (fun hHeld => ?_)
 clear hK K
 refine norm_ (a' := ?_) ?_ ?_
 rotate_left
 ·show Act.put _ (some 26) _ = _
  simp only [Act.put, zs1, zs2, zs3, i64_w, i32_w]
  rfl
 refine one_ (i := 7) (N := some 28) (qq 14 255) rfl rfl (one_of HT_.out (by kernel_rfl)) (by decide) (fun K hK => ?_)
 refine Kd.R_append_rows_step (Kd.int .u8) (w0 := w8) w8.heap.size (by rfl) (.tmp 26) (.tmp 27) 33 5 (.int .u8 0) 1 rfl Try.underlying33 info5 rfl (by decide) (by omega) v26 ([] ++ lb ++ [120]) la _ 16 _ (fun _ => True) (fun _ => False) rfl rfl H26.out (Kd.C_below HA.out (HS.out.step HB.out).bl) (fun _ _ h => h) (fun _ h => h.elim) (fun _ _ => trivial) HB.out HB.out.size (by have := HNA.out; have := HNB.out; simp only [List.length_append, List.length_nil, List.length_cons]; omega) ?_
 intro v28 w28 ho hb hg hat
 obtain ⟨A28, c28, rfl, hl28, hr28⟩ := Kd.R_reads ho
 have H28 := zA hr28
 have HL28 := zA hl28
 replace HB := zA hb
 clear ho hb hg hat H26 hl28 hr28
 refine hK.out _ _ ⟨(HS.out.step HB.out).c0, (HS.out.step HB.out).c1, (HS.out.step HB.out).c2, (HS.out.step HB.out).c3⟩ (fun hHeld => ?_)
 clear hK K
 refine norm_ (a' := ?_) ?_ ?_
 rotate_left
 ·show Act.put _ (some 28) _ = _
  simp only [Act.put, zs1, zs2, zs3, i64_w, i32_w]
  rfl
 refine last_ (i := 8) (N := some 29) (qq 14 511) rfl rfl (one_of HT_.out (by kernel_rfl)) (by decide) (fun K hK => ?_)
 refine goes_ Try.func15 (by kernel_rfl) rfl #[.agg #[.int .i64 s, .int .i64 b, .int .i64 n, .slice A l.length c], .slice A28 ([] ++ lb ++ [120] ++ la).length c28] (by rfl) rfl rfl (by (try simp only [zm1, zm2, zm3]); first | done | rfl) ?_
 refine (match_Of.calls k s b n A c l A28 c28 _ awO 0 w28 (HS.out.step HB.out).rd HC.out H28.out HL28.out HMO.out).mono ?_
 rintro e w29 ⟨v29, rfl, hN, hb⟩
 obtain ⟨Am, cm, rfl, hlm, hrm⟩ := Kd.N_reads hN
 have HM := zA hrm
 have HLM := zA hlm
 have HB9 := zA (zb5 (zb5 (zb5 HB1.out HB2'.out) (HS.out.step HB.out).bl) hb)
 refine ⟨_, rfl, ?_⟩
 refine hK.out _ _ ?_
 clear hK K
 refine norm_ (a' := ?_) ?_ ?_
 rotate_left
 ·show Act.put _ (some 29) _ = _
  simp only [Act.put, zs1, zs2, zs3, i64_w, i32_w]
  rfl
 refine ord_ [(0, 9, 1023), (0, 10, 2047), (0, 11, 4095), (0, 12, 8191), (0, 13, 16383)] ?_
 repeat (refine kk_ 0 ?_; refine oP_ (v := ?_) (a' := ?_) HT_ rfl rfl (by kernel_rfl) (fun _ _ _ h => h) (Or.inl ⟨by rfl, ?_⟩) ?_ ?_; rotate_left; (intro w'; go_simp; with_reducible rfl); rotate_left; (simp only [Act.put, zs1, zs2, zs3, i64_w, i32_w]; rfl))
 refine oend_ ?_
 refine done_ (done_of HT_.out (by kernel_rfl)) ?_
 clear hN hb hlm hrm HMO HA HE HS H28 HL28 HT_ HW_ hHeld HC HB1 HB2 HB2' HB
 have kc := fun (w : World) (C : Array Value) (n c : Nat) => Lib.run_convert_bytes_const (P := Try.prog) w 33 5 C n c Try.underlying33 Try.underlying5
 go_wp2_with (first | ((with_reducible refine gate_dst (N := 42) rfl ?_); (try (refine gate_guard (by rfl) ?_; dsimp only)); refine aw_conv ?hg (N := 42) ?hd [120] ?hC rfl (by decide) ?hr ?_; (case hd => rfl); (case hg => rfl); (case hC => rfl); (case hr => first | (go_simp; done) | (go_simp; rfl)); intro A42 w42 hx hb; have H42 := zA hx; have HB42 := zA hb; clear hx hb))
 clear kc
 have HB10 := zA (zb3 (Below.refl w42.heap.size w42) (.cells #[.int .i64 16, .int .i64 16, .slice none 0 0, .int .i64 0, .int .i64 0, .slice (some A42) 1 1, .int .i64 0, .int .i64 16, .slice none 0 0] 47))
 refine (delta_Same.calls k Am cm awO _ 3 awO true _ (Kd.C_below HM.out (zb5 HB42.out HB10.out)) HLM.out (aw_opC H42.out (Nat.le_refl _)) (by decide) HSM.out).mono ?_
 rintro e w50 ⟨rfl, hb⟩
 replace HB9 := zA (zb5 (zb5 (zb5 HB9.out HB42.out) HB10.out) (by first | exact hb | exact hb.below))
 clear hb HM HLM H42 HB42 HB10
 go_wp2_with fail
 go_ret
 exact ⟨rfl, HB9.out⟩


def remoraref05_May.f (a0 : Int) : Option (Bool) := if a0 ≥ 16 then (some (decide (a0 ≤ 4096))) else (some false)
set_option maxHeartbeats 8000000 in
set_option maxRecDepth 100000 in
theorem remoraref05_May.calls (a0 : Int) (r : Bool) (w : World) (h : remoraref05_May.f a0 = some r) :
    Calls Try.prog 61 #[.int .i64 a0] w fun e w' => e = .returned (.bool r) ∧ Drawn0 w w' := by
 have H : (if a0 ≥ 16 then (some (decide (a0 ≤ 4096))) else (some false)) = some r := h
 clear h
 by_cases c2 : a0 ≥ 16
 ·rw [if_pos c2] at H
  have c2b0 : decide (16 ≤ a0) = true := zd1 c2
  clear c2
  obtain rfl := Option.some.inj H
  go_enter Try.func61, Try.ntmps61
  go_wp2
  go_ret
  exact ⟨by first | rfl | (simp; done) | (simp [*]; done), by repeat (first | exact Drawn0.refl _ | apply Drawn0.step)⟩
 ·rw [if_neg c2] at H
  have c2b0 : decide (16 ≤ a0) = false := zd2 c2
  clear c2
  obtain rfl := Option.some.inj H
  go_enter Try.func61, Try.ntmps61
  go_wp2
  go_ret
  exact ⟨by first | rfl | (simp; done) | (simp [*]; done), by repeat (first | exact Drawn0.refl _ | apply Drawn0.step)⟩

def remoraref05_Right.f (a0 : Int) (a1 : Int) : Option (Bool) := if a0 ≥ 0 then (if a0 ≤ 131072 then ((remoraref05_May.f a1).bind fun t157 => (some t157)) else (some false)) else (some false)
set_option maxHeartbeats 8000000 in
set_option maxRecDepth 100000 in
theorem remoraref05_Right.calls (a0 : Int) (a1 : Int) (r : Bool) (w : World) (h : remoraref05_Right.f a0 a1 = some r) :
    Calls Try.prog 43 #[.int .i64 a0, .int .i64 a1] w fun e w' => e = .returned (.bool r) ∧ Drawn0 w w' := by
 have H : (if a0 ≥ 0 then (if a0 ≤ 131072 then ((remoraref05_May.f a1).bind fun t157 => (some t157)) else (some false)) else (some false)) = some r := h
 clear h
 by_cases c3 : a0 ≥ 0
 ·rw [if_pos c3] at H
  have c3b0 : decide (0 ≤ a0) = true := zd1 c3
  clear c3
  by_cases c4 : a0 ≤ 131072
  ·rw [if_pos c4] at H
   have c4b0 : decide (a0 ≤ 131072) = true := zd1 c4
   clear c4
   replace H := Option.bind_eq_some_iff.mp H
   obtain ⟨t157, A50, H⟩ := H
   replace H : (some t157) = some r := H
   have A5 := zA A50
   clear A50
   obtain rfl := Option.some.inj H
   go_enter Try.func43, Try.ntmps43
   go_wp2_with (first | (go_at_call 61; (with_reducible refine (remoraref05_May.calls a1 t157 _ A5.out).mono ?_); rintro e w' ⟨rfl, ⟨nd, rfl⟩⟩))
   go_ret
   exact ⟨by first | rfl | (simp; done) | (simp [*]; done), by repeat (first | exact Drawn0.refl _ | apply Drawn0.step)⟩
  ·rw [if_neg c4] at H
   have c4b0 : decide (a0 ≤ 131072) = false := zd2 c4
   clear c4
   obtain rfl := Option.some.inj H
   go_enter Try.func43, Try.ntmps43
   go_wp2
   go_ret
   exact ⟨by first | rfl | (simp; done) | (simp [*]; done), by repeat (first | exact Drawn0.refl _ | apply Drawn0.step)⟩
 ·rw [if_neg c3] at H
  have c3b0 : decide (0 ≤ a0) = false := zd2 c3
  clear c3
  obtain rfl := Option.some.inj H
  go_enter Try.func43, Try.ntmps43
  go_wp2
  go_ret
  exact ⟨by first | rfl | (simp; done) | (simp [*]; done), by repeat (first | exact Drawn0.refl _ | apply Drawn0.step)⟩

def remoraref06_head.f (a0_0 : Int) (a0_1 : Int) (a0_2 : Int) (l0_3 : List (S55)) : Option (Int) := if a0_2 < 1 then (some 2) else (if a0_2 > 32 then (some 2) else ((remoraref05_Right.f a0_0 a0_1).bind fun t159 => (if t159 = true then (some 0) else (some 2))))
set_option maxHeartbeats 8000000 in
set_option maxRecDepth 100000 in
theorem remoraref06_head.calls (a0_0 : Int) (a0_1 : Int) (a0_2 : Int) (A0_3 : Option Addr) (c0_3 : Nat) (l0_3 : List (S55)) (r : Int) (w : World) (hr0_3 : Kd.C k55 w A0_3 l0_3.length l0_3) (hc0_3 : l0_3.length ≤ c0_3) (h : remoraref06_head.f a0_0 a0_1 a0_2 l0_3 = some r) :
    Calls Try.prog 23 #[.agg #[.int .i64 a0_0, .int .i64 a0_1, .int .i64 a0_2, .slice A0_3 l0_3.length c0_3]] w fun e w' => e = .returned (.int .i64 r) ∧ Below w.heap.size w w' := by
 have hu24 := Try.underlying24
 have HR0_3 := zA hr0_3
 have HC0_3 := zA hc0_3
 clear hr0_3 hc0_3
 have HB := zA (Below.refl w.heap.size w)
 have H : (if a0_2 < 1 then (some 2) else (if a0_2 > 32 then (some 2) else ((remoraref05_Right.f a0_0 a0_1).bind fun t159 => (if t159 = true then (some 0) else (some 2))))) = some r := h
 clear h
 by_cases c2 : a0_2 < 1
 ·rw [if_pos c2] at H
  have c2b0 : decide (a0_2 < 1) = true := zd1 c2
  clear c2
  obtain rfl := Option.some.inj H
  go_enter Try.func23, Try.ntmps23
  go_wp2_with (first | ((with_reducible refine gate_dst (N := 1) rfl ?_); refine box_event ?hg (N := 1) ?hd (cs := #[.int .i64 a0_0, .int .i64 a0_1, .int .i64 a0_2, .slice A0_3 l0_3.length c0_3]) (t := 24) ?hr ?_; (case hd => rfl); (case hg => rfl); (case hr => first | (go_simp; done) | (go_simp; rfl)); intro gb158 hg w3 hbox hb; have n0_ := zA (zb5 (by repeat (first | (with_reducible first | exact HB.out | apply zb3 | apply zb1 | apply zb2) | exact HB.out)) hb); have n1_ := zA (hbox); have n2_ := zA ((by rw [hg]; exact (zb6 (by repeat (first | (with_reducible first | exact HB.out | apply zb3 | apply zb1 | apply zb2) | exact HB.out))) : w.heap.size ≤ gb158)); have n3_ := zA ((by rw [hg]; exact (zb6 (by repeat (first | (with_reducible first | exact HB.out | apply zb3 | apply zb1 | apply zb2) | exact HB.out))) : w.heap.size ≤ gb158)); clear HB; have HB := n0_; have BK158 := n1_; have GW158 := n2_; have GE158 := n3_; clear n0_ n1_ n2_ n3_; clear hb hbox hg; have hcz4_0 : w3.cell? ⟨gb158, 0, none⟩ = some (.int .i64 a0_0) := (zc1 BK158.out 0).trans rfl; have hcz4_1 : w3.cell? ⟨gb158, 1, none⟩ = some (.int .i64 a0_1) := (zc1 BK158.out 1).trans rfl; have hcz4_2 : w3.cell? ⟨gb158, 2, none⟩ = some (.int .i64 a0_2) := (zc1 BK158.out 2).trans rfl; have hcz4_3 : w3.cell? ⟨gb158, 3, none⟩ = some (.slice A0_3 l0_3.length c0_3) := (zc1 BK158.out 3).trans rfl; have hfz4_0 := zc5 BK158.out 0; have hfz4_1 := zc5 BK158.out 1; have hfz4_2 := zc5 BK158.out 2; have hfz4_3 := zc5 BK158.out 3))
  go_ret
  exact ⟨by first | rfl | (simp [*] <;> rfl), by repeat (first | (with_reducible first | exact HB.out | apply zb3 | apply zb1 | apply zb2 | refine zb4 ?_ GE158.out) | exact HB.out)⟩
 ·rw [if_neg c2] at H
  have c2b0 : decide (a0_2 < 1) = false := zd2 c2
  clear c2
  by_cases c5 : a0_2 > 32
  ·rw [if_pos c5] at H
   have c5b0 : decide (32 < a0_2) = true := zd1 c5
   clear c5
   obtain rfl := Option.some.inj H
   go_enter Try.func23, Try.ntmps23
   go_wp2_with (first | ((with_reducible refine gate_dst (N := 1) rfl ?_); refine box_event ?hg (N := 1) ?hd (cs := #[.int .i64 a0_0, .int .i64 a0_1, .int .i64 a0_2, .slice A0_3 l0_3.length c0_3]) (t := 24) ?hr ?_; (case hd => rfl); (case hg => rfl); (case hr => first | (go_simp; done) | (go_simp; rfl)); intro gb158 hg w6 hbox hb; have n0_ := zA (zb5 (by repeat (first | (with_reducible first | exact HB.out | apply zb3 | apply zb1 | apply zb2) | exact HB.out)) hb); have n1_ := zA (hbox); have n2_ := zA ((by rw [hg]; exact (zb6 (by repeat (first | (with_reducible first | exact HB.out | apply zb3 | apply zb1 | apply zb2) | exact HB.out))) : w.heap.size ≤ gb158)); have n3_ := zA ((by rw [hg]; exact (zb6 (by repeat (first | (with_reducible first | exact HB.out | apply zb3 | apply zb1 | apply zb2) | exact HB.out))) : w.heap.size ≤ gb158)); clear HB; have HB := n0_; have BK158 := n1_; have GW158 := n2_; have GE158 := n3_; clear n0_ n1_ n2_ n3_; clear hb hbox hg; have hcz7_0 : w6.cell? ⟨gb158, 0, none⟩ = some (.int .i64 a0_0) := (zc1 BK158.out 0).trans rfl; have hcz7_1 : w6.cell? ⟨gb158, 1, none⟩ = some (.int .i64 a0_1) := (zc1 BK158.out 1).trans rfl; have hcz7_2 : w6.cell? ⟨gb158, 2, none⟩ = some (.int .i64 a0_2) := (zc1 BK158.out 2).trans rfl; have hcz7_3 : w6.cell? ⟨gb158, 3, none⟩ = some (.slice A0_3 l0_3.length c0_3) := (zc1 BK158.out 3).trans rfl; have hfz7_0 := zc5 BK158.out 0; have hfz7_1 := zc5 BK158.out 1; have hfz7_2 := zc5 BK158.out 2; have hfz7_3 := zc5 BK158.out 3))
   go_ret
   exact ⟨by first | rfl | (simp [*] <;> rfl), by repeat (first | (with_reducible first | exact HB.out | apply zb3 | apply zb1 | apply zb2 | refine zb4 ?_ GE158.out) | exact HB.out)⟩
  ·rw [if_neg c5] at H
   have c5b0 : decide (32 < a0_2) = false := zd2 c5
   clear c5
   replace H := Option.bind_eq_some_iff.mp H
   obtain ⟨t159, A80, H⟩ := H
   replace H : (if t159 = true then (some 0) else (some 2)) = some r := H
   have A8 := zA A80
   clear A80
   by_cases c9 : t159 = true
   ·subst c9
    have H1 : (some 0) = some r := by rw [if_pos rfl] at H; exact H
    clear H
    have H := H1
    clear H1
    obtain rfl := Option.some.inj H
    go_enter Try.func23, Try.ntmps23
    go_wp2_with (first | ((with_reducible refine gate_dst (N := 1) rfl ?_); refine box_event ?hg (N := 1) ?hd (cs := #[.int .i64 a0_0, .int .i64 a0_1, .int .i64 a0_2, .slice A0_3 l0_3.length c0_3]) (t := 24) ?hr ?_; (case hd => rfl); (case hg => rfl); (case hr => first | (go_simp; done) | (go_simp; rfl)); intro gb158 hg w10 hbox hb; have n0_ := zA (zb5 (by repeat (first | (with_reducible first | exact HB.out | apply zb3 | apply zb1 | apply zb2) | exact HB.out)) hb); have n1_ := zA (hbox); have n2_ := zA ((by rw [hg]; exact (zb6 (by repeat (first | (with_reducible first | exact HB.out | apply zb3 | apply zb1 | apply zb2) | exact HB.out))) : w.heap.size ≤ gb158)); have n3_ := zA ((by rw [hg]; exact (zb6 (by repeat (first | (with_reducible first | exact HB.out | apply zb3 | apply zb1 | apply zb2) | exact HB.out))) : w.heap.size ≤ gb158)); clear HB; have HB := n0_; have BK158 := n1_; have GW158 := n2_; have GE158 := n3_; clear n0_ n1_ n2_ n3_; clear hb hbox hg; have hcz11_0 : w10.cell? ⟨gb158, 0, none⟩ = some (.int .i64 a0_0) := (zc1 BK158.out 0).trans rfl; have hcz11_1 : w10.cell? ⟨gb158, 1, none⟩ = some (.int .i64 a0_1) := (zc1 BK158.out 1).trans rfl; have hcz11_2 : w10.cell? ⟨gb158, 2, none⟩ = some (.int .i64 a0_2) := (zc1 BK158.out 2).trans rfl; have hcz11_3 : w10.cell? ⟨gb158, 3, none⟩ = some (.slice A0_3 l0_3.length c0_3) := (zc1 BK158.out 3).trans rfl; have hfz11_0 := zc5 BK158.out 0; have hfz11_1 := zc5 BK158.out 1; have hfz11_2 := zc5 BK158.out 2; have hfz11_3 := zc5 BK158.out 3) | (go_at_call 43; (with_reducible refine (remoraref05_Right.calls a0_0 a0_1 true _ A8.out).mono ?_); rintro e w' ⟨rfl, ⟨nd, rfl⟩⟩))
    go_ret
    exact ⟨by first | rfl | (simp [*] <;> rfl), by repeat (first | (with_reducible first | exact HB.out | apply zb3 | apply zb1 | apply zb2 | refine zb4 ?_ GE158.out) | exact HB.out)⟩
   ·replace c9 := Bool.eq_false_iff.mpr c9
    subst c9
    have H1 : (some 2) = some r := by rw [if_neg (show ¬ (false = true) by decide)] at H; exact H
    clear H
    have H := H1
    clear H1
    obtain rfl := Option.some.inj H
    go_enter Try.func23, Try.ntmps23
    go_wp2_with (first | ((with_reducible refine gate_dst (N := 1) rfl ?_); refine box_event ?hg (N := 1) ?hd (cs := #[.int .i64 a0_0, .int .i64 a0_1, .int .i64 a0_2, .slice A0_3 l0_3.length c0_3]) (t := 24) ?hr ?_; (case hd => rfl); (case hg => rfl); (case hr => first | (go_simp; done) | (go_simp; rfl)); intro gb158 hg w12 hbox hb; have n0_ := zA (zb5 (by repeat (first | (with_reducible first | exact HB.out | apply zb3 | apply zb1 | apply zb2) | exact HB.out)) hb); have n1_ := zA (hbox); have n2_ := zA ((by rw [hg]; exact (zb6 (by repeat (first | (with_reducible first | exact HB.out | apply zb3 | apply zb1 | apply zb2) | exact HB.out))) : w.heap.size ≤ gb158)); have n3_ := zA ((by rw [hg]; exact (zb6 (by repeat (first | (with_reducible first | exact HB.out | apply zb3 | apply zb1 | apply zb2) | exact HB.out))) : w.heap.size ≤ gb158)); clear HB; have HB := n0_; have BK158 := n1_; have GW158 := n2_; have GE158 := n3_; clear n0_ n1_ n2_ n3_; clear hb hbox hg; have hcz13_0 : w12.cell? ⟨gb158, 0, none⟩ = some (.int .i64 a0_0) := (zc1 BK158.out 0).trans rfl; have hcz13_1 : w12.cell? ⟨gb158, 1, none⟩ = some (.int .i64 a0_1) := (zc1 BK158.out 1).trans rfl; have hcz13_2 : w12.cell? ⟨gb158, 2, none⟩ = some (.int .i64 a0_2) := (zc1 BK158.out 2).trans rfl; have hcz13_3 : w12.cell? ⟨gb158, 3, none⟩ = some (.slice A0_3 l0_3.length c0_3) := (zc1 BK158.out 3).trans rfl; have hfz13_0 := zc5 BK158.out 0; have hfz13_1 := zc5 BK158.out 1; have hfz13_2 := zc5 BK158.out 2; have hfz13_3 := zc5 BK158.out 3) | (go_at_call 43; (with_reducible refine (remoraref05_Right.calls a0_0 a0_1 false _ A8.out).mono ?_); rintro e w' ⟨rfl, ⟨nd, rfl⟩⟩))
    go_ret
    exact ⟨by first | rfl | (simp [*] <;> rfl), by repeat (first | (with_reducible first | exact HB.out | apply zb3 | apply zb1 | apply zb2 | refine zb4 ?_ GE158.out) | exact HB.out)⟩

def remoraref05_Count.l0 : Nat → Int → Int → Int → Int → Option (Int)
 | 0, _, _, _, _ => none
 | k + 1, x0, x1, x5, x6 => if x6 < x0 then (remoraref05_Count.l0 k x0 x1 (wrap64 (x5 + 1)) (wrap64 (x6 + x1))) else (some x5)
def remoraref05_Count.f (k : Nat) (a0 : Int) (a1 : Int) : Option (Int) := (remoraref05_Right.f a0 a1).bind fun t160 => (if t160 = true then (remoraref05_Count.l0 k a0 a1 0 0) else (some 0))
theorem remoraref05_Count.mono_l : ∀ k, (∀ y0 y1 y2 y3, LeO (remoraref05_Count.l0 k y0 y1 y2 y3) (remoraref05_Count.l0 (k + 1) y0 y1 y2 y3))
 | 0 => fun _ _ _ _ r h => by simp [remoraref05_Count.l0] at h
 | k + 1 => by
  have ih0 := remoraref05_Count.mono_l k
  ·intro y0 y1 y2 y3
   unfold remoraref05_Count.l0
   repeat' first
   | (with_reducible exact ih0 _ _ _ _)
   | (with_reducible exact LeO.refl _)
   | (with_reducible exact LeO.none _)
   | (with_reducible refine LeO.ite ?_ ?_)
   | (with_reducible refine LeO.bind ?_ (fun _ => ?_))
   | exact ih0 _ _ _ _
   | exact LeO.none _
   | refine LeO.ite ?_ ?_
   | refine LeO.bind ?_ (fun _ => ?_)
theorem remoraref05_Count.mono : ∀ a0 a1 k, LeO (remoraref05_Count.f k a0 a1) (remoraref05_Count.f (k + 1) a0 a1) := by
 intro a0 a1 k
 have ih0 := remoraref05_Count.mono_l k
 unfold remoraref05_Count.f
 repeat' first
     | (with_reducible exact ih0 _ _ _ _)
     | (with_reducible exact LeO.refl _)
     | (with_reducible exact LeO.none _)
     | (with_reducible refine LeO.ite ?_ ?_)
     | (with_reducible refine LeO.bind ?_ (fun _ => ?_))
     | exact ih0 _ _ _ _
     | exact LeO.none _
     | refine LeO.ite ?_ ?_
     | refine LeO.bind ?_ (fun _ => ?_)
set_option maxHeartbeats 8000000 in
set_option maxRecDepth 100000 in
theorem remoraref05_Count.calls (k : Nat) (a0 : Int) (a1 : Int) (r : Int) (w : World) (h : remoraref05_Count.f k a0 a1 = some r) :
    Calls Try.prog 24 #[.int .i64 a0, .int .i64 a1] w fun e w' => e = .returned (.int .i64 r) ∧ Drawn0 w w' := by
 have H : ((remoraref05_Right.f a0 a1).bind fun t160 => (if t160 = true then (remoraref05_Count.l0 k a0 a1 0 0) else (some 0))) = some r := h
 clear h
 replace H := Option.bind_eq_some_iff.mp H
 obtain ⟨t160, A30, H⟩ := H
 replace H : (if t160 = true then (remoraref05_Count.l0 k a0 a1 0 0) else (some 0)) = some r := H
 have A3 := zA A30
 clear A30
 by_cases c4 : t160 = true
 ·subst c4
  have H1 : (remoraref05_Count.l0 k a0 a1 0 0) = some r := by rw [if_pos rfl] at H; exact H
  clear H
  have H := H1
  clear H1
  have H' := zA H
  clear H
  go_enter Try.func24, Try.ntmps24
  go_wp2_with (first | ((with_reducible refine gate_callee (f := 43) rfl ?_); refine goesL_ (some 9) rfl rfl Try.func43 (by kernel_rfl) rfl #[.int .i64 a0, .int .i64 a1] rfl (by (try simp only [zm1, zm2, zm3]); first | done | rfl | (simp only [List.length_drop, List.length_take]; rfl)) ?_; (with_reducible refine (remoraref05_Right.calls a0 a1 true _ A3.out).mono ?_); rintro e w' ⟨rfl, ⟨nd, rfl⟩⟩; refine ⟨_, rfl, ?_⟩))
  go_loopg [5, 6] k (fun kq v5 v6 w' => ∃ (x5_1 : Int) (x6_1 : Int), v5 = .int .i64 x5_1 ∧ v6 = .int .i64 x6_1 ∧ Aside0 (remoraref05_Count.l0 kq a0 a1 x5_1 x6_1 = some r) ∧ Aside0 (kq ≤ k) ∧ Drawn0 w w')
  case atStart => exact ⟨(0), (0), (by first | rfl | (simp; done) | (simp [*]; done)), (by first | rfl | (simp; done) | (simp [*]; done)), H', ⟨Nat.le_refl _⟩, by repeat (first | exact Drawn0.refl _ | apply Drawn0.step)⟩
  case round =>
   clear H'
   try clear c2
   try clear p2
   try clear c4
   obtain ⟨x5_1, x6_1, rfl, rfl, HA, HK1, ⟨m1, rfl⟩⟩ := hrel
   cases gk with
   | zero => exact absurd HA.out (by simp [remoraref05_Count.l0])
   | succ k1 =>
    have H := HA.out
    clear HA
    simp only [remoraref05_Count.l0] at H
    by_cases c5 : x6_1 < a0
    ·rw [if_pos c5] at H
     have c5b0 : decide (x6_1 < a0) = true := zd1 c5
     clear c5
     have H' := zA H
     clear H
     go_wp2
     go_roundg k1
     case measure => have := HK1.out; omega
     case rel => exact ⟨(wrap64 (x5_1 + 1)), (wrap64 (x6_1 + a1)), (by first | rfl | (simp; done) | (simp [*]; done)), (by first | rfl | (simp; done) | (simp [*]; done)), H', ⟨by have := HK1.out; omega⟩, by repeat (first | exact Drawn0.refl _ | apply Drawn0.step)⟩
    ·rw [if_neg c5] at H
     have c5b0 : decide (x6_1 < a0) = false := zd2 c5
     clear c5
     obtain rfl := Option.some.inj H
     go_wp2
     go_ret
     exact ⟨by first | rfl | (simp; done) | (simp [*]; done), by repeat (first | exact Drawn0.refl _ | apply Drawn0.step)⟩
 ·replace c4 := Bool.eq_false_iff.mpr c4
  subst c4
  have H1 : (some 0) = some r := by rw [if_neg (show ¬ (false = true) by decide)] at H; exact H
  clear H
  have H := H1
  clear H1
  obtain rfl := Option.some.inj H
  go_enter Try.func24, Try.ntmps24
  go_wp2_with (first | ((with_reducible refine gate_callee (f := 43) rfl ?_); refine goesL_ (some 9) rfl rfl Try.func43 (by kernel_rfl) rfl #[.int .i64 a0, .int .i64 a1] rfl (by (try simp only [zm1, zm2, zm3]); first | done | rfl | (simp only [List.length_drop, List.length_take]; rfl)) ?_; (with_reducible refine (remoraref05_Right.calls a0 a1 false _ A3.out).mono ?_); rintro e w' ⟨rfl, ⟨nd, rfl⟩⟩; refine ⟨_, rfl, ?_⟩))
  go_ret
  exact ⟨by first | rfl | (simp; done) | (simp [*]; done), by repeat (first | exact Drawn0.refl _ | apply Drawn0.step)⟩

def remoraref06_Check.l0 : Nat → List (S55) → Int → Int → Int → Int → Int → List (S55) → Option (Int)
 | 0, _, _, _, _, _, _, _ => none
 | k + 1, x21, x22, x23, x162000, x162001, x162002, x162003 => if x23 < x22 then (if 0 ≤ x23 then (if x23 < (x21.length : Int) then (if (((rd_T55 x21 x23).f1).size : Int) = x162002 then (remoraref06_Check.l0 k x21 x22 (wrap64 (x23 + 1)) x162000 x162001 x162002 x162003) else (some 5)) else (none)) else (none)) else (some 0)
def remoraref06_Check.f (k : Nat) (a0_0 : Int) (a0_1 : Int) (a0_2 : Int) (l0_3 : List (S55)) : Option (Int) := (remoraref06_head.f a0_0 a0_1 a0_2 l0_3).bind fun t162 => (if t162 = 0 then ((remoraref05_Count.f k a0_0 a0_1).bind fun t163 => (if (l0_3.length : Int) = t163 then (remoraref06_Check.l0 k l0_3 (l0_3.length : Int) 0 a0_0 a0_1 a0_2 l0_3) else (some 5))) else (some t162))
theorem remoraref06_Check.mono_l : ∀ k, (∀ y0 y1 y2 y3 y4 y5 y6, LeO (remoraref06_Check.l0 k y0 y1 y2 y3 y4 y5 y6) (remoraref06_Check.l0 (k + 1) y0 y1 y2 y3 y4 y5 y6))
 | 0 => fun _ _ _ _ _ _ _ r h => by simp [remoraref06_Check.l0] at h
 | k + 1 => by
  have ih0 := remoraref06_Check.mono_l k
  ·intro y0 y1 y2 y3 y4 y5 y6
   unfold remoraref06_Check.l0
   repeat' first
   | (with_reducible exact ih0 _ _ _ _ _ _ _)
   | (with_reducible exact remoraref05_Count.mono _ _ _)
   | (with_reducible exact LeO.refl _)
   | (with_reducible exact LeO.none _)
   | (with_reducible refine LeO.ite ?_ ?_)
   | (with_reducible refine LeO.bind ?_ (fun _ => ?_))
   | exact ih0 _ _ _ _ _ _ _
   | exact remoraref05_Count.mono _ _ _
   | exact LeO.none _
   | refine LeO.ite ?_ ?_
   | refine LeO.bind ?_ (fun _ => ?_)
theorem remoraref06_Check.mono : ∀ a0 a1 a2 a3 k, LeO (remoraref06_Check.f k a0 a1 a2 a3) (remoraref06_Check.f (k + 1) a0 a1 a2 a3) := by
 intro a0 a1 a2 a3 k
 have ih0 := remoraref06_Check.mono_l k
 unfold remoraref06_Check.f
 repeat' first
     | (with_reducible exact ih0 _ _ _ _ _ _ _)
     | (with_reducible exact remoraref05_Count.mono _ _ _)
     | (with_reducible exact LeO.refl _)
     | (with_reducible exact LeO.none _)
     | (with_reducible refine LeO.ite ?_ ?_)
     | (with_reducible refine LeO.bind ?_ (fun _ => ?_))
     | exact ih0 _ _ _ _ _ _ _
     | exact remoraref05_Count.mono _ _ _
     | exact LeO.none _
     | refine LeO.ite ?_ ?_
     | refine LeO.bind ?_ (fun _ => ?_)
set_option maxHeartbeats 8000000 in
set_option maxRecDepth 100000 in
theorem remoraref06_Check.calls (k : Nat) (a0_0 : Int) (a0_1 : Int) (a0_2 : Int) (A0_3 : Option Addr) (c0_3 : Nat) (l0_3 : List (S55)) (r : Int) (w : World) (hr0_3 : Kd.C k55 w A0_3 l0_3.length l0_3) (hc0_3 : l0_3.length ≤ c0_3) (h : remoraref06_Check.f k a0_0 a0_1 a0_2 l0_3 = some r) :
    Calls Try.prog 10 #[.agg #[.int .i64 a0_0, .int .i64 a0_1, .int .i64 a0_2, .slice A0_3 l0_3.length c0_3]] w fun e w' => e = .returned (.int .i64 r) ∧ Below w.heap.size w w' := by
 have hu24 := Try.underlying24
 have hu55 := Try.underlying55
 have HR0_3 := zA hr0_3
 have HC0_3 := zA hc0_3
 clear hr0_3 hc0_3
 have HB := zA (Below.refl w.heap.size w)
 have H : ((remoraref06_head.f a0_0 a0_1 a0_2 l0_3).bind fun t162 => (if t162 = 0 then ((remoraref05_Count.f k a0_0 a0_1).bind fun t163 => (if (l0_3.length : Int) = t163 then (remoraref06_Check.l0 k l0_3 (l0_3.length : Int) 0 a0_0 a0_1 a0_2 l0_3) else (some 5))) else (some t162))) = some r := h
 clear h
 replace H := Option.bind_eq_some_iff.mp H
 obtain ⟨t162, A20, H⟩ := H
 replace H : (if t162 = 0 then ((remoraref05_Count.f k a0_0 a0_1).bind fun t163 => (if (l0_3.length : Int) = t163 then (remoraref06_Check.l0 k l0_3 (l0_3.length : Int) 0 a0_0 a0_1 a0_2 l0_3) else (some 5))) else (some t162)) = some r := H
 have A2 := zA A20
 clear A20
 by_cases c3 : t162 = 0
 ·rw [if_pos c3] at H
  have c3b0 : (t162 == 0) = true := beq_iff_eq.mpr c3
  have c3b1 : (t162 != 0) = false := bne_eq_false_iff_eq.mpr c3
  clear c3
  replace H := Option.bind_eq_some_iff.mp H
  obtain ⟨t163, A40, H⟩ := H
  replace H : (if (l0_3.length : Int) = t163 then (remoraref06_Check.l0 k l0_3 (l0_3.length : Int) 0 a0_0 a0_1 a0_2 l0_3) else (some 5)) = some r := H
  have A4 := zA A40
  clear A40
  by_cases c5 : (l0_3.length : Int) = t163
  ·rw [if_pos c5] at H
   have c5b0 : ((l0_3.length : Int) == t163) = true := beq_iff_eq.mpr c5
   have c5b1 : ((l0_3.length : Int) != t163) = false := bne_eq_false_iff_eq.mpr c5
   clear c5
   have H' := zA H
   clear H
   go_enter Try.func10, Try.ntmps10
   go_wp2_with (first | ((with_reducible refine gate_dst (N := 1) rfl ?_); refine box_event ?hg (N := 1) ?hd (cs := #[.int .i64 a0_0, .int .i64 a0_1, .int .i64 a0_2, .slice A0_3 l0_3.length c0_3]) (t := 24) ?hr ?_; (case hd => rfl); (case hg => rfl); (case hr => first | (go_simp; done) | (go_simp; rfl)); intro gb161 hg w6 hbox hb; have n0_ := zA (zb5 (by repeat (first | (with_reducible first | exact HB.out | apply zb3 | apply zb1 | apply zb2) | exact HB.out)) hb); have n1_ := zA (hbox); have n2_ := zA ((by rw [hg]; exact (zb6 (by repeat (first | (with_reducible first | exact HB.out | apply zb3 | apply zb1 | apply zb2) | exact HB.out))) : w.heap.size ≤ gb161)); have n3_ := zA ((by rw [hg]; exact (zb6 (by repeat (first | (with_reducible first | exact HB.out | apply zb3 | apply zb1 | apply zb2) | exact HB.out))) : w.heap.size ≤ gb161)); clear HB; have HB := n0_; have BK161 := n1_; have GW161 := n2_; have GE161 := n3_; clear n0_ n1_ n2_ n3_; clear hb hbox hg; have hcz7_0 : w6.cell? ⟨gb161, 0, none⟩ = some (.int .i64 a0_0) := (zc1 BK161.out 0).trans rfl; have hcz7_1 : w6.cell? ⟨gb161, 1, none⟩ = some (.int .i64 a0_1) := (zc1 BK161.out 1).trans rfl; have hcz7_2 : w6.cell? ⟨gb161, 2, none⟩ = some (.int .i64 a0_2) := (zc1 BK161.out 2).trans rfl; have hcz7_3 : w6.cell? ⟨gb161, 3, none⟩ = some (.slice A0_3 l0_3.length c0_3) := (zc1 BK161.out 3).trans rfl; have hfz7_0 := zc5 BK161.out 0; have hfz7_1 := zc5 BK161.out 1; have hfz7_2 := zc5 BK161.out 2; have hfz7_3 := zc5 BK161.out 3) | (go_at_call 23; (with_reducible refine (remoraref06_head.calls a0_0 a0_1 a0_2 _ _ l0_3 t162 _ ?side1 ?side2 A2.out).mono ?_); (case side1 => repeat (first | exact (Kd.C_below HR0_3.out HB.out) | (with_reducible refine Kd.C_alloc ?_ _) | (with_reducible refine Kd.C_drewN ?_ _) | (with_reducible refine Kd.C_drew ?_))); (case side2 => exact HC0_3.out); rintro e w8 ⟨rfl, hb⟩; have n0_ := zA (zc6 (g := gb161) (o := .cells #[.int .i64 a0_0, .int .i64 a0_1, .int .i64 a0_2, .slice A0_3 l0_3.length c0_3] 24 (0, 0)) (by (with_reducible repeat (first | refine zc3 ?_ _ | refine zc4 ?_ | refine zc2 ?_ _)); exact BK161.out) hb); have n1_ := zA (zb5 (by repeat (first | (with_reducible first | exact HB.out | apply zb3 | apply zb1 | apply zb2 | refine zb4 ?_ GE161.out) | exact HB.out)) hb); clear BK161; clear HB; have BK161 := n0_; have HB := n1_; clear n0_ n1_; (try clear hb); (try clear hb2); (try clear hk); (try clear hi); have hcz9_0 : w8.cell? ⟨gb161, 0, none⟩ = some (.int .i64 a0_0) := (zc1 BK161.out 0).trans rfl; have hcz9_1 : w8.cell? ⟨gb161, 1, none⟩ = some (.int .i64 a0_1) := (zc1 BK161.out 1).trans rfl; have hcz9_2 : w8.cell? ⟨gb161, 2, none⟩ = some (.int .i64 a0_2) := (zc1 BK161.out 2).trans rfl; have hcz9_3 : w8.cell? ⟨gb161, 3, none⟩ = some (.slice A0_3 l0_3.length c0_3) := (zc1 BK161.out 3).trans rfl; have hfz9_0 := zc5 BK161.out 0; have hfz9_1 := zc5 BK161.out 1; have hfz9_2 := zc5 BK161.out 2; have hfz9_3 := zc5 BK161.out 3) | (go_at_call 24; (with_reducible refine (remoraref05_Count.calls k a0_0 a0_1 t163 _ A4.out).mono ?_); rintro e w' ⟨rfl, ⟨nd, rfl⟩⟩; (try first | exact ⟨rfl, _, World.drewN_drewN _ _ _⟩ | exact ⟨rfl, _, Eq.trans (World.drewN_drewN _ _ _) (congrArg (World.drewN _) (Nat.add_assoc _ _ _))⟩)))
   repeat (go_quiet (first | ((with_reducible refine gate_dst (N := 1) rfl ?_); refine box_event ?hg (N := 1) ?hd (cs := #[.int .i64 a0_0, .int .i64 a0_1, .int .i64 a0_2, .slice A0_3 l0_3.length c0_3]) (t := 24) ?hr ?_; (case hd => rfl); (case hg => rfl); (case hr => first | (go_simp; done) | (go_simp; rfl)); intro gb161 hg w6 hbox hb; have n0_ := zA (zb5 (by repeat (first | (with_reducible first | exact HB.out | apply zb3 | apply zb1 | apply zb2) | exact HB.out)) hb); have n1_ := zA (hbox); have n2_ := zA ((by rw [hg]; exact (zb6 (by repeat (first | (with_reducible first | exact HB.out | apply zb3 | apply zb1 | apply zb2) | exact HB.out))) : w.heap.size ≤ gb161)); have n3_ := zA ((by rw [hg]; exact (zb6 (by repeat (first | (with_reducible first | exact HB.out | apply zb3 | apply zb1 | apply zb2) | exact HB.out))) : w.heap.size ≤ gb161)); clear HB; have HB := n0_; have BK161 := n1_; have GW161 := n2_; have GE161 := n3_; clear n0_ n1_ n2_ n3_; clear hb hbox hg; have hcz7_0 : w6.cell? ⟨gb161, 0, none⟩ = some (.int .i64 a0_0) := (zc1 BK161.out 0).trans rfl; have hcz7_1 : w6.cell? ⟨gb161, 1, none⟩ = some (.int .i64 a0_1) := (zc1 BK161.out 1).trans rfl; have hcz7_2 : w6.cell? ⟨gb161, 2, none⟩ = some (.int .i64 a0_2) := (zc1 BK161.out 2).trans rfl; have hcz7_3 : w6.cell? ⟨gb161, 3, none⟩ = some (.slice A0_3 l0_3.length c0_3) := (zc1 BK161.out 3).trans rfl; have hfz7_0 := zc5 BK161.out 0; have hfz7_1 := zc5 BK161.out 1; have hfz7_2 := zc5 BK161.out 2; have hfz7_3 := zc5 BK161.out 3) | (go_at_call 23; (with_reducible refine (remoraref06_head.calls a0_0 a0_1 a0_2 _ _ l0_3 t162 _ ?side1 ?side2 A2.out).mono ?_); (case side1 => repeat (first | exact (Kd.C_below HR0_3.out HB.out) | (with_reducible refine Kd.C_alloc ?_ _) | (with_reducible refine Kd.C_drewN ?_ _) | (with_reducible refine Kd.C_drew ?_))); (case side2 => exact HC0_3.out); rintro e w8 ⟨rfl, hb⟩; have n0_ := zA (zc6 (g := gb161) (o := .cells #[.int .i64 a0_0, .int .i64 a0_1, .int .i64 a0_2, .slice A0_3 l0_3.length c0_3] 24 (0, 0)) (by (with_reducible repeat (first | refine zc3 ?_ _ | refine zc4 ?_ | refine zc2 ?_ _)); exact BK161.out) hb); have n1_ := zA (zb5 (by repeat (first | (with_reducible first | exact HB.out | apply zb3 | apply zb1 | apply zb2 | refine zb4 ?_ GE161.out) | exact HB.out)) hb); clear BK161; clear HB; have BK161 := n0_; have HB := n1_; clear n0_ n1_; (try clear hb); (try clear hb2); (try clear hk); (try clear hi); have hcz9_0 : w8.cell? ⟨gb161, 0, none⟩ = some (.int .i64 a0_0) := (zc1 BK161.out 0).trans rfl; have hcz9_1 : w8.cell? ⟨gb161, 1, none⟩ = some (.int .i64 a0_1) := (zc1 BK161.out 1).trans rfl; have hcz9_2 : w8.cell? ⟨gb161, 2, none⟩ = some (.int .i64 a0_2) := (zc1 BK161.out 2).trans rfl; have hcz9_3 : w8.cell? ⟨gb161, 3, none⟩ = some (.slice A0_3 l0_3.length c0_3) := (zc1 BK161.out 3).trans rfl; have hfz9_0 := zc5 BK161.out 0; have hfz9_1 := zc5 BK161.out 1; have hfz9_2 := zc5 BK161.out 2; have hfz9_3 := zc5 BK161.out 3) | (go_at_call 24; (with_reducible refine (remoraref05_Count.calls k a0_0 a0_1 t163 _ A4.out).mono ?_); rintro e w' ⟨rfl, ⟨nd, rfl⟩⟩; (try first | exact ⟨rfl, _, World.drewN_drewN _ _ _⟩ | exact ⟨rfl, _, Eq.trans (World.drewN_drewN _ _ _) (congrArg (World.drewN _) (Nat.add_assoc _ _ _))⟩))); try go_wp2_with (first | ((with_reducible refine gate_dst (N := 1) rfl ?_); refine box_event ?hg (N := 1) ?hd (cs := #[.int .i64 a0_0, .int .i64 a0_1, .int .i64 a0_2, .slice A0_3 l0_3.length c0_3]) (t := 24) ?hr ?_; (case hd => rfl); (case hg => rfl); (case hr => first | (go_simp; done) | (go_simp; rfl)); intro gb161 hg w6 hbox hb; have n0_ := zA (zb5 (by repeat (first | (with_reducible first | exact HB.out | apply zb3 | apply zb1 | apply zb2) | exact HB.out)) hb); have n1_ := zA (hbox); have n2_ := zA ((by rw [hg]; exact (zb6 (by repeat (first | (with_reducible first | exact HB.out | apply zb3 | apply zb1 | apply zb2) | exact HB.out))) : w.heap.size ≤ gb161)); have n3_ := zA ((by rw [hg]; exact (zb6 (by repeat (first | (with_reducible first | exact HB.out | apply zb3 | apply zb1 | apply zb2) | exact HB.out))) : w.heap.size ≤ gb161)); clear HB; have HB := n0_; have BK161 := n1_; have GW161 := n2_; have GE161 := n3_; clear n0_ n1_ n2_ n3_; clear hb hbox hg; have hcz7_0 : w6.cell? ⟨gb161, 0, none⟩ = some (.int .i64 a0_0) := (zc1 BK161.out 0).trans rfl; have hcz7_1 : w6.cell? ⟨gb161, 1, none⟩ = some (.int .i64 a0_1) := (zc1 BK161.out 1).trans rfl; have hcz7_2 : w6.cell? ⟨gb161, 2, none⟩ = some (.int .i64 a0_2) := (zc1 BK161.out 2).trans rfl; have hcz7_3 : w6.cell? ⟨gb161, 3, none⟩ = some (.slice A0_3 l0_3.length c0_3) := (zc1 BK161.out 3).trans rfl; have hfz7_0 := zc5 BK161.out 0; have hfz7_1 := zc5 BK161.out 1; have hfz7_2 := zc5 BK161.out 2; have hfz7_3 := zc5 BK161.out 3) | (go_at_call 23; (with_reducible refine (remoraref06_head.calls a0_0 a0_1 a0_2 _ _ l0_3 t162 _ ?side1 ?side2 A2.out).mono ?_); (case side1 => repeat (first | exact (Kd.C_below HR0_3.out HB.out) | (with_reducible refine Kd.C_alloc ?_ _) | (with_reducible refine Kd.C_drewN ?_ _) | (with_reducible refine Kd.C_drew ?_))); (case side2 => exact HC0_3.out); rintro e w8 ⟨rfl, hb⟩; have n0_ := zA (zc6 (g := gb161) (o := .cells #[.int .i64 a0_0, .int .i64 a0_1, .int .i64 a0_2, .slice A0_3 l0_3.length c0_3] 24 (0, 0)) (by (with_reducible repeat (first | refine zc3 ?_ _ | refine zc4 ?_ | refine zc2 ?_ _)); exact BK161.out) hb); have n1_ := zA (zb5 (by repeat (first | (with_reducible first | exact HB.out | apply zb3 | apply zb1 | apply zb2 | refine zb4 ?_ GE161.out) | exact HB.out)) hb); clear BK161; clear HB; have BK161 := n0_; have HB := n1_; clear n0_ n1_; (try clear hb); (try clear hb2); (try clear hk); (try clear hi); have hcz9_0 : w8.cell? ⟨gb161, 0, none⟩ = some (.int .i64 a0_0) := (zc1 BK161.out 0).trans rfl; have hcz9_1 : w8.cell? ⟨gb161, 1, none⟩ = some (.int .i64 a0_1) := (zc1 BK161.out 1).trans rfl; have hcz9_2 : w8.cell? ⟨gb161, 2, none⟩ = some (.int .i64 a0_2) := (zc1 BK161.out 2).trans rfl; have hcz9_3 : w8.cell? ⟨gb161, 3, none⟩ = some (.slice A0_3 l0_3.length c0_3) := (zc1 BK161.out 3).trans rfl; have hfz9_0 := zc5 BK161.out 0; have hfz9_1 := zc5 BK161.out 1; have hfz9_2 := zc5 BK161.out 2; have hfz9_3 := zc5 BK161.out 3) | (go_at_call 24; (with_reducible refine (remoraref05_Count.calls k a0_0 a0_1 t163 _ A4.out).mono ?_); rintro e w' ⟨rfl, ⟨nd, rfl⟩⟩; (try first | exact ⟨rfl, _, World.drewN_drewN _ _ _⟩ | exact ⟨rfl, _, Eq.trans (World.drewN_drewN _ _ _) (congrArg (World.drewN _) (Nat.add_assoc _ _ _))⟩))))
   go_loopg [23] k (fun kq v23 w' => ∃ (x23_1 : Int), v23 = .int .i64 x23_1 ∧ Aside0 (remoraref06_Check.l0 kq l0_3 (l0_3.length : Int) x23_1 a0_0 a0_1 a0_2 l0_3 = some r) ∧ Aside0 (kq ≤ k) ∧ Aside0 (w'.heap[gb161]? = some (.cells #[.int .i64 a0_0, .int .i64 a0_1, .int .i64 a0_2, (.slice A0_3 l0_3.length c0_3)] 24 (0, 0))) ∧ Aside0 (Below w.heap.size w w'))
   case atStart => exact ⟨(0), (by first | rfl | (simp; done) | (simp [*]; done)), H', ⟨Nat.le_refl _⟩, ⟨by (with_reducible repeat (first | refine zc3 ?_ _ | refine zc4 ?_ | refine zc2 ?_ _)); exact BK161.out⟩, ⟨by repeat (first | (with_reducible first | exact HB.out | apply zb3 | apply zb1 | apply zb2 | refine zb4 ?_ GE161.out) | exact HB.out)⟩⟩
   case round =>
    clear H'
    try clear c1
    try clear p2
    try clear c3
    try clear c3b0
    try clear c3b1
    try clear c5
    try clear c5b0
    try clear c5b1
    try clear hcz7_0
    try clear hcz7_1
    try clear hcz7_2
    try clear hcz7_3
    try clear hcz9_0
    try clear hcz9_1
    try clear hcz9_2
    try clear hcz9_3
    try clear hfz7_0
    try clear hfz7_1
    try clear hfz7_2
    try clear hfz7_3
    try clear hfz9_0
    try clear hfz9_1
    try clear hfz9_2
    try clear hfz9_3
    obtain ⟨x23_1, rfl, HA, HK1, BK161, HB⟩ := hrel
    cases gk with
    | zero => exact absurd HA.out (by simp [remoraref06_Check.l0])
    | succ k1 =>
     have H := HA.out
     clear HA
     simp only [remoraref06_Check.l0] at H
     by_cases c10 : x23_1 < (l0_3.length : Int)
     ·rw [if_pos c10] at H
      have c10b0 : decide (x23_1 < (l0_3.length : Int)) = true := zd1 c10
      clear c10
      by_cases c11 : 0 ≤ x23_1
      ·rw [if_pos c11] at H
       have c11b0 : decide (0 ≤ x23_1) = true := zd1 c11
       clear c11
       by_cases c12 : x23_1 < (l0_3.length : Int)
       ·rw [if_pos c12] at H
        have c12b0 : decide (x23_1 < (l0_3.length : Int)) = true := zd1 c12
        clear c12
        by_cases c13 : (((rd_T55 l0_3 x23_1).f1).size : Int) = a0_2
        ·rw [if_pos c13] at H
         have c13b0 : ((((rd_T55 l0_3 x23_1).f1).size : Int) == a0_2) = true := beq_iff_eq.mpr c13
         have c13b1 : ((((rd_T55 l0_3 x23_1).f1).size : Int) != a0_2) = false := bne_eq_false_iff_eq.mpr c13
         clear c13
         have H' := zA H
         clear H
         have p164 : 0 ≤ (x23_1 : Int) := zd3 (by first | (with_reducible assumption) | assumption)
         have q164 : x23_1 < (l0_3.length : Int) := zd3 (by first | (with_reducible assumption) | assumption)
         obtain ⟨ad164, e164, hx164_0, hx164_1⟩ := at_T55 HR0_3.out x23_1 p164 q164
         cases e164
         replace hx164_0 := (HB.out.cell (World.block_lt_of_cell? w _ hx164_0)).trans hx164_0
         replace hx164_1 := (HB.out.cell (World.block_lt_of_cell? w _ hx164_1)).trans hx164_1
         replace p164 := eq_true p164
         replace q164 := eq_true q164
         go_wp2_with (first | ((with_reducible refine gate_dst (N := 5) rfl ?_); refine box_event ?hg (N := 5) ?hd (cs := #[.int .u32 0, .string (⟨#[]⟩ : ByteArray)]) (t := 55) ?hr ?_; (case hd => rfl); (case hg => rfl); (case hr => first | (go_simp; done) | (go_simp; rfl)); intro gb165 hg w14 hbox hb; have n0_ := zA (zc6 (g := gb161) (o := .cells #[.int .i64 a0_0, .int .i64 a0_1, .int .i64 a0_2, .slice (some ad164) l0_3.length c0_3] 24 (0, 0)) (by (with_reducible repeat (first | refine zc3 ?_ _ | refine zc4 ?_ | refine zc2 ?_ _)); exact BK161.out) hb); have n1_ := zA (zb5 (by repeat (first | (with_reducible first | exact HB.out | apply zb3 | apply zb1 | apply zb2 | refine zb4 ?_ GE161.out) | exact HB.out)) hb); have n2_ := zA (hbox); have n3_ := zA ((by rw [hg]; exact (zb6 (by repeat (first | (with_reducible first | exact HB.out | apply zb3 | apply zb1 | apply zb2 | refine zb4 ?_ GE161.out) | exact HB.out))) : w.heap.size ≤ gb165)); have n4_ := zA ((by rw [hg]; exact (zb6 (by repeat (first | (with_reducible first | exact HB.out | apply zb3 | apply zb1 | apply zb2 | refine zb4 ?_ GE161.out) | exact HB.out))) : w.heap.size ≤ gb165)); have n5_ := zA ((by rw [hg]; exact Nat.ne_of_lt (blk_lt (g := gb161) (o := .cells #[.int .i64 a0_0, .int .i64 a0_1, .int .i64 a0_2, .slice (some ad164) l0_3.length c0_3] 24 (0, 0)) (by (with_reducible repeat (first | refine zc3 ?_ _ | refine zc4 ?_ | refine zc2 ?_ _)); exact BK161.out)) : gb161 ≠ gb165)); have n6_ := zA ((by rw [hg]; exact Nat.ne_of_gt (blk_lt (g := gb161) (o := .cells #[.int .i64 a0_0, .int .i64 a0_1, .int .i64 a0_2, .slice (some ad164) l0_3.length c0_3] 24 (0, 0)) (by (with_reducible repeat (first | refine zc3 ?_ _ | refine zc4 ?_ | refine zc2 ?_ _)); exact BK161.out)) : gb165 ≠ gb161)); clear BK161; clear HB; have BK161 := n0_; have HB := n1_; have BK165 := n2_; have GW165 := n3_; have GE165 := n4_; have NB161_165 := n5_; have NB165_161 := n6_; clear n0_ n1_ n2_ n3_ n4_ n5_ n6_; clear hb hbox hg; have hnb15 := NB165_161.out; have hnc15 := NB161_165.out; have hcz16_0 : w14.cell? ⟨gb165, 0, none⟩ = some (.int .u32 0) := (zc1 BK165.out 0).trans rfl; have hcz16_1 : w14.cell? ⟨gb165, 1, none⟩ = some (.string (⟨#[]⟩ : ByteArray)) := (zc1 BK165.out 1).trans rfl; have hfz16_0 := zc5 BK165.out 0; have hfz16_1 := zc5 BK165.out 1; have hcz17_0 : w14.cell? ⟨gb161, 0, none⟩ = some (.int .i64 a0_0) := (zc1 BK161.out 0).trans rfl; have hcz17_1 : w14.cell? ⟨gb161, 1, none⟩ = some (.int .i64 a0_1) := (zc1 BK161.out 1).trans rfl; have hcz17_2 : w14.cell? ⟨gb161, 2, none⟩ = some (.int .i64 a0_2) := (zc1 BK161.out 2).trans rfl; have hcz17_3 : w14.cell? ⟨gb161, 3, none⟩ = some (.slice (some ad164) l0_3.length c0_3) := (zc1 BK161.out 3).trans rfl; have hfz17_0 := zc5 BK161.out 0; have hfz17_1 := zc5 BK161.out 1; have hfz17_2 := zc5 BK161.out 2; have hfz17_3 := zc5 BK161.out 3))
         repeat (go_quiet (first | ((with_reducible refine gate_dst (N := 5) rfl ?_); refine box_event ?hg (N := 5) ?hd (cs := #[.int .u32 0, .string (⟨#[]⟩ : ByteArray)]) (t := 55) ?hr ?_; (case hd => rfl); (case hg => rfl); (case hr => first | (go_simp; done) | (go_simp; rfl)); intro gb165 hg w14 hbox hb; have n0_ := zA (zc6 (g := gb161) (o := .cells #[.int .i64 a0_0, .int .i64 a0_1, .int .i64 a0_2, .slice (some ad164) l0_3.length c0_3] 24 (0, 0)) (by (with_reducible repeat (first | refine zc3 ?_ _ | refine zc4 ?_ | refine zc2 ?_ _)); exact BK161.out) hb); have n1_ := zA (zb5 (by repeat (first | (with_reducible first | exact HB.out | apply zb3 | apply zb1 | apply zb2 | refine zb4 ?_ GE161.out) | exact HB.out)) hb); have n2_ := zA (hbox); have n3_ := zA ((by rw [hg]; exact (zb6 (by repeat (first | (with_reducible first | exact HB.out | apply zb3 | apply zb1 | apply zb2 | refine zb4 ?_ GE161.out) | exact HB.out))) : w.heap.size ≤ gb165)); have n4_ := zA ((by rw [hg]; exact (zb6 (by repeat (first | (with_reducible first | exact HB.out | apply zb3 | apply zb1 | apply zb2 | refine zb4 ?_ GE161.out) | exact HB.out))) : w.heap.size ≤ gb165)); have n5_ := zA ((by rw [hg]; exact Nat.ne_of_lt (blk_lt (g := gb161) (o := .cells #[.int .i64 a0_0, .int .i64 a0_1, .int .i64 a0_2, .slice (some ad164) l0_3.length c0_3] 24 (0, 0)) (by (with_reducible repeat (first | refine zc3 ?_ _ | refine zc4 ?_ | refine zc2 ?_ _)); exact BK161.out)) : gb161 ≠ gb165)); have n6_ := zA ((by rw [hg]; exact Nat.ne_of_gt (blk_lt (g := gb161) (o := .cells #[.int .i64 a0_0, .int .i64 a0_1, .int .i64 a0_2, .slice (some ad164) l0_3.length c0_3] 24 (0, 0)) (by (with_reducible repeat (first | refine zc3 ?_ _ | refine zc4 ?_ | refine zc2 ?_ _)); exact BK161.out)) : gb165 ≠ gb161)); clear BK161; clear HB; have BK161 := n0_; have HB := n1_; have BK165 := n2_; have GW165 := n3_; have GE165 := n4_; have NB161_165 := n5_; have NB165_161 := n6_; clear n0_ n1_ n2_ n3_ n4_ n5_ n6_; clear hb hbox hg; have hnb15 := NB165_161.out; have hnc15 := NB161_165.out; have hcz16_0 : w14.cell? ⟨gb165, 0, none⟩ = some (.int .u32 0) := (zc1 BK165.out 0).trans rfl; have hcz16_1 : w14.cell? ⟨gb165, 1, none⟩ = some (.string (⟨#[]⟩ : ByteArray)) := (zc1 BK165.out 1).trans rfl; have hfz16_0 := zc5 BK165.out 0; have hfz16_1 := zc5 BK165.out 1; have hcz17_0 : w14.cell? ⟨gb161, 0, none⟩ = some (.int .i64 a0_0) := (zc1 BK161.out 0).trans rfl; have hcz17_1 : w14.cell? ⟨gb161, 1, none⟩ = some (.int .i64 a0_1) := (zc1 BK161.out 1).trans rfl; have hcz17_2 : w14.cell? ⟨gb161, 2, none⟩ = some (.int .i64 a0_2) := (zc1 BK161.out 2).trans rfl; have hcz17_3 : w14.cell? ⟨gb161, 3, none⟩ = some (.slice (some ad164) l0_3.length c0_3) := (zc1 BK161.out 3).trans rfl; have hfz17_0 := zc5 BK161.out 0; have hfz17_1 := zc5 BK161.out 1; have hfz17_2 := zc5 BK161.out 2; have hfz17_3 := zc5 BK161.out 3)); try go_wp2_with (first | ((with_reducible refine gate_dst (N := 5) rfl ?_); refine box_event ?hg (N := 5) ?hd (cs := #[.int .u32 0, .string (⟨#[]⟩ : ByteArray)]) (t := 55) ?hr ?_; (case hd => rfl); (case hg => rfl); (case hr => first | (go_simp; done) | (go_simp; rfl)); intro gb165 hg w14 hbox hb; have n0_ := zA (zc6 (g := gb161) (o := .cells #[.int .i64 a0_0, .int .i64 a0_1, .int .i64 a0_2, .slice (some ad164) l0_3.length c0_3] 24 (0, 0)) (by (with_reducible repeat (first | refine zc3 ?_ _ | refine zc4 ?_ | refine zc2 ?_ _)); exact BK161.out) hb); have n1_ := zA (zb5 (by repeat (first | (with_reducible first | exact HB.out | apply zb3 | apply zb1 | apply zb2 | refine zb4 ?_ GE161.out) | exact HB.out)) hb); have n2_ := zA (hbox); have n3_ := zA ((by rw [hg]; exact (zb6 (by repeat (first | (with_reducible first | exact HB.out | apply zb3 | apply zb1 | apply zb2 | refine zb4 ?_ GE161.out) | exact HB.out))) : w.heap.size ≤ gb165)); have n4_ := zA ((by rw [hg]; exact (zb6 (by repeat (first | (with_reducible first | exact HB.out | apply zb3 | apply zb1 | apply zb2 | refine zb4 ?_ GE161.out) | exact HB.out))) : w.heap.size ≤ gb165)); have n5_ := zA ((by rw [hg]; exact Nat.ne_of_lt (blk_lt (g := gb161) (o := .cells #[.int .i64 a0_0, .int .i64 a0_1, .int .i64 a0_2, .slice (some ad164) l0_3.length c0_3] 24 (0, 0)) (by (with_reducible repeat (first | refine zc3 ?_ _ | refine zc4 ?_ | refine zc2 ?_ _)); exact BK161.out)) : gb161 ≠ gb165)); have n6_ := zA ((by rw [hg]; exact Nat.ne_of_gt (blk_lt (g := gb161) (o := .cells #[.int .i64 a0_0, .int .i64 a0_1, .int .i64 a0_2, .slice (some ad164) l0_3.length c0_3] 24 (0, 0)) (by (with_reducible repeat (first | refine zc3 ?_ _ | refine zc4 ?_ | refine zc2 ?_ _)); exact BK161.out)) : gb165 ≠ gb161)); clear BK161; clear HB; have BK161 := n0_; have HB := n1_; have BK165 := n2_; have GW165 := n3_; have GE165 := n4_; have NB161_165 := n5_; have NB165_161 := n6_; clear n0_ n1_ n2_ n3_ n4_ n5_ n6_; clear hb hbox hg; have hnb15 := NB165_161.out; have hnc15 := NB161_165.out; have hcz16_0 : w14.cell? ⟨gb165, 0, none⟩ = some (.int .u32 0) := (zc1 BK165.out 0).trans rfl; have hcz16_1 : w14.cell? ⟨gb165, 1, none⟩ = some (.string (⟨#[]⟩ : ByteArray)) := (zc1 BK165.out 1).trans rfl; have hfz16_0 := zc5 BK165.out 0; have hfz16_1 := zc5 BK165.out 1; have hcz17_0 : w14.cell? ⟨gb161, 0, none⟩ = some (.int .i64 a0_0) := (zc1 BK161.out 0).trans rfl; have hcz17_1 : w14.cell? ⟨gb161, 1, none⟩ = some (.int .i64 a0_1) := (zc1 BK161.out 1).trans rfl; have hcz17_2 : w14.cell? ⟨gb161, 2, none⟩ = some (.int .i64 a0_2) := (zc1 BK161.out 2).trans rfl; have hcz17_3 : w14.cell? ⟨gb161, 3, none⟩ = some (.slice (some ad164) l0_3.length c0_3) := (zc1 BK161.out 3).trans rfl; have hfz17_0 := zc5 BK161.out 0; have hfz17_1 := zc5 BK161.out 1; have hfz17_2 := zc5 BK161.out 2; have hfz17_3 := zc5 BK161.out 3)))
         go_roundg k1
         case measure => have := HK1.out; omega
         case rel => exact ⟨(wrap64 (x23_1 + 1)), (by first | rfl | (simp; done) | (simp [*]; done)), H', ⟨by have := HK1.out; omega⟩, ⟨by (with_reducible repeat (first | refine zc3 ?_ _ | refine zc4 ?_ | refine zc2 ?_ _)); refine zc7 ?_ NB161_165.out _; (with_reducible repeat (first | refine zc3 ?_ _ | refine zc4 ?_ | refine zc2 ?_ _)); refine zc7 ?_ NB161_165.out _; (with_reducible repeat (first | refine zc3 ?_ _ | refine zc4 ?_ | refine zc2 ?_ _)); exact BK161.out⟩, ⟨by repeat (first | (with_reducible first | exact HB.out | apply zb3 | apply zb1 | apply zb2 | refine zb4 ?_ GE161.out | refine zb4 ?_ GE165.out) | exact HB.out)⟩⟩
        ·rw [if_neg c13] at H
         have c13b0 : ((((rd_T55 l0_3 x23_1).f1).size : Int) == a0_2) = false := beq_eq_false_iff_ne.mpr c13
         have c13b1 : ((((rd_T55 l0_3 x23_1).f1).size : Int) != a0_2) = true := bne_iff_ne.mpr c13
         obtain rfl := Option.some.inj H
         have p164 : 0 ≤ (x23_1 : Int) := zd3 (by first | (with_reducible assumption) | assumption)
         have q164 : x23_1 < (l0_3.length : Int) := zd3 (by first | (with_reducible assumption) | assumption)
         obtain ⟨ad164, e164, hx164_0, hx164_1⟩ := at_T55 HR0_3.out x23_1 p164 q164
         cases e164
         replace hx164_0 := (HB.out.cell (World.block_lt_of_cell? w _ hx164_0)).trans hx164_0
         replace hx164_1 := (HB.out.cell (World.block_lt_of_cell? w _ hx164_1)).trans hx164_1
         replace p164 := eq_true p164
         replace q164 := eq_true q164
         go_wp2_with (first | ((with_reducible refine gate_dst (N := 5) rfl ?_); refine box_event ?hg (N := 5) ?hd (cs := #[.int .u32 0, .string (⟨#[]⟩ : ByteArray)]) (t := 55) ?hr ?_; (case hd => rfl); (case hg => rfl); (case hr => first | (go_simp; done) | (go_simp; rfl)); intro gb165 hg w18 hbox hb; have n0_ := zA (zc6 (g := gb161) (o := .cells #[.int .i64 a0_0, .int .i64 a0_1, .int .i64 a0_2, .slice (some ad164) l0_3.length c0_3] 24 (0, 0)) (by (with_reducible repeat (first | refine zc3 ?_ _ | refine zc4 ?_ | refine zc2 ?_ _)); exact BK161.out) hb); have n1_ := zA (zb5 (by repeat (first | (with_reducible first | exact HB.out | apply zb3 | apply zb1 | apply zb2 | refine zb4 ?_ GE161.out) | exact HB.out)) hb); have n2_ := zA (hbox); have n3_ := zA ((by rw [hg]; exact (zb6 (by repeat (first | (with_reducible first | exact HB.out | apply zb3 | apply zb1 | apply zb2 | refine zb4 ?_ GE161.out) | exact HB.out))) : w.heap.size ≤ gb165)); have n4_ := zA ((by rw [hg]; exact (zb6 (by repeat (first | (with_reducible first | exact HB.out | apply zb3 | apply zb1 | apply zb2 | refine zb4 ?_ GE161.out) | exact HB.out))) : w.heap.size ≤ gb165)); have n5_ := zA ((by rw [hg]; exact Nat.ne_of_lt (blk_lt (g := gb161) (o := .cells #[.int .i64 a0_0, .int .i64 a0_1, .int .i64 a0_2, .slice (some ad164) l0_3.length c0_3] 24 (0, 0)) (by (with_reducible repeat (first | refine zc3 ?_ _ | refine zc4 ?_ | refine zc2 ?_ _)); exact BK161.out)) : gb161 ≠ gb165)); have n6_ := zA ((by rw [hg]; exact Nat.ne_of_gt (blk_lt (g := gb161) (o := .cells #[.int .i64 a0_0, .int .i64 a0_1, .int .i64 a0_2, .slice (some ad164) l0_3.length c0_3] 24 (0, 0)) (by (with_reducible repeat (first | refine zc3 ?_ _ | refine zc4 ?_ | refine zc2 ?_ _)); exact BK161.out)) : gb165 ≠ gb161)); clear BK161; clear HB; have BK161 := n0_; have HB := n1_; have BK165 := n2_; have GW165 := n3_; have GE165 := n4_; have NB161_165 := n5_; have NB165_161 := n6_; clear n0_ n1_ n2_ n3_ n4_ n5_ n6_; clear hb hbox hg; have hnb19 := NB165_161.out; have hnc19 := NB161_165.out; have hcz20_0 : w18.cell? ⟨gb165, 0, none⟩ = some (.int .u32 0) := (zc1 BK165.out 0).trans rfl; have hcz20_1 : w18.cell? ⟨gb165, 1, none⟩ = some (.string (⟨#[]⟩ : ByteArray)) := (zc1 BK165.out 1).trans rfl; have hfz20_0 := zc5 BK165.out 0; have hfz20_1 := zc5 BK165.out 1; have hcz21_0 : w18.cell? ⟨gb161, 0, none⟩ = some (.int .i64 a0_0) := (zc1 BK161.out 0).trans rfl; have hcz21_1 : w18.cell? ⟨gb161, 1, none⟩ = some (.int .i64 a0_1) := (zc1 BK161.out 1).trans rfl; have hcz21_2 : w18.cell? ⟨gb161, 2, none⟩ = some (.int .i64 a0_2) := (zc1 BK161.out 2).trans rfl; have hcz21_3 : w18.cell? ⟨gb161, 3, none⟩ = some (.slice (some ad164) l0_3.length c0_3) := (zc1 BK161.out 3).trans rfl; have hfz21_0 := zc5 BK161.out 0; have hfz21_1 := zc5 BK161.out 1; have hfz21_2 := zc5 BK161.out 2; have hfz21_3 := zc5 BK161.out 3))
         repeat (go_quiet (first | ((with_reducible refine gate_dst (N := 5) rfl ?_); refine box_event ?hg (N := 5) ?hd (cs := #[.int .u32 0, .string (⟨#[]⟩ : ByteArray)]) (t := 55) ?hr ?_; (case hd => rfl); (case hg => rfl); (case hr => first | (go_simp; done) | (go_simp; rfl)); intro gb165 hg w18 hbox hb; have n0_ := zA (zc6 (g := gb161) (o := .cells #[.int .i64 a0_0, .int .i64 a0_1, .int .i64 a0_2, .slice (some ad164) l0_3.length c0_3] 24 (0, 0)) (by (with_reducible repeat (first | refine zc3 ?_ _ | refine zc4 ?_ | refine zc2 ?_ _)); exact BK161.out) hb); have n1_ := zA (zb5 (by repeat (first | (with_reducible first | exact HB.out | apply zb3 | apply zb1 | apply zb2 | refine zb4 ?_ GE161.out) | exact HB.out)) hb); have n2_ := zA (hbox); have n3_ := zA ((by rw [hg]; exact (zb6 (by repeat (first | (with_reducible first | exact HB.out | apply zb3 | apply zb1 | apply zb2 | refine zb4 ?_ GE161.out) | exact HB.out))) : w.heap.size ≤ gb165)); have n4_ := zA ((by rw [hg]; exact (zb6 (by repeat (first | (with_reducible first | exact HB.out | apply zb3 | apply zb1 | apply zb2 | refine zb4 ?_ GE161.out) | exact HB.out))) : w.heap.size ≤ gb165)); have n5_ := zA ((by rw [hg]; exact Nat.ne_of_lt (blk_lt (g := gb161) (o := .cells #[.int .i64 a0_0, .int .i64 a0_1, .int .i64 a0_2, .slice (some ad164) l0_3.length c0_3] 24 (0, 0)) (by (with_reducible repeat (first | refine zc3 ?_ _ | refine zc4 ?_ | refine zc2 ?_ _)); exact BK161.out)) : gb161 ≠ gb165)); have n6_ := zA ((by rw [hg]; exact Nat.ne_of_gt (blk_lt (g := gb161) (o := .cells #[.int .i64 a0_0, .int .i64 a0_1, .int .i64 a0_2, .slice (some ad164) l0_3.length c0_3] 24 (0, 0)) (by (with_reducible repeat (first | refine zc3 ?_ _ | refine zc4 ?_ | refine zc2 ?_ _)); exact BK161.out)) : gb165 ≠ gb161)); clear BK161; clear HB; have BK161 := n0_; have HB := n1_; have BK165 := n2_; have GW165 := n3_; have GE165 := n4_; have NB161_165 := n5_; have NB165_161 := n6_; clear n0_ n1_ n2_ n3_ n4_ n5_ n6_; clear hb hbox hg; have hnb19 := NB165_161.out; have hnc19 := NB161_165.out; have hcz20_0 : w18.cell? ⟨gb165, 0, none⟩ = some (.int .u32 0) := (zc1 BK165.out 0).trans rfl; have hcz20_1 : w18.cell? ⟨gb165, 1, none⟩ = some (.string (⟨#[]⟩ : ByteArray)) := (zc1 BK165.out 1).trans rfl; have hfz20_0 := zc5 BK165.out 0; have hfz20_1 := zc5 BK165.out 1; have hcz21_0 : w18.cell? ⟨gb161, 0, none⟩ = some (.int .i64 a0_0) := (zc1 BK161.out 0).trans rfl; have hcz21_1 : w18.cell? ⟨gb161, 1, none⟩ = some (.int .i64 a0_1) := (zc1 BK161.out 1).trans rfl; have hcz21_2 : w18.cell? ⟨gb161, 2, none⟩ = some (.int .i64 a0_2) := (zc1 BK161.out 2).trans rfl; have hcz21_3 : w18.cell? ⟨gb161, 3, none⟩ = some (.slice (some ad164) l0_3.length c0_3) := (zc1 BK161.out 3).trans rfl; have hfz21_0 := zc5 BK161.out 0; have hfz21_1 := zc5 BK161.out 1; have hfz21_2 := zc5 BK161.out 2; have hfz21_3 := zc5 BK161.out 3)); try go_wp2_with (first | ((with_reducible refine gate_dst (N := 5) rfl ?_); refine box_event ?hg (N := 5) ?hd (cs := #[.int .u32 0, .string (⟨#[]⟩ : ByteArray)]) (t := 55) ?hr ?_; (case hd => rfl); (case hg => rfl); (case hr => first | (go_simp; done) | (go_simp; rfl)); intro gb165 hg w18 hbox hb; have n0_ := zA (zc6 (g := gb161) (o := .cells #[.int .i64 a0_0, .int .i64 a0_1, .int .i64 a0_2, .slice (some ad164) l0_3.length c0_3] 24 (0, 0)) (by (with_reducible repeat (first | refine zc3 ?_ _ | refine zc4 ?_ | refine zc2 ?_ _)); exact BK161.out) hb); have n1_ := zA (zb5 (by repeat (first | (with_reducible first | exact HB.out | apply zb3 | apply zb1 | apply zb2 | refine zb4 ?_ GE161.out) | exact HB.out)) hb); have n2_ := zA (hbox); have n3_ := zA ((by rw [hg]; exact (zb6 (by repeat (first | (with_reducible first | exact HB.out | apply zb3 | apply zb1 | apply zb2 | refine zb4 ?_ GE161.out) | exact HB.out))) : w.heap.size ≤ gb165)); have n4_ := zA ((by rw [hg]; exact (zb6 (by repeat (first | (with_reducible first | exact HB.out | apply zb3 | apply zb1 | apply zb2 | refine zb4 ?_ GE161.out) | exact HB.out))) : w.heap.size ≤ gb165)); have n5_ := zA ((by rw [hg]; exact Nat.ne_of_lt (blk_lt (g := gb161) (o := .cells #[.int .i64 a0_0, .int .i64 a0_1, .int .i64 a0_2, .slice (some ad164) l0_3.length c0_3] 24 (0, 0)) (by (with_reducible repeat (first | refine zc3 ?_ _ | refine zc4 ?_ | refine zc2 ?_ _)); exact BK161.out)) : gb161 ≠ gb165)); have n6_ := zA ((by rw [hg]; exact Nat.ne_of_gt (blk_lt (g := gb161) (o := .cells #[.int .i64 a0_0, .int .i64 a0_1, .int .i64 a0_2, .slice (some ad164) l0_3.length c0_3] 24 (0, 0)) (by (with_reducible repeat (first | refine zc3 ?_ _ | refine zc4 ?_ | refine zc2 ?_ _)); exact BK161.out)) : gb165 ≠ gb161)); clear BK161; clear HB; have BK161 := n0_; have HB := n1_; have BK165 := n2_; have GW165 := n3_; have GE165 := n4_; have NB161_165 := n5_; have NB165_161 := n6_; clear n0_ n1_ n2_ n3_ n4_ n5_ n6_; clear hb hbox hg; have hnb19 := NB165_161.out; have hnc19 := NB161_165.out; have hcz20_0 : w18.cell? ⟨gb165, 0, none⟩ = some (.int .u32 0) := (zc1 BK165.out 0).trans rfl; have hcz20_1 : w18.cell? ⟨gb165, 1, none⟩ = some (.string (⟨#[]⟩ : ByteArray)) := (zc1 BK165.out 1).trans rfl; have hfz20_0 := zc5 BK165.out 0; have hfz20_1 := zc5 BK165.out 1; have hcz21_0 : w18.cell? ⟨gb161, 0, none⟩ = some (.int .i64 a0_0) := (zc1 BK161.out 0).trans rfl; have hcz21_1 : w18.cell? ⟨gb161, 1, none⟩ = some (.int .i64 a0_1) := (zc1 BK161.out 1).trans rfl; have hcz21_2 : w18.cell? ⟨gb161, 2, none⟩ = some (.int .i64 a0_2) := (zc1 BK161.out 2).trans rfl; have hcz21_3 : w18.cell? ⟨gb161, 3, none⟩ = some (.slice (some ad164) l0_3.length c0_3) := (zc1 BK161.out 3).trans rfl; have hfz21_0 := zc5 BK161.out 0; have hfz21_1 := zc5 BK161.out 1; have hfz21_2 := zc5 BK161.out 2; have hfz21_3 := zc5 BK161.out 3)))
         go_ret
         exact ⟨by first | rfl | (simp [*] <;> rfl), by repeat (first | (with_reducible first | exact HB.out | apply zb3 | apply zb1 | apply zb2 | refine zb4 ?_ GE161.out | refine zb4 ?_ GE165.out) | exact HB.out)⟩
       ·rw [if_neg c12] at H
        exact absurd H (by simp)
      ·rw [if_neg c11] at H
       exact absurd H (by simp)
     ·rw [if_neg c10] at H
      have c10b0 : decide (x23_1 < (l0_3.length : Int)) = false := zd2 c10
      clear c10
      obtain rfl := Option.some.inj H
      go_wp2
      have hwi_ : ∀ n : Int, IntKind.i64.wrap n = wrap64 n := i64_w
      repeat (go_quiet (fail); try go_wp2)
      clear hwi_
      go_ret
      exact ⟨by first | rfl | (simp [*] <;> rfl), by repeat (first | (with_reducible first | exact HB.out | apply zb3 | apply zb1 | apply zb2 | refine zb4 ?_ GE161.out) | exact HB.out)⟩
  ·rw [if_neg c5] at H
   have c5b0 : ((l0_3.length : Int) == t163) = false := beq_eq_false_iff_ne.mpr c5
   have c5b1 : ((l0_3.length : Int) != t163) = true := bne_iff_ne.mpr c5
   obtain rfl := Option.some.inj H
   go_enter Try.func10, Try.ntmps10
   go_wp2_with (first | ((with_reducible refine gate_dst (N := 1) rfl ?_); refine box_event ?hg (N := 1) ?hd (cs := #[.int .i64 a0_0, .int .i64 a0_1, .int .i64 a0_2, .slice A0_3 l0_3.length c0_3]) (t := 24) ?hr ?_; (case hd => rfl); (case hg => rfl); (case hr => first | (go_simp; done) | (go_simp; rfl)); intro gb161 hg w22 hbox hb; have n0_ := zA (zb5 (by repeat (first | (with_reducible first | exact HB.out | apply zb3 | apply zb1 | apply zb2) | exact HB.out)) hb); have n1_ := zA (hbox); have n2_ := zA ((by rw [hg]; exact (zb6 (by repeat (first | (with_reducible first | exact HB.out | apply zb3 | apply zb1 | apply zb2) | exact HB.out))) : w.heap.size ≤ gb161)); have n3_ := zA ((by rw [hg]; exact (zb6 (by repeat (first | (with_reducible first | exact HB.out | apply zb3 | apply zb1 | apply zb2) | exact HB.out))) : w.heap.size ≤ gb161)); clear HB; have HB := n0_; have BK161 := n1_; have GW161 := n2_; have GE161 := n3_; clear n0_ n1_ n2_ n3_; clear hb hbox hg; have hcz23_0 : w22.cell? ⟨gb161, 0, none⟩ = some (.int .i64 a0_0) := (zc1 BK161.out 0).trans rfl; have hcz23_1 : w22.cell? ⟨gb161, 1, none⟩ = some (.int .i64 a0_1) := (zc1 BK161.out 1).trans rfl; have hcz23_2 : w22.cell? ⟨gb161, 2, none⟩ = some (.int .i64 a0_2) := (zc1 BK161.out 2).trans rfl; have hcz23_3 : w22.cell? ⟨gb161, 3, none⟩ = some (.slice A0_3 l0_3.length c0_3) := (zc1 BK161.out 3).trans rfl; have hfz23_0 := zc5 BK161.out 0; have hfz23_1 := zc5 BK161.out 1; have hfz23_2 := zc5 BK161.out 2; have hfz23_3 := zc5 BK161.out 3) | (go_at_call 23; (with_reducible refine (remoraref06_head.calls a0_0 a0_1 a0_2 _ _ l0_3 t162 _ ?side1 ?side2 A2.out).mono ?_); (case side1 => repeat (first | exact (Kd.C_below HR0_3.out HB.out) | (with_reducible refine Kd.C_alloc ?_ _) | (with_reducible refine Kd.C_drewN ?_ _) | (with_reducible refine Kd.C_drew ?_))); (case side2 => exact HC0_3.out); rintro e w24 ⟨rfl, hb⟩; have n0_ := zA (zc6 (g := gb161) (o := .cells #[.int .i64 a0_0, .int .i64 a0_1, .int .i64 a0_2, .slice A0_3 l0_3.length c0_3] 24 (0, 0)) (by (with_reducible repeat (first | refine zc3 ?_ _ | refine zc4 ?_ | refine zc2 ?_ _)); exact BK161.out) hb); have n1_ := zA (zb5 (by repeat (first | (with_reducible first | exact HB.out | apply zb3 | apply zb1 | apply zb2 | refine zb4 ?_ GE161.out) | exact HB.out)) hb); clear BK161; clear HB; have BK161 := n0_; have HB := n1_; clear n0_ n1_; (try clear hb); (try clear hb2); (try clear hk); (try clear hi); have hcz25_0 : w24.cell? ⟨gb161, 0, none⟩ = some (.int .i64 a0_0) := (zc1 BK161.out 0).trans rfl; have hcz25_1 : w24.cell? ⟨gb161, 1, none⟩ = some (.int .i64 a0_1) := (zc1 BK161.out 1).trans rfl; have hcz25_2 : w24.cell? ⟨gb161, 2, none⟩ = some (.int .i64 a0_2) := (zc1 BK161.out 2).trans rfl; have hcz25_3 : w24.cell? ⟨gb161, 3, none⟩ = some (.slice A0_3 l0_3.length c0_3) := (zc1 BK161.out 3).trans rfl; have hfz25_0 := zc5 BK161.out 0; have hfz25_1 := zc5 BK161.out 1; have hfz25_2 := zc5 BK161.out 2; have hfz25_3 := zc5 BK161.out 3) | (go_at_call 24; (with_reducible refine (remoraref05_Count.calls k a0_0 a0_1 t163 _ A4.out).mono ?_); rintro e w' ⟨rfl, ⟨nd, rfl⟩⟩; (try first | exact ⟨rfl, _, World.drewN_drewN _ _ _⟩ | exact ⟨rfl, _, Eq.trans (World.drewN_drewN _ _ _) (congrArg (World.drewN _) (Nat.add_assoc _ _ _))⟩)))
   repeat (go_quiet (first | ((with_reducible refine gate_dst (N := 1) rfl ?_); refine box_event ?hg (N := 1) ?hd (cs := #[.int .i64 a0_0, .int .i64 a0_1, .int .i64 a0_2, .slice A0_3 l0_3.length c0_3]) (t := 24) ?hr ?_; (case hd => rfl); (case hg => rfl); (case hr => first | (go_simp; done) | (go_simp; rfl)); intro gb161 hg w22 hbox hb; have n0_ := zA (zb5 (by repeat (first | (with_reducible first | exact HB.out | apply zb3 | apply zb1 | apply zb2) | exact HB.out)) hb); have n1_ := zA (hbox); have n2_ := zA ((by rw [hg]; exact (zb6 (by repeat (first | (with_reducible first | exact HB.out | apply zb3 | apply zb1 | apply zb2) | exact HB.out))) : w.heap.size ≤ gb161)); have n3_ := zA ((by rw [hg]; exact (zb6 (by repeat (first | (with_reducible first | exact HB.out | apply zb3 | apply zb1 | apply zb2) | exact HB.out))) : w.heap.size ≤ gb161)); clear HB; have HB := n0_; have BK161 := n1_; have GW161 := n2_; have GE161 := n3_; clear n0_ n1_ n2_ n3_; clear hb hbox hg; have hcz23_0 : w22.cell? ⟨gb161, 0, none⟩ = some (.int .i64 a0_0) := (zc1 BK161.out 0).trans rfl; have hcz23_1 : w22.cell? ⟨gb161, 1, none⟩ = some (.int .i64 a0_1) := (zc1 BK161.out 1).trans rfl; have hcz23_2 : w22.cell? ⟨gb161, 2, none⟩ = some (.int .i64 a0_2) := (zc1 BK161.out 2).trans rfl; have hcz23_3 : w22.cell? ⟨gb161, 3, none⟩ = some (.slice A0_3 l0_3.length c0_3) := (zc1 BK161.out 3).trans rfl; have hfz23_0 := zc5 BK161.out 0; have hfz23_1 := zc5 BK161.out 1; have hfz23_2 := zc5 BK161.out 2; have hfz23_3 := zc5 BK161.out 3) | (go_at_call 23; (with_reducible refine (remoraref06_head.calls a0_0 a0_1 a0_2 _ _ l0_3 t162 _ ?side1 ?side2 A2.out).mono ?_); (case side1 => repeat (first | exact (Kd.C_below HR0_3.out HB.out) | (with_reducible refine Kd.C_alloc ?_ _) | (with_reducible refine Kd.C_drewN ?_ _) | (with_reducible refine Kd.C_drew ?_))); (case side2 => exact HC0_3.out); rintro e w24 ⟨rfl, hb⟩; have n0_ := zA (zc6 (g := gb161) (o := .cells #[.int .i64 a0_0, .int .i64 a0_1, .int .i64 a0_2, .slice A0_3 l0_3.length c0_3] 24 (0, 0)) (by (with_reducible repeat (first | refine zc3 ?_ _ | refine zc4 ?_ | refine zc2 ?_ _)); exact BK161.out) hb); have n1_ := zA (zb5 (by repeat (first | (with_reducible first | exact HB.out | apply zb3 | apply zb1 | apply zb2 | refine zb4 ?_ GE161.out) | exact HB.out)) hb); clear BK161; clear HB; have BK161 := n0_; have HB := n1_; clear n0_ n1_; (try clear hb); (try clear hb2); (try clear hk); (try clear hi); have hcz25_0 : w24.cell? ⟨gb161, 0, none⟩ = some (.int .i64 a0_0) := (zc1 BK161.out 0).trans rfl; have hcz25_1 : w24.cell? ⟨gb161, 1, none⟩ = some (.int .i64 a0_1) := (zc1 BK161.out 1).trans rfl; have hcz25_2 : w24.cell? ⟨gb161, 2, none⟩ = some (.int .i64 a0_2) := (zc1 BK161.out 2).trans rfl; have hcz25_3 : w24.cell? ⟨gb161, 3, none⟩ = some (.slice A0_3 l0_3.length c0_3) := (zc1 BK161.out 3).trans rfl; have hfz25_0 := zc5 BK161.out 0; have hfz25_1 := zc5 BK161.out 1; have hfz25_2 := zc5 BK161.out 2; have hfz25_3 := zc5 BK161.out 3) | (go_at_call 24; (with_reducible refine (remoraref05_Count.calls k a0_0 a0_1 t163 _ A4.out).mono ?_); rintro e w' ⟨rfl, ⟨nd, rfl⟩⟩; (try first | exact ⟨rfl, _, World.drewN_drewN _ _ _⟩ | exact ⟨rfl, _, Eq.trans (World.drewN_drewN _ _ _) (congrArg (World.drewN _) (Nat.add_assoc _ _ _))⟩))); try go_wp2_with (first | ((with_reducible refine gate_dst (N := 1) rfl ?_); refine box_event ?hg (N := 1) ?hd (cs := #[.int .i64 a0_0, .int .i64 a0_1, .int .i64 a0_2, .slice A0_3 l0_3.length c0_3]) (t := 24) ?hr ?_; (case hd => rfl); (case hg => rfl); (case hr => first | (go_simp; done) | (go_simp; rfl)); intro gb161 hg w22 hbox hb; have n0_ := zA (zb5 (by repeat (first | (with_reducible first | exact HB.out | apply zb3 | apply zb1 | apply zb2) | exact HB.out)) hb); have n1_ := zA (hbox); have n2_ := zA ((by rw [hg]; exact (zb6 (by repeat (first | (with_reducible first | exact HB.out | apply zb3 | apply zb1 | apply zb2) | exact HB.out))) : w.heap.size ≤ gb161)); have n3_ := zA ((by rw [hg]; exact (zb6 (by repeat (first | (with_reducible first | exact HB.out | apply zb3 | apply zb1 | apply zb2) | exact HB.out))) : w.heap.size ≤ gb161)); clear HB; have HB := n0_; have BK161 := n1_; have GW161 := n2_; have GE161 := n3_; clear n0_ n1_ n2_ n3_; clear hb hbox hg; have hcz23_0 : w22.cell? ⟨gb161, 0, none⟩ = some (.int .i64 a0_0) := (zc1 BK161.out 0).trans rfl; have hcz23_1 : w22.cell? ⟨gb161, 1, none⟩ = some (.int .i64 a0_1) := (zc1 BK161.out 1).trans rfl; have hcz23_2 : w22.cell? ⟨gb161, 2, none⟩ = some (.int .i64 a0_2) := (zc1 BK161.out 2).trans rfl; have hcz23_3 : w22.cell? ⟨gb161, 3, none⟩ = some (.slice A0_3 l0_3.length c0_3) := (zc1 BK161.out 3).trans rfl; have hfz23_0 := zc5 BK161.out 0; have hfz23_1 := zc5 BK161.out 1; have hfz23_2 := zc5 BK161.out 2; have hfz23_3 := zc5 BK161.out 3) | (go_at_call 23; (with_reducible refine (remoraref06_head.calls a0_0 a0_1 a0_2 _ _ l0_3 t162 _ ?side1 ?side2 A2.out).mono ?_); (case side1 => repeat (first | exact (Kd.C_below HR0_3.out HB.out) | (with_reducible refine Kd.C_alloc ?_ _) | (with_reducible refine Kd.C_drewN ?_ _) | (with_reducible refine Kd.C_drew ?_))); (case side2 => exact HC0_3.out); rintro e w24 ⟨rfl, hb⟩; have n0_ := zA (zc6 (g := gb161) (o := .cells #[.int .i64 a0_0, .int .i64 a0_1, .int .i64 a0_2, .slice A0_3 l0_3.length c0_3] 24 (0, 0)) (by (with_reducible repeat (first | refine zc3 ?_ _ | refine zc4 ?_ | refine zc2 ?_ _)); exact BK161.out) hb); have n1_ := zA (zb5 (by repeat (first | (with_reducible first | exact HB.out | apply zb3 | apply zb1 | apply zb2 | refine zb4 ?_ GE161.out) | exact HB.out)) hb); clear BK161; clear HB; have BK161 := n0_; have HB := n1_; clear n0_ n1_; (try clear hb); (try clear hb2); (try clear hk); (try clear hi); have hcz25_0 : w24.cell? ⟨gb161, 0, none⟩ = some (.int .i64 a0_0) := (zc1 BK161.out 0).trans rfl; have hcz25_1 : w24.cell? ⟨gb161, 1, none⟩ = some (.int .i64 a0_1) := (zc1 BK161.out 1).trans rfl; have hcz25_2 : w24.cell? ⟨gb161, 2, none⟩ = some (.int .i64 a0_2) := (zc1 BK161.out 2).trans rfl; have hcz25_3 : w24.cell? ⟨gb161, 3, none⟩ = some (.slice A0_3 l0_3.length c0_3) := (zc1 BK161.out 3).trans rfl; have hfz25_0 := zc5 BK161.out 0; have hfz25_1 := zc5 BK161.out 1; have hfz25_2 := zc5 BK161.out 2; have hfz25_3 := zc5 BK161.out 3) | (go_at_call 24; (with_reducible refine (remoraref05_Count.calls k a0_0 a0_1 t163 _ A4.out).mono ?_); rintro e w' ⟨rfl, ⟨nd, rfl⟩⟩; (try first | exact ⟨rfl, _, World.drewN_drewN _ _ _⟩ | exact ⟨rfl, _, Eq.trans (World.drewN_drewN _ _ _) (congrArg (World.drewN _) (Nat.add_assoc _ _ _))⟩))))
   go_ret
   exact ⟨by first | rfl | (simp [*] <;> rfl), by repeat (first | (with_reducible first | exact HB.out | apply zb3 | apply zb1 | apply zb2 | refine zb4 ?_ GE161.out) | exact HB.out)⟩
 ·rw [if_neg c3] at H
  have c3b0 : (t162 == 0) = false := beq_eq_false_iff_ne.mpr c3
  have c3b1 : (t162 != 0) = true := bne_iff_ne.mpr c3
  obtain rfl := Option.some.inj H
  go_enter Try.func10, Try.ntmps10
  go_wp2_with (first | ((with_reducible refine gate_dst (N := 1) rfl ?_); refine box_event ?hg (N := 1) ?hd (cs := #[.int .i64 a0_0, .int .i64 a0_1, .int .i64 a0_2, .slice A0_3 l0_3.length c0_3]) (t := 24) ?hr ?_; (case hd => rfl); (case hg => rfl); (case hr => first | (go_simp; done) | (go_simp; rfl)); intro gb161 hg w26 hbox hb; have n0_ := zA (zb5 (by repeat (first | (with_reducible first | exact HB.out | apply zb3 | apply zb1 | apply zb2) | exact HB.out)) hb); have n1_ := zA (hbox); have n2_ := zA ((by rw [hg]; exact (zb6 (by repeat (first | (with_reducible first | exact HB.out | apply zb3 | apply zb1 | apply zb2) | exact HB.out))) : w.heap.size ≤ gb161)); have n3_ := zA ((by rw [hg]; exact (zb6 (by repeat (first | (with_reducible first | exact HB.out | apply zb3 | apply zb1 | apply zb2) | exact HB.out))) : w.heap.size ≤ gb161)); clear HB; have HB := n0_; have BK161 := n1_; have GW161 := n2_; have GE161 := n3_; clear n0_ n1_ n2_ n3_; clear hb hbox hg; have hcz27_0 : w26.cell? ⟨gb161, 0, none⟩ = some (.int .i64 a0_0) := (zc1 BK161.out 0).trans rfl; have hcz27_1 : w26.cell? ⟨gb161, 1, none⟩ = some (.int .i64 a0_1) := (zc1 BK161.out 1).trans rfl; have hcz27_2 : w26.cell? ⟨gb161, 2, none⟩ = some (.int .i64 a0_2) := (zc1 BK161.out 2).trans rfl; have hcz27_3 : w26.cell? ⟨gb161, 3, none⟩ = some (.slice A0_3 l0_3.length c0_3) := (zc1 BK161.out 3).trans rfl; have hfz27_0 := zc5 BK161.out 0; have hfz27_1 := zc5 BK161.out 1; have hfz27_2 := zc5 BK161.out 2; have hfz27_3 := zc5 BK161.out 3) | (go_at_call 23; (with_reducible refine (remoraref06_head.calls a0_0 a0_1 a0_2 _ _ l0_3 t162 _ ?side1 ?side2 A2.out).mono ?_); (case side1 => repeat (first | exact (Kd.C_below HR0_3.out HB.out) | (with_reducible refine Kd.C_alloc ?_ _) | (with_reducible refine Kd.C_drewN ?_ _) | (with_reducible refine Kd.C_drew ?_))); (case side2 => exact HC0_3.out); rintro e w28 ⟨rfl, hb⟩; have n0_ := zA (zc6 (g := gb161) (o := .cells #[.int .i64 a0_0, .int .i64 a0_1, .int .i64 a0_2, .slice A0_3 l0_3.length c0_3] 24 (0, 0)) (by (with_reducible repeat (first | refine zc3 ?_ _ | refine zc4 ?_ | refine zc2 ?_ _)); exact BK161.out) hb); have n1_ := zA (zb5 (by repeat (first | (with_reducible first | exact HB.out | apply zb3 | apply zb1 | apply zb2 | refine zb4 ?_ GE161.out) | exact HB.out)) hb); clear BK161; clear HB; have BK161 := n0_; have HB := n1_; clear n0_ n1_; (try clear hb); (try clear hb2); (try clear hk); (try clear hi)))
  repeat (go_quiet (first | ((with_reducible refine gate_dst (N := 1) rfl ?_); refine box_event ?hg (N := 1) ?hd (cs := #[.int .i64 a0_0, .int .i64 a0_1, .int .i64 a0_2, .slice A0_3 l0_3.length c0_3]) (t := 24) ?hr ?_; (case hd => rfl); (case hg => rfl); (case hr => first | (go_simp; done) | (go_simp; rfl)); intro gb161 hg w26 hbox hb; have n0_ := zA (zb5 (by repeat (first | (with_reducible first | exact HB.out | apply zb3 | apply zb1 | apply zb2) | exact HB.out)) hb); have n1_ := zA (hbox); have n2_ := zA ((by rw [hg]; exact (zb6 (by repeat (first | (with_reducible first | exact HB.out | apply zb3 | apply zb1 | apply zb2) | exact HB.out))) : w.heap.size ≤ gb161)); have n3_ := zA ((by rw [hg]; exact (zb6 (by repeat (first | (with_reducible first | exact HB.out | apply zb3 | apply zb1 | apply zb2) | exact HB.out))) : w.heap.size ≤ gb161)); clear HB; have HB := n0_; have BK161 := n1_; have GW161 := n2_; have GE161 := n3_; clear n0_ n1_ n2_ n3_; clear hb hbox hg; have hcz27_0 : w26.cell? ⟨gb161, 0, none⟩ = some (.int .i64 a0_0) := (zc1 BK161.out 0).trans rfl; have hcz27_1 : w26.cell? ⟨gb161, 1, none⟩ = some (.int .i64 a0_1) := (zc1 BK161.out 1).trans rfl; have hcz27_2 : w26.cell? ⟨gb161, 2, none⟩ = some (.int .i64 a0_2) := (zc1 BK161.out 2).trans rfl; have hcz27_3 : w26.cell? ⟨gb161, 3, none⟩ = some (.slice A0_3 l0_3.length c0_3) := (zc1 BK161.out 3).trans rfl; have hfz27_0 := zc5 BK161.out 0; have hfz27_1 := zc5 BK161.out 1; have hfz27_2 := zc5 BK161.out 2; have hfz27_3 := zc5 BK161.out 3) | (go_at_call 23; (with_reducible refine (remoraref06_head.calls a0_0 a0_1 a0_2 _ _ l0_3 t162 _ ?side1 ?side2 A2.out).mono ?_); (case side1 => repeat (first | exact (Kd.C_below HR0_3.out HB.out) | (with_reducible refine Kd.C_alloc ?_ _) | (with_reducible refine Kd.C_drewN ?_ _) | (with_reducible refine Kd.C_drew ?_))); (case side2 => exact HC0_3.out); rintro e w28 ⟨rfl, hb⟩; have n0_ := zA (zc6 (g := gb161) (o := .cells #[.int .i64 a0_0, .int .i64 a0_1, .int .i64 a0_2, .slice A0_3 l0_3.length c0_3] 24 (0, 0)) (by (with_reducible repeat (first | refine zc3 ?_ _ | refine zc4 ?_ | refine zc2 ?_ _)); exact BK161.out) hb); have n1_ := zA (zb5 (by repeat (first | (with_reducible first | exact HB.out | apply zb3 | apply zb1 | apply zb2 | refine zb4 ?_ GE161.out) | exact HB.out)) hb); clear BK161; clear HB; have BK161 := n0_; have HB := n1_; clear n0_ n1_; (try clear hb); (try clear hb2); (try clear hk); (try clear hi))); try go_wp2_with (first | ((with_reducible refine gate_dst (N := 1) rfl ?_); refine box_event ?hg (N := 1) ?hd (cs := #[.int .i64 a0_0, .int .i64 a0_1, .int .i64 a0_2, .slice A0_3 l0_3.length c0_3]) (t := 24) ?hr ?_; (case hd => rfl); (case hg => rfl); (case hr => first | (go_simp; done) | (go_simp; rfl)); intro gb161 hg w26 hbox hb; have n0_ := zA (zb5 (by repeat (first | (with_reducible first | exact HB.out | apply zb3 | apply zb1 | apply zb2) | exact HB.out)) hb); have n1_ := zA (hbox); have n2_ := zA ((by rw [hg]; exact (zb6 (by repeat (first | (with_reducible first | exact HB.out | apply zb3 | apply zb1 | apply zb2) | exact HB.out))) : w.heap.size ≤ gb161)); have n3_ := zA ((by rw [hg]; exact (zb6 (by repeat (first | (with_reducible first | exact HB.out | apply zb3 | apply zb1 | apply zb2) | exact HB.out))) : w.heap.size ≤ gb161)); clear HB; have HB := n0_; have BK161 := n1_; have GW161 := n2_; have GE161 := n3_; clear n0_ n1_ n2_ n3_; clear hb hbox hg; have hcz27_0 : w26.cell? ⟨gb161, 0, none⟩ = some (.int .i64 a0_0) := (zc1 BK161.out 0).trans rfl; have hcz27_1 : w26.cell? ⟨gb161, 1, none⟩ = some (.int .i64 a0_1) := (zc1 BK161.out 1).trans rfl; have hcz27_2 : w26.cell? ⟨gb161, 2, none⟩ = some (.int .i64 a0_2) := (zc1 BK161.out 2).trans rfl; have hcz27_3 : w26.cell? ⟨gb161, 3, none⟩ = some (.slice A0_3 l0_3.length c0_3) := (zc1 BK161.out 3).trans rfl; have hfz27_0 := zc5 BK161.out 0; have hfz27_1 := zc5 BK161.out 1; have hfz27_2 := zc5 BK161.out 2; have hfz27_3 := zc5 BK161.out 3) | (go_at_call 23; (with_reducible refine (remoraref06_head.calls a0_0 a0_1 a0_2 _ _ l0_3 t162 _ ?side1 ?side2 A2.out).mono ?_); (case side1 => repeat (first | exact (Kd.C_below HR0_3.out HB.out) | (with_reducible refine Kd.C_alloc ?_ _) | (with_reducible refine Kd.C_drewN ?_ _) | (with_reducible refine Kd.C_drew ?_))); (case side2 => exact HC0_3.out); rintro e w28 ⟨rfl, hb⟩; have n0_ := zA (zc6 (g := gb161) (o := .cells #[.int .i64 a0_0, .int .i64 a0_1, .int .i64 a0_2, .slice A0_3 l0_3.length c0_3] 24 (0, 0)) (by (with_reducible repeat (first | refine zc3 ?_ _ | refine zc4 ?_ | refine zc2 ?_ _)); exact BK161.out) hb); have n1_ := zA (zb5 (by repeat (first | (with_reducible first | exact HB.out | apply zb3 | apply zb1 | apply zb2 | refine zb4 ?_ GE161.out) | exact HB.out)) hb); clear BK161; clear HB; have BK161 := n0_; have HB := n1_; clear n0_ n1_; (try clear hb); (try clear hb2); (try clear hk); (try clear hi))))
  go_ret
  exact ⟨by first | rfl | (simp [*] <;> rfl), by repeat (first | (with_reducible first | exact HB.out | apply zb3 | apply zb1 | apply zb2 | refine zb4 ?_ GE161.out) | exact HB.out)⟩

end Go.Proofs.Ytkihlcmjjoiccaa.PMatchCosts
