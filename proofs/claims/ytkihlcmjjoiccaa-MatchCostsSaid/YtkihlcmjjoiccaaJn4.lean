/- The joiner's add, way by way. -/
import Derived.Test.YtkihlcmjjoiccaaJn1
import Derived.Test.YtkihlcmjjoiccaaRq
namespace Go.Proofs.Ytkihlcmjjoiccaa.Jn
open Go.RowKit Go.Proofs.YtkihlcmjjoiccaaW.PrintWords Go.Proofs.YtkihlcmjjoiccaaW.PrintLast Go.Proofs.YtkihlcmjjoiccaaW.PrintMore
set_option linter.unusedVariables false
set_option linter.unusedSimpArgs false
set_option maxHeartbeats 16000000 in
set_option maxRecDepth 100000 in
theorem add_C7 (base : Nat) (ok : Nat → Prop) (g : Nat) (a b : Int) (A : Option Addr) (c : Nat) (l : List Int) (w : World) (v : Value) (xs : List T3) (hr : (Kd.int .u8).C w A l.length l) (hc : l.length ≤ c)
  (hg : w.heap[g]? = some (.cells #[v] 34 (0, 0))) (hS : Kd.S kJ 47 w base ok v xs) (hbase : base ≤ w.heap.size) (hfresh : ∀ k, w.heap.size ≤ k → ok k) (hng : ¬ ok g) (hx : (xs.length + 1) * 40 ≤ 140737488355328) (hbg : base ≤ g) (hb : 0 < b) (hl : l = []) (ys : List T3) (p : T3) (gr cap m : Nat) (hm : ys.length = m) (hv : v = .slice (some ⟨gr, 0, none⟩) (m + 1) cap) (hxs : xs = ys ++ [p]) (ht : p.2.2.length = 0) (q1 : b ≤ 131072) (q2 : 0 ≤ p.1) (q3 : p.1 ≤ 131072) (q4 : p.2.1 ≤ wrap64 (131072 - p.1)) (q5 : ¬ (wrap64 (p.1 + p.2.1) = a)) :
  Calls Try.prog 52 #[.agg #[.int .i64 a, .int .i64 b, .slice A l.length c], .pointer (some ⟨g, 0, none⟩)] w fun e w' => e = .returned (.tuple #[]) ∧ Box base ok g w' (xs ++ [(a, b, l)]) ∧ Kept w w' (fun k => ok k ∨ k = g) ∧ Below base w w' := by
 have HB := Aside0.mk (Below.refl w.heap.size w)
 have BG := Aside0.mk hg
 have hg0 : w.cell? ⟨g, 0, none⟩ = some v := (blk_cell hg 0).trans rfl
 have HR := Aside0.mk hr
 have HC := Aside0.mk hc
 have HX := Aside0.mk hx
 have HF := Aside0.mk hfresh
 have HG := Aside0.mk hng
 have HK := Aside0.mk hbase
 have HS := Aside0.mk (Kd.S_mono (ok' := fun k => ok k ∧ k < w.heap.size) (Kd.S_bound hS) (fun k h => ⟨h.1, h.2.2.1⟩))
 have HGB := Aside0.mk hbg
 subst hv
 subst hxs
 obtain ⟨oki, c3, hcl, hM, hcc, hoki, HH0⟩ := Kd.S_lend HS.out p (m : Int) (by omega) (by omega)
 have hgetD : (ys ++ [p]).getD ((m : Int)).toNat p = p := by subst hm; simp
 rw [hgetD] at hM
 obtain ⟨vd, hc3, hd⟩ := kJ_openM hM
 obtain ⟨Ad, cd, hvd, hcd, hCd⟩ : ∃ Ad cd, vd = .slice Ad p.2.2.length cd ∧ p.2.2.length ≤ cd ∧ (Kd.int .u8).C w Ad p.2.2.length p.2.2 := by
  obtain ⟨A_, c_, he, h1, h2⟩ := kJ_open (kJ.K_of_M hM)
  rw [hc3] at he
  exact ⟨A_, c_, (by injection he with _ he; injection he with _ he; injection he), h1, h2⟩
 subst hvd
 subst hc3
 have hp0 : w.cell? ⟨gr, m * 3, none⟩ = some (.int .i64 p.1) := hcc 0 _ rfl
 have hp1 : w.cell? ⟨gr, m * 3 + 1, none⟩ = some (.int .i64 p.2.1) := hcc 1 _ rfl
 have hp2 : w.cell? ⟨gr, m * 3 + 2, none⟩ = some (.slice Ad p.2.2.length cd) := hcc 2 _ rfl
 have HD := Aside0.mk hM
 have HH := Aside0.mk HH0
 have HO := Aside0.mk hoki
 have HDD := Aside0.mk hd
 have HCD := Aside0.mk hcd
 have HRD := Aside0.mk hCd
 have hw1 : wrap64 (m : Int) = (m : Int) := by
  have := HX.out
  rw [List.length_append] at this
  simp at this
  unfold wrap64
  omega
 have hw2 : decide ((m : Int) ≥ 0) = true := by simp
 have hw3 : decide (0 ≤ (m : Int)) = true := by simp
 have hw4 : decide ((m : Int) < ((m + 1 : Nat) : Int)) = true := by simp; omega
 have HM := Aside0.mk hm
 clear hcl hcc hoki HH0 hgetD hM hd hcd hCd hm
 have HE := Aside0.mk hl
 have HL := Aside0.mk (show delta_length.f a b l = some b by rw [hl]; simp [delta_length.f, delta_told.f, mx]; omega)
 have HT := Aside0.mk (show delta_told.f a b l = some false by rw [hl]; simp [delta_told.f])
 have hz : (b == 0) = false := by simp; omega
 have HTP := Aside0.mk (show delta_told.f p.1 p.2.1 p.2.2 = some false by rw [List.eq_nil_of_length_eq_zero ht]; simp [delta_told.f])
 have q1_0 : decide (b ≤ 131072) = true := decide_eq_true q1
 have q2_0 : decide (p.1 ≥ 0) = true := decide_eq_true q2
 have q2_1 : decide (0 ≤ p.1) = true := decide_eq_true q2
 have q3_0 : decide (p.1 ≤ 131072) = true := decide_eq_true q3
 have q4_0 : decide (p.2.1 ≤ wrap64 (131072 - p.1)) = true := decide_eq_true q4
 have q5_0 : (wrap64 (p.1 + p.2.1) == a) = false := by simpa using q5
 clear hr hc hx hfresh hng hbase hS hg hbg
 clear hl hb ht q1 q2 q3 q4 q5
 go_enter Try.func52, Try.ntmps52
 go_wp2_with (first | ((with_reducible refine gate_dst (N := 2) rfl ?_); refine box_event ?hg (N := 2) ?hd (cs := #[.int .i64 a, .int .i64 b, .slice A l.length c]) (t := 47) ?hr ?_; (case hd => rfl); (case hg => rfl); (case hr => first | (go_simp; done) | (go_simp; rfl)); intro gb hgb w2 hbox hb; replace BG := Aside0.mk (blk_below BG.out hb); replace HB := Aside0.mk (below_step HB.out hb); replace HR := Aside0.mk (Kd.C_below HR.out hb); replace HS := Aside0.mk (Kd.S_below HS.out hb); replace hg0 := cellB hb hg0; replace HH := Aside0.mk (Kd.H_below HH.out hb); replace HD := Aside0.mk (kJM_below HD.out hb); (replace HRD := Aside0.mk (Kd.C_below HRD.out hb)); replace hp0 := cellB hb hp0; replace hp1 := cellB hb hp1; replace hp2 := cellB hb hp2; have BO := Aside0.mk hbox; have ho0 : w2.cell? ⟨gb, 0, none⟩ = some (.int .i64 a) := (blk_cell hbox 0).trans rfl; have ho1 : w2.cell? ⟨gb, 1, none⟩ = some (.int .i64 b) := (blk_cell hbox 1).trans rfl; have ho2 : w2.cell? ⟨gb, 2, none⟩ = some (.slice A l.length c) := (blk_cell hbox 2).trans rfl; have HGW := Aside0.mk hgb; clear hbox hb hgb) | ((with_reducible refine gate_dst (N := 6) rfl ?_); (with_reducible refine gate_callee (f := 39) rfl ?_); (try (refine gate_guard (by rfl) ?_; dsimp only)); refine goesL_ (some 6) rfl rfl Try.func39 (by kernel_rfl) rfl #[.agg #[.int .i64 a, .int .i64 b, .slice A l.length c]] rfl (by (try simp only [List.map_toArray, List.map_cons, List.map_nil]); first | done | rfl | (go_simp; done) | (go_simp; rfl)) ?_; (with_reducible refine (delta_length.calls a b _ _ l b _ ?side1 ?side2 HL.out).mono ?_); (case side1 => exact HR.out); (case side2 => exact HC.out); rintro e w' ⟨rfl, hb⟩; refine ⟨_, rfl, ?_⟩; replace BG := Aside0.mk (blk_below BG.out hb); replace BO := Aside0.mk (blk_below BO.out hb); replace HB := Aside0.mk (below_step HB.out hb); replace HR := Aside0.mk (Kd.C_below HR.out hb); replace HS := Aside0.mk (Kd.S_below HS.out hb); replace hg0 := cellB hb hg0; replace ho0 := cellB hb ho0; replace ho1 := cellB hb ho1; replace ho2 := cellB hb ho2; replace HH := Aside0.mk (Kd.H_below HH.out hb); replace HD := Aside0.mk (kJM_below HD.out hb); replace hp0 := cellB hb hp0; replace hp1 := cellB hb hp1; replace hp2 := cellB hb hp2; (replace HRD := Aside0.mk (Kd.C_below HRD.out hb)); clear hb) | ((with_reducible refine gate_dst (N := 9) rfl ?_); (with_reducible refine gate_callee (f := 38) rfl ?_); (try (refine gate_guard (by rfl) ?_; dsimp only)); refine goesL_ (some 9) rfl rfl Try.func38 (by kernel_rfl) rfl #[.agg #[.int .i64 a, .int .i64 b, .slice A l.length c]] rfl (by (try simp only [List.map_toArray, List.map_cons, List.map_nil]); first | done | rfl | (go_simp; done) | (go_simp; rfl)) ?_; (with_reducible refine (delta_told.calls a b _ _ l false _ ?side1 ?side2 HT.out).mono ?_); (case side1 => exact HR.out); (case side2 => exact HC.out); rintro e w' ⟨rfl, hb⟩; refine ⟨_, rfl, ?_⟩; replace BG := Aside0.mk (blk_below BG.out hb); replace BO := Aside0.mk (blk_below BO.out hb); replace HB := Aside0.mk (below_step HB.out hb); replace HR := Aside0.mk (Kd.C_below HR.out hb); replace HS := Aside0.mk (Kd.S_below HS.out hb); replace hg0 := cellB hb hg0; replace ho0 := cellB hb ho0; replace ho1 := cellB hb ho1; replace ho2 := cellB hb ho2; replace HH := Aside0.mk (Kd.H_below HH.out hb); replace HD := Aside0.mk (kJM_below HD.out hb); replace hp0 := cellB hb hp0; replace hp1 := cellB hb hp1; replace hp2 := cellB hb hp2; (replace HRD := Aside0.mk (Kd.C_below HRD.out hb)); clear hb) | ((with_reducible refine gate_dst (N := 25) rfl ?_); (with_reducible refine gate_callee (f := 38) rfl ?_); (try (refine gate_guard (by rfl) ?_; dsimp only)); refine goesL_ (some 25) rfl rfl Try.func38 (by kernel_rfl) rfl #[.agg #[.int .i64 p.1, .int .i64 p.2.1, .slice Ad p.2.2.length cd]] rfl (by (try simp only [List.map_toArray, List.map_cons, List.map_nil]); first | done | rfl | (go_simp; done) | (go_simp; rfl)) ?_; (with_reducible refine (delta_told.calls p.1 p.2.1 _ _ p.2.2 false _ ?side1 ?side2 HTP.out).mono ?_); (case side1 => exact HRD.out); (case side2 => exact HCD.out); rintro e w' ⟨rfl, hb⟩; refine ⟨_, rfl, ?_⟩; replace BG := Aside0.mk (blk_below BG.out hb); replace BO := Aside0.mk (blk_below BO.out hb); replace HB := Aside0.mk (below_step HB.out hb); replace HR := Aside0.mk (Kd.C_below HR.out hb); replace HS := Aside0.mk (Kd.S_below HS.out hb); replace hg0 := cellB hb hg0; replace ho0 := cellB hb ho0; replace ho1 := cellB hb ho1; replace ho2 := cellB hb ho2; replace HH := Aside0.mk (Kd.H_below HH.out hb); replace HD := Aside0.mk (kJM_below HD.out hb); replace hp0 := cellB hb hp0; replace hp1 := cellB hb hp1; replace hp2 := cellB hb hp2; (replace HRD := Aside0.mk (Kd.C_below HRD.out hb)); clear hb) | ((with_reducible refine gate_dst (N := 28) rfl ?_); (with_reducible refine gate_callee (f := 38) rfl ?_); (try (refine gate_guard (by rfl) ?_; dsimp only)); refine goesL_ (some 28) rfl rfl Try.func38 (by kernel_rfl) rfl #[.agg #[.int .i64 a, .int .i64 b, .slice A l.length c]] rfl (by (try simp only [List.map_toArray, List.map_cons, List.map_nil]); first | done | rfl | (go_simp; done) | (go_simp; rfl)) ?_; (with_reducible refine (delta_told.calls a b _ _ l false _ ?side1 ?side2 HT.out).mono ?_); (case side1 => exact HR.out); (case side2 => exact HC.out); rintro e w' ⟨rfl, hb⟩; refine ⟨_, rfl, ?_⟩; replace BG := Aside0.mk (blk_below BG.out hb); replace BO := Aside0.mk (blk_below BO.out hb); replace HB := Aside0.mk (below_step HB.out hb); replace HR := Aside0.mk (Kd.C_below HR.out hb); replace HS := Aside0.mk (Kd.S_below HS.out hb); replace hg0 := cellB hb hg0; replace ho0 := cellB hb ho0; replace ho1 := cellB hb ho1; replace ho2 := cellB hb ho2; replace HH := Aside0.mk (Kd.H_below HH.out hb); replace HD := Aside0.mk (kJM_below HD.out hb); replace hp0 := cellB hb hp0; replace hp1 := cellB hb hp1; replace hp2 := cellB hb hp2; (replace HRD := Aside0.mk (Kd.C_below HRD.out hb)); clear hb))
 have hb := below_drew (Below.refl w'.heap.size w')
 replace BG := Aside0.mk (blk_below BG.out hb); replace BO := Aside0.mk (blk_below BO.out hb); replace HB := Aside0.mk (below_step HB.out hb); replace HR := Aside0.mk (Kd.C_below HR.out hb); replace HS := Aside0.mk (Kd.S_below HS.out hb); replace hg0 := cellB hb hg0; replace ho0 := cellB hb ho0; replace ho1 := cellB hb ho1; replace ho2 := cellB hb ho2; replace HH := Aside0.mk (Kd.H_below HH.out hb); replace HD := Aside0.mk (kJM_below HD.out hb); replace hp0 := cellB hb hp0; replace hp1 := cellB hb hp1; replace hp2 := cellB hb hp2; (replace HRD := Aside0.mk (Kd.C_below HRD.out hb)); clear hb
 refine start_ (n := 55) (S := (fun W => (W.cell? ⟨gr, m * 3, none⟩ = some (.int .i64 p.1) ∧ W.cell? ⟨gr, m * 3 + 1, none⟩ = some (.int .i64 p.2.1) ∧ W.cell? ⟨gr, m * 3 + 2, none⟩ = some (.slice Ad p.2.2.length cd)) ∧ W.cell? ⟨gb, 0, none⟩ = some (.int .i64 a) ∧ W.cell? ⟨gb, 1, none⟩ = some (.int .i64 b) ∧ W.cell? ⟨gb, 2, none⟩ = some (.slice A l.length c))) (ds := []) (qq 55 0) (by kernel_rfl) rfl (by kernel_rfl) ⟨⟨hp0, hp1, hp2⟩, ho0, ho1, ho2⟩ (fun hHeld => ?_)
 refine with_tabW add.tab9 add.bits9 (fun HT_ HW_ => ?_)
 generalize w'.drew = w9 at BG BO HB HR HS hg0 ho0 ho1 ho2 HH HD HRD hp0 hp1 hp2 hHeld ⊢
 refine ord_ [(0, 0, 1), (0, 1, 3), (1, 2, 7)] ?_
 repeat (first | (refine kk_ 0 ?_; refine oP_ (v := ?_) (a' := ?_) HT_ rfl rfl (by kernel_rfl) (fun _ _ _ h => h) (Or.inl ⟨by rfl, ?_⟩) ?_ ?_; rotate_left; (intro w'; go_simp; with_reducible rfl); rotate_left; (simp only [Act.put, s1, s2, s3, i64_w, i32_w]; rfl)) | (refine kk_ 1 ?_; refine oT_ (v := ?_) (a' := ?_) HT_ HW_ rfl rfl (by kernel_rfl) (fun _ _ _ h => h) (Or.inl ⟨by rfl, ?_⟩) hHeld ?_ ?_; rotate_left; (rintro w' ⟨⟨s0, s1, s2⟩, s3, s4, s5⟩; go_simp; with_reducible rfl); rotate_left; (simp only [Act.put, s1, s2, s3, i64_w, i32_w]; rfl)))
 refine oend_ ?_
 refine one_ (i := 3) (N := some 43) (qq 55 15) rfl rfl (one_of HT_.out (by kernel_rfl)) (by decide) (fun K hK => ?_)
 refine goes_ Try.func38 (by kernel_rfl) rfl #[.agg #[.int .i64 p.1, .int .i64 p.2.1, .slice Ad p.2.2.length cd]] (by rfl) rfl rfl (by (try simp only [List.map_toArray, List.map_cons, List.map_nil]); first | done | rfl) ?_
 refine (delta_told.calls p.1 p.2.1 _ _ p.2.2 false _ ?side1 ?side2 HTP.out).mono ?_
 (case side1 => exact HRD.out)
 (case side2 => exact HCD.out)
 rintro e w' ⟨rfl, hb⟩
 refine ⟨_, rfl, ?_⟩
 replace BG := Aside0.mk (blk_below BG.out hb); replace BO := Aside0.mk (blk_below BO.out hb); replace HB := Aside0.mk (below_step HB.out hb); replace HR := Aside0.mk (Kd.C_below HR.out hb); replace HS := Aside0.mk (Kd.S_below HS.out hb); replace hg0 := cellB hb hg0; replace ho0 := cellB hb ho0; replace ho1 := cellB hb ho1; replace ho2 := cellB hb ho2; replace HH := Aside0.mk (Kd.H_below HH.out hb); replace HD := Aside0.mk (kJM_below HD.out hb); replace hp0 := cellB hb hp0; replace hp1 := cellB hb hp1; replace hp2 := cellB hb hp2; (replace HRD := Aside0.mk (Kd.C_below HRD.out hb)); clear hb
 refine hK.out _ _ ⟨⟨hp0, hp1, hp2⟩, ho0, ho1, ho2⟩ (fun hHeld => ?_)
 clear hK K
 refine norm_ (a' := ?_) ?_ ?_
 rotate_left
 ·show Act.put _ (some 43) _ = _
  simp only [Act.put, s1, s2, s3, i64_w, i32_w]
  rfl
 refine ord_ [(0, 4, 31), (0, 5, 63), (1, 6, 127)] ?_
 repeat (first | (refine kk_ 0 ?_; refine oP_ (v := ?_) (a' := ?_) HT_ rfl rfl (by kernel_rfl) (fun _ _ _ h => h) (Or.inl ⟨by rfl, ?_⟩) ?_ ?_; rotate_left; (intro w'; go_simp; with_reducible rfl); rotate_left; (simp only [Act.put, s1, s2, s3, i64_w, i32_w]; rfl)) | (refine kk_ 1 ?_; refine oT_ (v := ?_) (a' := ?_) HT_ HW_ rfl rfl (by kernel_rfl) (fun _ _ _ h => h) (Or.inl ⟨by rfl, ?_⟩) hHeld ?_ ?_; rotate_left; (rintro w' ⟨⟨s0, s1, s2⟩, s3, s4, s5⟩; go_simp; with_reducible rfl); rotate_left; (simp only [Act.put, s1, s2, s3, i64_w, i32_w]; rfl)))
 refine oend_ ?_
 refine one_ (i := 7) (N := some 47) (qq 55 255) rfl rfl (one_of HT_.out (by kernel_rfl)) (by decide) (fun K hK => ?_)
 refine goes_ Try.func38 (by kernel_rfl) rfl #[.agg #[.int .i64 a, .int .i64 b, .slice A l.length c]] (by rfl) rfl rfl (by (try simp only [List.map_toArray, List.map_cons, List.map_nil]); first | done | rfl) ?_
 refine (delta_told.calls a b _ _ l false _ ?side1 ?side2 HT.out).mono ?_
 (case side1 => exact HR.out)
 (case side2 => exact HC.out)
 rintro e w' ⟨rfl, hb⟩
 refine ⟨_, rfl, ?_⟩
 replace BG := Aside0.mk (blk_below BG.out hb); replace BO := Aside0.mk (blk_below BO.out hb); replace HB := Aside0.mk (below_step HB.out hb); replace HR := Aside0.mk (Kd.C_below HR.out hb); replace HS := Aside0.mk (Kd.S_below HS.out hb); replace hg0 := cellB hb hg0; replace ho0 := cellB hb ho0; replace ho1 := cellB hb ho1; replace ho2 := cellB hb ho2; replace HH := Aside0.mk (Kd.H_below HH.out hb); replace HD := Aside0.mk (kJM_below HD.out hb); replace hp0 := cellB hb hp0; replace hp1 := cellB hb hp1; replace hp2 := cellB hb hp2; (replace HRD := Aside0.mk (Kd.C_below HRD.out hb)); clear hb
 refine hK.out _ _ ⟨⟨hp0, hp1, hp2⟩, ho0, ho1, ho2⟩ (fun hHeld => ?_)
 clear hK K
 refine norm_ (a' := ?_) ?_ ?_
 rotate_left
 ·show Act.put _ (some 47) _ = _
  simp only [Act.put, s1, s2, s3, i64_w, i32_w]
  rfl
 refine ord_ [(0, 8, 511), (0, 9, 1023), (0, 10, 2047), (0, 11, 4095), (1, 12, 8191), (0, 13, 16383), (0, 14, 32767), (0, 15, 65535), (0, 16, 131071), (0, 17, 262143), (0, 18, 524287), (1, 19, 1048575), (0, 20, 2097151), (0, 21, 4194303), (0, 22, 8388607), (0, 23, 16777215), (0, 24, 33554431), (0, 25, 67108863), (1, 26, 134217727), (0, 27, 268435455), (0, 28, 536870911), (0, 29, 1073741823), (0, 30, 2147483647), (0, 31, 4294967295), (0, 32, 8589934591), (1, 33, 17179869183), (0, 34, 34359738367), (0, 35, 68719476735), (0, 36, 137438953471), (1, 37, 274877906943), (0, 38, 549755813887), (0, 39, 1099511627775), (0, 40, 2199023255551), (0, 41, 4398046511103), (0, 42, 8796093022207), (0, 43, 17592186044415), (0, 44, 35184372088831), (1, 45, 70368744177663), (0, 46, 140737488355327), (0, 47, 281474976710655), (0, 48, 562949953421311), (1, 49, 1125899906842623), (0, 50, 2251799813685247), (0, 51, 4503599627370495), (1, 52, 9007199254740991), (0, 53, 18014398509481983), (0, 54, 36028797018963967)] ?_
 repeat (first | (refine kk_ 0 ?_; refine oP_ (v := ?_) (a' := ?_) HT_ rfl rfl (by kernel_rfl) (fun _ _ _ h => h) (Or.inl ⟨by rfl, ?_⟩) ?_ ?_; rotate_left; (intro w'; go_simp; with_reducible rfl); rotate_left; (simp only [Act.put, s1, s2, s3, i64_w, i32_w]; rfl)) | (refine kk_ 1 ?_; refine oT_ (v := ?_) (a' := ?_) HT_ HW_ rfl rfl (by kernel_rfl) (fun _ _ _ h => h) (Or.inl ⟨by rfl, ?_⟩) hHeld ?_ ?_; rotate_left; (rintro w' ⟨⟨s0, s1, s2⟩, s3, s4, s5⟩; go_simp; with_reducible rfl); rotate_left; (simp only [Act.put, s1, s2, s3, i64_w, i32_w]; rfl)))
 refine oend_ ?_
 refine done_ (done_of HT_.out (by kernel_rfl)) ?_
 go_wp2_with (first | ((with_reducible refine gate_dst (N := 107) rfl ?_); (with_reducible refine gate_builtin (b := .append) (xs := #[.tmp 104, .tmp 106]) rfl ?_); at_builtin; refine Kd.S_append kJ (w0 := w) base rfl (.tmp 104) (.tmp 106) 34 47 (.agg #[(.int .i64 0), (.int .i64 0), (.slice none 0 0)]) 40 rfl Try.underlying34 info47 rfl (by decide) (by omega) (.slice (some ⟨gr, 0, none⟩) (m + 1) cap) (ys ++ [p]) (a, b, l) [.int .i64 a, .int .i64 b, .slice A l.length c] ok (fun _ => False) rfl rfl ?aP ?aQ ?aF ?aO ?aB ?aS ?aL ?_; (case aP => exact kJ_mk0' HE.out _ _ _ _ _ _ _); (case aQ => exact fun k hk => hk.elim); (case aF => exact fun k hk => HF.out k (Nat.le_trans HB.out.size hk)); (case aO => exact Kd.S_mono HS.out (fun k hk => ⟨hk.1, fun h => h⟩)); (case aB => exact belowLe HB.out HK.out); (case aS => exact Nat.le_trans HK.out HB.out.size); (case aL => exact HX.out); intro v1 w1 hs1 hb1 hg1 hat; replace BG := Aside0.mk (blk_grown BG.out hg1 (Kd.S_away HS.out (fun k hk e => HG.out (e ▸ hk.1)))); have HB1 := Aside0.mk hb1; have HS1 := Aside0.mk hs1; have HKp := Aside0.mk (Kept.of_grown hg1 (Kept.of_below HB.out (fun k => ok k ∨ k = g)) (fun k hk => .inl (.inl ((Kd.S_R HS.out).1 k hk).1))); replace ho0 := trivial; replace ho1 := trivial; replace ho2 := trivial; replace hg0 := trivial; clear hat hb1 hs1 hg1) | (refine store_event rfl rfl 34 (.tmp 1) (.tmp 107) rfl (g := g) (j := 0) (e := 34) (cs := #[(.slice (some ⟨gr, 0, none⟩) (m + 1) cap)]) (cs' := #[v1]) (u := v1) (seg := [v1]) rfl rfl ?sv inf34 ?so BG.out (Nat.le_refl _) ?sc ?_; (case sv => exact (Kd.R_val (Kd.S_R HS1.out)).1); (case so => intro q hq; rw [List.mem_singleton.1 hq]; exact (Kd.R_val (Kd.S_R HS1.out)).2); (case sc => exact blk_put BG.out 0 v1 rfl); intro w2 hb2 hg2; have BG2 := Aside0.mk hb2; have HS2 := Aside0.mk (Kd.S_grown HS1.out hg2 (fun k hk e => HG.out (by injection e with e; exact e ▸ hk))); have HB2 := Aside0.mk (belowG HB1.out hg2 (Nat.le_trans HK.out (HB1.out.size)) (fun k hk => by injection hk with hk; rw [← hk]; exact HGB.out)); have HKp2 := Aside0.mk (Kept.of_grown hg2 HKp.out (fun k hk => by injection hk with hk; exact .inl (.inr hk.symm))); clear hb2 hg2))
 go_end0
 exact ⟨rfl, ⟨⟨_, BG2.out, (by simpa using HS2.out), fun h => absurd h (by simp)⟩⟩, HKp2.out, HB2.out⟩

set_option maxHeartbeats 16000000 in
set_option maxRecDepth 100000 in
theorem add_C8 (base : Nat) (ok : Nat → Prop) (g : Nat) (a b : Int) (A : Option Addr) (c : Nat) (l : List Int) (w : World) (v : Value) (xs : List T3) (hr : (Kd.int .u8).C w A l.length l) (hc : l.length ≤ c)
  (hg : w.heap[g]? = some (.cells #[v] 34 (0, 0))) (hS : Kd.S kJ 47 w base ok v xs) (hbase : base ≤ w.heap.size) (hfresh : ∀ k, w.heap.size ≤ k → ok k) (hng : ¬ ok g) (hx : (xs.length + 1) * 40 ≤ 140737488355328) (hbg : base ≤ g) (hb : 0 < b) (hl : l = []) (ys : List T3) (p : T3) (gr cap m : Nat) (hm : ys.length = m) (hv : v = .slice (some ⟨gr, 0, none⟩) (m + 1) cap) (hxs : xs = ys ++ [p]) (ht : p.2.2.length = 0) (q1 : b ≤ 131072) (q2 : 0 ≤ p.1) (q3 : p.1 ≤ 131072) (q4 : p.2.1 ≤ wrap64 (131072 - p.1)) (q5 : wrap64 (p.1 + p.2.1) = a) :
  Calls Try.prog 52 #[.agg #[.int .i64 a, .int .i64 b, .slice A l.length c], .pointer (some ⟨g, 0, none⟩)] w fun e w' => e = .returned (.tuple #[]) ∧ Box base ok g w' (ys ++ [(p.1, wrap64 (p.2.1 + b), p.2.2)]) ∧ Kept w w' (fun k => ok k ∨ k = g) ∧ Below base w w' := by
 have HB := Aside0.mk (Below.refl w.heap.size w)
 have BG := Aside0.mk hg
 have hg0 : w.cell? ⟨g, 0, none⟩ = some v := (blk_cell hg 0).trans rfl
 have HR := Aside0.mk hr
 have HC := Aside0.mk hc
 have HX := Aside0.mk hx
 have HF := Aside0.mk hfresh
 have HG := Aside0.mk hng
 have HK := Aside0.mk hbase
 have HS := Aside0.mk (Kd.S_mono (ok' := fun k => ok k ∧ k < w.heap.size) (Kd.S_bound hS) (fun k h => ⟨h.1, h.2.2.1⟩))
 have HGB := Aside0.mk hbg
 subst hv
 subst hxs
 obtain ⟨oki, c3, hcl, hM, hcc, hoki, HH0⟩ := Kd.S_lend HS.out p (m : Int) (by omega) (by omega)
 have hgetD : (ys ++ [p]).getD ((m : Int)).toNat p = p := by subst hm; simp
 rw [hgetD] at hM
 obtain ⟨vd, hc3, hd⟩ := kJ_openM hM
 obtain ⟨Ad, cd, hvd, hcd, hCd⟩ : ∃ Ad cd, vd = .slice Ad p.2.2.length cd ∧ p.2.2.length ≤ cd ∧ (Kd.int .u8).C w Ad p.2.2.length p.2.2 := by
  obtain ⟨A_, c_, he, h1, h2⟩ := kJ_open (kJ.K_of_M hM)
  rw [hc3] at he
  exact ⟨A_, c_, (by injection he with _ he; injection he with _ he; injection he), h1, h2⟩
 subst hvd
 subst hc3
 have hp0 : w.cell? ⟨gr, m * 3, none⟩ = some (.int .i64 p.1) := hcc 0 _ rfl
 have hp1 : w.cell? ⟨gr, m * 3 + 1, none⟩ = some (.int .i64 p.2.1) := hcc 1 _ rfl
 have hp2 : w.cell? ⟨gr, m * 3 + 2, none⟩ = some (.slice Ad p.2.2.length cd) := hcc 2 _ rfl
 have HD := Aside0.mk hM
 have HH := Aside0.mk HH0
 have HO := Aside0.mk hoki
 have HDD := Aside0.mk hd
 have HCD := Aside0.mk hcd
 have HRD := Aside0.mk hCd
 have hw1 : wrap64 (m : Int) = (m : Int) := by
  have := HX.out
  rw [List.length_append] at this
  simp at this
  unfold wrap64
  omega
 have hw2 : decide ((m : Int) ≥ 0) = true := by simp
 have hw3 : decide (0 ≤ (m : Int)) = true := by simp
 have hw4 : decide ((m : Int) < ((m + 1 : Nat) : Int)) = true := by simp; omega
 have HM := Aside0.mk hm
 clear hcl hcc hoki HH0 hgetD hM hd hcd hCd hm
 have HE := Aside0.mk hl
 have HL := Aside0.mk (show delta_length.f a b l = some b by rw [hl]; simp [delta_length.f, delta_told.f, mx]; omega)
 have HT := Aside0.mk (show delta_told.f a b l = some false by rw [hl]; simp [delta_told.f])
 have hz : (b == 0) = false := by simp; omega
 have HTP := Aside0.mk (show delta_told.f p.1 p.2.1 p.2.2 = some false by rw [List.eq_nil_of_length_eq_zero ht]; simp [delta_told.f])
 have q1_0 : decide (b ≤ 131072) = true := decide_eq_true q1
 have q2_0 : decide (p.1 ≥ 0) = true := decide_eq_true q2
 have q2_1 : decide (0 ≤ p.1) = true := decide_eq_true q2
 have q3_0 : decide (p.1 ≤ 131072) = true := decide_eq_true q3
 have q4_0 : decide (p.2.1 ≤ wrap64 (131072 - p.1)) = true := decide_eq_true q4
 have q5_0 : (wrap64 (p.1 + p.2.1) == a) = true := by simpa using q5
 clear hr hc hx hfresh hng hbase hS hg hbg
 clear hl hb ht q1 q2 q3 q4 q5
 go_enter Try.func52, Try.ntmps52
 go_wp2_with (first | ((with_reducible refine gate_dst (N := 2) rfl ?_); refine box_event ?hg (N := 2) ?hd (cs := #[.int .i64 a, .int .i64 b, .slice A l.length c]) (t := 47) ?hr ?_; (case hd => rfl); (case hg => rfl); (case hr => first | (go_simp; done) | (go_simp; rfl)); intro gb hgb w2 hbox hb; replace BG := Aside0.mk (blk_below BG.out hb); replace HB := Aside0.mk (below_step HB.out hb); replace HR := Aside0.mk (Kd.C_below HR.out hb); replace HS := Aside0.mk (Kd.S_below HS.out hb); replace hg0 := cellB hb hg0; replace HH := Aside0.mk (Kd.H_below HH.out hb); replace HD := Aside0.mk (kJM_below HD.out hb); (replace HRD := Aside0.mk (Kd.C_below HRD.out hb)); replace hp0 := cellB hb hp0; replace hp1 := cellB hb hp1; replace hp2 := cellB hb hp2; have BO := Aside0.mk hbox; have ho0 : w2.cell? ⟨gb, 0, none⟩ = some (.int .i64 a) := (blk_cell hbox 0).trans rfl; have ho1 : w2.cell? ⟨gb, 1, none⟩ = some (.int .i64 b) := (blk_cell hbox 1).trans rfl; have ho2 : w2.cell? ⟨gb, 2, none⟩ = some (.slice A l.length c) := (blk_cell hbox 2).trans rfl; have HGW := Aside0.mk hgb; clear hbox hb hgb) | ((with_reducible refine gate_dst (N := 6) rfl ?_); (with_reducible refine gate_callee (f := 39) rfl ?_); (try (refine gate_guard (by rfl) ?_; dsimp only)); refine goesL_ (some 6) rfl rfl Try.func39 (by kernel_rfl) rfl #[.agg #[.int .i64 a, .int .i64 b, .slice A l.length c]] rfl (by (try simp only [List.map_toArray, List.map_cons, List.map_nil]); first | done | rfl | (go_simp; done) | (go_simp; rfl)) ?_; (with_reducible refine (delta_length.calls a b _ _ l b _ ?side1 ?side2 HL.out).mono ?_); (case side1 => exact HR.out); (case side2 => exact HC.out); rintro e w' ⟨rfl, hb⟩; refine ⟨_, rfl, ?_⟩; replace BG := Aside0.mk (blk_below BG.out hb); replace BO := Aside0.mk (blk_below BO.out hb); replace HB := Aside0.mk (below_step HB.out hb); replace HR := Aside0.mk (Kd.C_below HR.out hb); replace HS := Aside0.mk (Kd.S_below HS.out hb); replace hg0 := cellB hb hg0; replace ho0 := cellB hb ho0; replace ho1 := cellB hb ho1; replace ho2 := cellB hb ho2; replace HH := Aside0.mk (Kd.H_below HH.out hb); replace HD := Aside0.mk (kJM_below HD.out hb); replace hp0 := cellB hb hp0; replace hp1 := cellB hb hp1; replace hp2 := cellB hb hp2; (replace HRD := Aside0.mk (Kd.C_below HRD.out hb)); clear hb) | ((with_reducible refine gate_dst (N := 9) rfl ?_); (with_reducible refine gate_callee (f := 38) rfl ?_); (try (refine gate_guard (by rfl) ?_; dsimp only)); refine goesL_ (some 9) rfl rfl Try.func38 (by kernel_rfl) rfl #[.agg #[.int .i64 a, .int .i64 b, .slice A l.length c]] rfl (by (try simp only [List.map_toArray, List.map_cons, List.map_nil]); first | done | rfl | (go_simp; done) | (go_simp; rfl)) ?_; (with_reducible refine (delta_told.calls a b _ _ l false _ ?side1 ?side2 HT.out).mono ?_); (case side1 => exact HR.out); (case side2 => exact HC.out); rintro e w' ⟨rfl, hb⟩; refine ⟨_, rfl, ?_⟩; replace BG := Aside0.mk (blk_below BG.out hb); replace BO := Aside0.mk (blk_below BO.out hb); replace HB := Aside0.mk (below_step HB.out hb); replace HR := Aside0.mk (Kd.C_below HR.out hb); replace HS := Aside0.mk (Kd.S_below HS.out hb); replace hg0 := cellB hb hg0; replace ho0 := cellB hb ho0; replace ho1 := cellB hb ho1; replace ho2 := cellB hb ho2; replace HH := Aside0.mk (Kd.H_below HH.out hb); replace HD := Aside0.mk (kJM_below HD.out hb); replace hp0 := cellB hb hp0; replace hp1 := cellB hb hp1; replace hp2 := cellB hb hp2; (replace HRD := Aside0.mk (Kd.C_below HRD.out hb)); clear hb) | ((with_reducible refine gate_dst (N := 25) rfl ?_); (with_reducible refine gate_callee (f := 38) rfl ?_); (try (refine gate_guard (by rfl) ?_; dsimp only)); refine goesL_ (some 25) rfl rfl Try.func38 (by kernel_rfl) rfl #[.agg #[.int .i64 p.1, .int .i64 p.2.1, .slice Ad p.2.2.length cd]] rfl (by (try simp only [List.map_toArray, List.map_cons, List.map_nil]); first | done | rfl | (go_simp; done) | (go_simp; rfl)) ?_; (with_reducible refine (delta_told.calls p.1 p.2.1 _ _ p.2.2 false _ ?side1 ?side2 HTP.out).mono ?_); (case side1 => exact HRD.out); (case side2 => exact HCD.out); rintro e w' ⟨rfl, hb⟩; refine ⟨_, rfl, ?_⟩; replace BG := Aside0.mk (blk_below BG.out hb); replace BO := Aside0.mk (blk_below BO.out hb); replace HB := Aside0.mk (below_step HB.out hb); replace HR := Aside0.mk (Kd.C_below HR.out hb); replace HS := Aside0.mk (Kd.S_below HS.out hb); replace hg0 := cellB hb hg0; replace ho0 := cellB hb ho0; replace ho1 := cellB hb ho1; replace ho2 := cellB hb ho2; replace HH := Aside0.mk (Kd.H_below HH.out hb); replace HD := Aside0.mk (kJM_below HD.out hb); replace hp0 := cellB hb hp0; replace hp1 := cellB hb hp1; replace hp2 := cellB hb hp2; (replace HRD := Aside0.mk (Kd.C_below HRD.out hb)); clear hb) | ((with_reducible refine gate_dst (N := 28) rfl ?_); (with_reducible refine gate_callee (f := 38) rfl ?_); (try (refine gate_guard (by rfl) ?_; dsimp only)); refine goesL_ (some 28) rfl rfl Try.func38 (by kernel_rfl) rfl #[.agg #[.int .i64 a, .int .i64 b, .slice A l.length c]] rfl (by (try simp only [List.map_toArray, List.map_cons, List.map_nil]); first | done | rfl | (go_simp; done) | (go_simp; rfl)) ?_; (with_reducible refine (delta_told.calls a b _ _ l false _ ?side1 ?side2 HT.out).mono ?_); (case side1 => exact HR.out); (case side2 => exact HC.out); rintro e w' ⟨rfl, hb⟩; refine ⟨_, rfl, ?_⟩; replace BG := Aside0.mk (blk_below BG.out hb); replace BO := Aside0.mk (blk_below BO.out hb); replace HB := Aside0.mk (below_step HB.out hb); replace HR := Aside0.mk (Kd.C_below HR.out hb); replace HS := Aside0.mk (Kd.S_below HS.out hb); replace hg0 := cellB hb hg0; replace ho0 := cellB hb ho0; replace ho1 := cellB hb ho1; replace ho2 := cellB hb ho2; replace HH := Aside0.mk (Kd.H_below HH.out hb); replace HD := Aside0.mk (kJM_below HD.out hb); replace hp0 := cellB hb hp0; replace hp1 := cellB hb hp1; replace hp2 := cellB hb hp2; (replace HRD := Aside0.mk (Kd.C_below HRD.out hb)); clear hb))
 have hb := below_drew (Below.refl w'.heap.size w')
 replace BG := Aside0.mk (blk_below BG.out hb); replace BO := Aside0.mk (blk_below BO.out hb); replace HB := Aside0.mk (below_step HB.out hb); replace HR := Aside0.mk (Kd.C_below HR.out hb); replace HS := Aside0.mk (Kd.S_below HS.out hb); replace hg0 := cellB hb hg0; replace ho0 := cellB hb ho0; replace ho1 := cellB hb ho1; replace ho2 := cellB hb ho2; replace HH := Aside0.mk (Kd.H_below HH.out hb); replace HD := Aside0.mk (kJM_below HD.out hb); replace hp0 := cellB hb hp0; replace hp1 := cellB hb hp1; replace hp2 := cellB hb hp2; (replace HRD := Aside0.mk (Kd.C_below HRD.out hb)); clear hb
 refine start_ (n := 55) (S := (fun W => (W.cell? ⟨gr, m * 3, none⟩ = some (.int .i64 p.1) ∧ W.cell? ⟨gr, m * 3 + 1, none⟩ = some (.int .i64 p.2.1) ∧ W.cell? ⟨gr, m * 3 + 2, none⟩ = some (.slice Ad p.2.2.length cd)) ∧ W.cell? ⟨gb, 0, none⟩ = some (.int .i64 a) ∧ W.cell? ⟨gb, 1, none⟩ = some (.int .i64 b) ∧ W.cell? ⟨gb, 2, none⟩ = some (.slice A l.length c))) (ds := []) (qq 55 0) (by kernel_rfl) rfl (by kernel_rfl) ⟨⟨hp0, hp1, hp2⟩, ho0, ho1, ho2⟩ (fun hHeld => ?_)
 refine with_tabW add.tab9 add.bits9 (fun HT_ HW_ => ?_)
 generalize w'.drew = w9 at BG BO HB HR HS hg0 ho0 ho1 ho2 HH HD HRD hp0 hp1 hp2 hHeld ⊢
 refine ord_ [(0, 0, 1), (0, 1, 3), (1, 2, 7)] ?_
 repeat (first | (refine kk_ 0 ?_; refine oP_ (v := ?_) (a' := ?_) HT_ rfl rfl (by kernel_rfl) (fun _ _ _ h => h) (Or.inl ⟨by rfl, ?_⟩) ?_ ?_; rotate_left; (intro w'; go_simp; with_reducible rfl); rotate_left; (simp only [Act.put, s1, s2, s3, i64_w, i32_w]; rfl)) | (refine kk_ 1 ?_; refine oT_ (v := ?_) (a' := ?_) HT_ HW_ rfl rfl (by kernel_rfl) (fun _ _ _ h => h) (Or.inl ⟨by rfl, ?_⟩) hHeld ?_ ?_; rotate_left; (rintro w' ⟨⟨s0, s1, s2⟩, s3, s4, s5⟩; go_simp; with_reducible rfl); rotate_left; (simp only [Act.put, s1, s2, s3, i64_w, i32_w]; rfl)))
 refine oend_ ?_
 refine one_ (i := 3) (N := some 43) (qq 55 15) rfl rfl (one_of HT_.out (by kernel_rfl)) (by decide) (fun K hK => ?_)
 refine goes_ Try.func38 (by kernel_rfl) rfl #[.agg #[.int .i64 p.1, .int .i64 p.2.1, .slice Ad p.2.2.length cd]] (by rfl) rfl rfl (by (try simp only [List.map_toArray, List.map_cons, List.map_nil]); first | done | rfl) ?_
 refine (delta_told.calls p.1 p.2.1 _ _ p.2.2 false _ ?side1 ?side2 HTP.out).mono ?_
 (case side1 => exact HRD.out)
 (case side2 => exact HCD.out)
 rintro e w' ⟨rfl, hb⟩
 refine ⟨_, rfl, ?_⟩
 replace BG := Aside0.mk (blk_below BG.out hb); replace BO := Aside0.mk (blk_below BO.out hb); replace HB := Aside0.mk (below_step HB.out hb); replace HR := Aside0.mk (Kd.C_below HR.out hb); replace HS := Aside0.mk (Kd.S_below HS.out hb); replace hg0 := cellB hb hg0; replace ho0 := cellB hb ho0; replace ho1 := cellB hb ho1; replace ho2 := cellB hb ho2; replace HH := Aside0.mk (Kd.H_below HH.out hb); replace HD := Aside0.mk (kJM_below HD.out hb); replace hp0 := cellB hb hp0; replace hp1 := cellB hb hp1; replace hp2 := cellB hb hp2; (replace HRD := Aside0.mk (Kd.C_below HRD.out hb)); clear hb
 refine hK.out _ _ ⟨⟨hp0, hp1, hp2⟩, ho0, ho1, ho2⟩ (fun hHeld => ?_)
 clear hK K
 refine norm_ (a' := ?_) ?_ ?_
 rotate_left
 ·show Act.put _ (some 43) _ = _
  simp only [Act.put, s1, s2, s3, i64_w, i32_w]
  rfl
 refine ord_ [(0, 4, 31), (0, 5, 63), (1, 6, 127)] ?_
 repeat (first | (refine kk_ 0 ?_; refine oP_ (v := ?_) (a' := ?_) HT_ rfl rfl (by kernel_rfl) (fun _ _ _ h => h) (Or.inl ⟨by rfl, ?_⟩) ?_ ?_; rotate_left; (intro w'; go_simp; with_reducible rfl); rotate_left; (simp only [Act.put, s1, s2, s3, i64_w, i32_w]; rfl)) | (refine kk_ 1 ?_; refine oT_ (v := ?_) (a' := ?_) HT_ HW_ rfl rfl (by kernel_rfl) (fun _ _ _ h => h) (Or.inl ⟨by rfl, ?_⟩) hHeld ?_ ?_; rotate_left; (rintro w' ⟨⟨s0, s1, s2⟩, s3, s4, s5⟩; go_simp; with_reducible rfl); rotate_left; (simp only [Act.put, s1, s2, s3, i64_w, i32_w]; rfl)))
 refine oend_ ?_
 refine one_ (i := 7) (N := some 47) (qq 55 255) rfl rfl (one_of HT_.out (by kernel_rfl)) (by decide) (fun K hK => ?_)
 refine goes_ Try.func38 (by kernel_rfl) rfl #[.agg #[.int .i64 a, .int .i64 b, .slice A l.length c]] (by rfl) rfl rfl (by (try simp only [List.map_toArray, List.map_cons, List.map_nil]); first | done | rfl) ?_
 refine (delta_told.calls a b _ _ l false _ ?side1 ?side2 HT.out).mono ?_
 (case side1 => exact HR.out)
 (case side2 => exact HC.out)
 rintro e w' ⟨rfl, hb⟩
 refine ⟨_, rfl, ?_⟩
 replace BG := Aside0.mk (blk_below BG.out hb); replace BO := Aside0.mk (blk_below BO.out hb); replace HB := Aside0.mk (below_step HB.out hb); replace HR := Aside0.mk (Kd.C_below HR.out hb); replace HS := Aside0.mk (Kd.S_below HS.out hb); replace hg0 := cellB hb hg0; replace ho0 := cellB hb ho0; replace ho1 := cellB hb ho1; replace ho2 := cellB hb ho2; replace HH := Aside0.mk (Kd.H_below HH.out hb); replace HD := Aside0.mk (kJM_below HD.out hb); replace hp0 := cellB hb hp0; replace hp1 := cellB hb hp1; replace hp2 := cellB hb hp2; (replace HRD := Aside0.mk (Kd.C_below HRD.out hb)); clear hb
 refine hK.out _ _ ⟨⟨hp0, hp1, hp2⟩, ho0, ho1, ho2⟩ (fun hHeld => ?_)
 clear hK K
 refine norm_ (a' := ?_) ?_ ?_
 rotate_left
 ·show Act.put _ (some 47) _ = _
  simp only [Act.put, s1, s2, s3, i64_w, i32_w]
  rfl
 refine ord_ [(0, 8, 511), (0, 9, 1023), (0, 10, 2047), (0, 11, 4095), (1, 12, 8191), (0, 13, 16383), (0, 14, 32767), (0, 15, 65535), (0, 16, 131071), (0, 17, 262143), (0, 18, 524287), (1, 19, 1048575), (0, 20, 2097151), (0, 21, 4194303), (0, 22, 8388607), (0, 23, 16777215), (0, 24, 33554431), (0, 25, 67108863), (1, 26, 134217727), (0, 27, 268435455), (0, 28, 536870911), (0, 29, 1073741823), (0, 30, 2147483647), (0, 31, 4294967295), (0, 32, 8589934591), (1, 33, 17179869183), (0, 34, 34359738367), (0, 35, 68719476735), (0, 36, 137438953471), (1, 37, 274877906943), (0, 38, 549755813887), (0, 39, 1099511627775), (0, 40, 2199023255551), (0, 41, 4398046511103), (0, 42, 8796093022207), (0, 43, 17592186044415), (0, 44, 35184372088831), (1, 45, 70368744177663), (0, 46, 140737488355327), (0, 47, 281474976710655), (0, 48, 562949953421311), (1, 49, 1125899906842623), (0, 50, 2251799813685247), (0, 51, 4503599627370495), (1, 52, 9007199254740991), (0, 53, 18014398509481983), (0, 54, 36028797018963967)] ?_
 repeat (first | (refine kk_ 0 ?_; refine oP_ (v := ?_) (a' := ?_) HT_ rfl rfl (by kernel_rfl) (fun _ _ _ h => h) (Or.inl ⟨by rfl, ?_⟩) ?_ ?_; rotate_left; (intro w'; go_simp; with_reducible rfl); rotate_left; (simp only [Act.put, s1, s2, s3, i64_w, i32_w]; rfl)) | (refine kk_ 1 ?_; refine oT_ (v := ?_) (a' := ?_) HT_ HW_ rfl rfl (by kernel_rfl) (fun _ _ _ h => h) (Or.inl ⟨by rfl, ?_⟩) hHeld ?_ ?_; rotate_left; (rintro w' ⟨⟨s0, s1, s2⟩, s3, s4, s5⟩; go_simp; with_reducible rfl); rotate_left; (simp only [Act.put, s1, s2, s3, i64_w, i32_w]; rfl)))
 refine oend_ ?_
 refine done_ (done_of HT_.out (by kernel_rfl)) ?_
 try go_wp2
 have hb := below_drew (Below.refl w'.heap.size w')
 replace BG := Aside0.mk (blk_below BG.out hb); replace BO := Aside0.mk (blk_below BO.out hb); replace HB := Aside0.mk (below_step HB.out hb); replace HR := Aside0.mk (Kd.C_below HR.out hb); replace HS := Aside0.mk (Kd.S_below HS.out hb); replace hg0 := cellB hb hg0; replace ho0 := cellB hb ho0; replace ho1 := cellB hb ho1; replace ho2 := cellB hb ho2; replace HH := Aside0.mk (Kd.H_below HH.out hb); replace HD := Aside0.mk (kJM_below HD.out hb); replace hp0 := cellB hb hp0; replace hp1 := cellB hb hp1; replace hp2 := cellB hb hp2; (replace HRD := Aside0.mk (Kd.C_below HRD.out hb)); clear hb
 refine start_ (n := 10) (S := (fun W => (W.cell? ⟨gr, m * 3, none⟩ = some (.int .i64 p.1) ∧ W.cell? ⟨gr, m * 3 + 1, none⟩ = some (.int .i64 p.2.1) ∧ W.cell? ⟨gr, m * 3 + 2, none⟩ = some (.slice Ad p.2.2.length cd)) ∧ W.cell? ⟨gb, 0, none⟩ = some (.int .i64 a) ∧ W.cell? ⟨gb, 1, none⟩ = some (.int .i64 b) ∧ W.cell? ⟨gb, 2, none⟩ = some (.slice A l.length c))) (ds := [9]) (qq 10 0) (by kernel_rfl) rfl (by kernel_rfl) ⟨⟨hp0, hp1, hp2⟩, ho0, ho1, ho2⟩ (fun hHeld => ?_)
 refine with_tabW add.tab10 add.bits10 (fun HT_ HW_ => ?_)
 generalize w'.drew = w9 at BG BO HB HR HS hg0 ho0 ho1 ho2 HH HD HRD hp0 hp1 hp2 hHeld ⊢
 refine ord_ [(0, 0, 1), (0, 1, 3), (0, 2, 7), (1, 3, 15), (0, 4, 31), (1, 5, 63), (0, 6, 127), (0, 7, 255), (0, 8, 511)] ?_
 repeat (first | (refine kk_ 0 ?_; refine oP_ (v := ?_) (a' := ?_) HT_ rfl rfl (by kernel_rfl) (fun _ _ _ h => h) (Or.inl ⟨by rfl, ?_⟩) ?_ ?_; rotate_left; (intro w'; go_simp; with_reducible rfl); rotate_left; (simp only [Act.put, s1, s2, s3, i64_w, i32_w]; rfl)) | (refine kk_ 1 ?_; refine oT_ (v := ?_) (a' := ?_) HT_ HW_ rfl rfl (by kernel_rfl) (fun _ _ _ h => h) (Or.inl ⟨by rfl, ?_⟩) hHeld ?_ ?_; rotate_left; (rintro w' ⟨⟨s0, s1, s2⟩, s3, s4, s5⟩; go_simp; with_reducible rfl); rotate_left; (simp only [Act.put, s1, s2, s3, i64_w, i32_w]; rfl)))
 refine oend_ ?_
 refine last_ (i := 9) (N := none) (qq 10 1023) rfl rfl (one_of HT_.out (by kernel_rfl)) (by decide) (fun K hK => ?_)
 obtain ⟨W1, hrun, hs1, hg1⟩ := H_run (P := Try.prog) kJ (j := 1) (seg := [.int .i64 (wrap64 (p.2.1 + b))]) (x' := (p.1, wrap64 (p.2.1 + b), p.2.2)) (okp := oki) 3 (.int .i64 (wrap64 (p.2.1 + b))) rfl inf3 (by intro q hq; rw [List.mem_singleton.1 hq]; rfl) HH.out (by omega) (by omega) (show 2 ≤ 3 by decide) (kJ_len2 HD.out) (fun _ hk => hk)
 refine store_skip (by rfl) rfl 3 (.tmp 103) (.tmp 101) rfl (ptr := .pointer (some ⟨gr, m * 3 + 1, none⟩)) (u := .int .i64 (wrap64 (p.2.1 + b))) rfl rfl hrun ?_
 have hgr : base ≤ gr ∧ ok gr := ⟨Kd.R_base (Kd.S_R hs1) gr rfl, ((Kd.S_R hs1).1 gr rfl).1⟩
 have hset : (ys ++ [p]).set ((m : Int)).toNat (p.1, wrap64 (p.2.1 + b), p.2.2) = ys ++ [(p.1, wrap64 (p.2.1 + b), p.2.2)] := by
  have := HM.out
  subst this
  simp
 rw [hset] at hs1
 have BG2 := Aside0.mk (blk_grown BG.out hg1 (fun e => HG.out (by injection e with e; rw [e]; exact hgr.2)))
 have HS2 := Aside0.mk (Kd.S_mono hs1 (fun k hk => hk.1))
 have HB2 := Aside0.mk (belowG (belowLe HB.out HK.out) hg1 (Nat.le_trans HK.out HB.out.size) (fun k hk => by injection hk with hk; rw [← hk]; exact hgr.1))
 have HKp2 := Aside0.mk (Kept.of_grown hg1 (Kept.of_below HB.out (fun k => ok k ∨ k = g)) (fun k hk => by injection hk with hk; rw [← hk]; exact .inl (.inl hgr.2)))
 refine hK.out _ _ ?_
 refine done_ (done_of HT_.out (by kernel_rfl)) ?_
 clear hK K hrun hs1 hg1
 try go_wp2
 refine bodyPost_ret (results_none rfl _ _ _) rfl ?_
 exact ⟨rfl, ⟨⟨_, BG2.out, HS2.out, fun h => absurd h (by simp)⟩⟩, HKp2.out, HB2.out⟩

end Go.Proofs.Ytkihlcmjjoiccaa.Jn
