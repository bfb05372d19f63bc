/- The joiner's add, way by way. -/
import Derived.Test.YtifmajnhcbicnaaDoorJn1
namespace Go.Proofs.YtifmajnhcbicnaaDoor.Jn
open Go.RowKit Go.Proofs.YtifmajnhcbicnaaDoorW.PrintWords Go.Proofs.YtifmajnhcbicnaaDoorW.PrintLast Go.Proofs.YtifmajnhcbicnaaDoorW.PrintMore
set_option linter.unusedVariables false
set_option linter.unusedSimpArgs false
set_option maxHeartbeats 16000000 in
set_option maxRecDepth 100000 in
theorem add_C8 (base : Nat) (ok : Nat → Prop) (g : Nat) (a b : Int) (A : Option Addr) (c : Nat) (l : List Int) (w : World) (v : Value) (xs : List T3) (hr : (Kd.int .u8).C w A l.length l) (hc : l.length ≤ c)
  (hg : w.heap[g]? = some (.cells #[v] 22 (0, 0))) (hS : Kd.S kJ 38 w base ok v xs) (hbase : base ≤ w.heap.size) (hfresh : ∀ k, w.heap.size ≤ k → ok k) (hng : ¬ ok g) (hx : (xs.length + 1) * 40 ≤ 140737488355328) (hbg : base ≤ g) (hb : 0 < b) (hl : l = []) (ys : List T3) (p : T3) (gr cap m : Nat) (hm : ys.length = m) (hv : v = .slice (some ⟨gr, 0, none⟩) (m + 1) cap) (hxs : xs = ys ++ [p]) (ht : p.2.2.length = 0) (q1 : b ≤ 131072) (q2 : 0 ≤ p.1) (q3 : p.1 ≤ 131072) (q4 : p.2.1 ≤ wrap64 (131072 - p.1)) (q5 : wrap64 (p.1 + p.2.1) = a) :
  Calls Tryd.prog 43 #[.agg #[.int .i64 a, .int .i64 b, .slice A l.length c], .pointer (some ⟨g, 0, none⟩)] w fun e w' => e = .returned (.tuple #[]) ∧ Box base ok g w' (ys ++ [(p.1, wrap64 (p.2.1 + b), p.2.2)]) ∧ Kept w w' (fun k => ok k ∨ k = g) ∧ Below base w w' := by
 have HB := Aside0.mk (Below.refl w.heap.size w)
 have BG := Aside0.mk hg
 have hg0 : w.cell? ⟨g, 0, none⟩ = some v := (blk_cell hg 0).trans rfl
 have HR := Aside0.mk hr
 have HC := Aside0.mk hc
 have HX := Aside0.mk hx
 have HF := Aside0.mk hfresh
 have HG := Aside0.mk hng
 have HK := Aside0.mk hbase
 have HS := Aside0.mk (Kd.S_mono (ok' := fun k => ok k ∧ k < w.heap.size) (Kd.S_bound hS) (fun k h => ⟨h.1, h.2.2.1⟩))
 have HGB := Aside0.mk hbg
 subst hv
 subst hxs
 obtain ⟨oki, c3, hcl, hM, hcc, hoki, HH0⟩ := Kd.S_lend HS.out p (m : Int) (by omega) (by omega)
 have hgetD : (ys ++ [p]).getD ((m : Int)).toNat p = p := by subst hm; simp
 rw [hgetD] at hM
 obtain ⟨vd, hc3, hd⟩ := kJ_openM hM
 obtain ⟨Ad, cd, hvd, hcd, hCd⟩ : ∃ Ad cd, vd = .slice Ad p.2.2.length cd ∧ p.2.2.length ≤ cd ∧ (Kd.int .u8).C w Ad p.2.2.length p.2.2 := by
  obtain ⟨A_, c_, he, h1, h2⟩ := kJ_open (kJ.K_of_M hM)
  rw [hc3] at he
  exact ⟨A_, c_, (by injection he with _ he; injection he with _ he; injection he), h1, h2⟩
 subst hvd
 subst hc3
 have hp0 : w.cell? ⟨gr, m * 3, none⟩ = some (.int .i64 p.1) := hcc 0 _ rfl
 have hp1 : w.cell? ⟨gr, m * 3 + 1, none⟩ = some (.int .i64 p.2.1) := hcc 1 _ rfl
 have hp2 : w.cell? ⟨gr, m * 3 + 2, none⟩ = some (.slice Ad p.2.2.length cd) := hcc 2 _ rfl
 have HD := Aside0.mk hM
 have HH := Aside0.mk HH0
 have HO := Aside0.mk hoki
 have HDD := Aside0.mk hd
 have HCD := Aside0.mk hcd
 have HRD := Aside0.mk hCd
 have hw1 : wrap64 (m : Int) = (m : Int) := by
  have := HX.out
  rw [List.length_append] at this
  simp at this
  unfold wrap64
  omega
 have hw2 : decide ((m : Int) ≥ 0) = true := by simp
 have hw3 : decide (0 ≤ (m : Int)) = true := by simp
 have hw4 : decide ((m : Int) < ((m + 1 : Nat) : Int)) = true := by simp; omega
 have HM := Aside0.mk hm
 clear hcl hcc hoki HH0 hgetD hM hd hcd hCd hm
 have HE := Aside0.mk hl
 have HL := Aside0.mk (show delta_length.f a b l = some b by rw [hl]; simp [delta_length.f, delta_told.f, mx]; omega)
 have HT := Aside0.mk (show delta_told.f a b l = some false by rw [hl]; simp [delta_told.f])
 have hz : (b == 0) = false := by simp; omega
 have HTP := Aside0.mk (show delta_told.f p.1 p.2.1 p.2.2 = some false by rw [List.eq_nil_of_length_eq_zero ht]; simp [delta_told.f])
 have q1_0 : decide (b ≤ 131072) = true := decide_eq_true q1
 have q2_0 : decide (p.1 ≥ 0) = true := decide_eq_true q2
 have q2_1 : decide (0 ≤ p.1) = true := decide_eq_true q2
 have q3_0 : decide (p.1 ≤ 131072) = true := decide_eq_true q3
 have q4_0 : decide (p.2.1 ≤ wrap64 (131072 - p.1)) = true := decide_eq_true q4
 have q5_0 : (wrap64 (p.1 + p.2.1) == a) = true := by simpa using q5
 clear hr hc hx hfresh hng hbase hS hg hbg
 clear hl hb ht q1 q2 q3 q4 q5
 go_enter Tryd.func43, Tryd.ntmps43
 go_wp2_with (first | ((with_reducible refine gate_dst (N := 2) rfl ?_); refine box_event ?hg (N := 2) ?hd (cs := #[.int .i64 a, .int .i64 b, .slice A l.length c]) (t := 38) ?hr ?_; (case hd => rfl); (case hg => rfl); (case hr => first | (go_simp; done) | (go_simp; rfl)); intro gb hgb w2 hbox hb; replace BG := Aside0.mk (blk_below BG.out hb); replace HB := Aside0.mk (below_step HB.out hb); replace HR := Aside0.mk (Kd.C_below HR.out hb); replace HS := Aside0.mk (Kd.S_below HS.out hb); replace hg0 := cellB hb hg0; replace HH := Aside0.mk (Kd.H_below HH.out hb); replace HD := Aside0.mk (kJM_below HD.out hb); (replace HRD := Aside0.mk (Kd.C_below HRD.out hb)); replace hp0 := cellB hb hp0; replace hp1 := cellB hb hp1; replace hp2 := cellB hb hp2; have BO := Aside0.mk hbox; have ho0 : w2.cell? ⟨gb, 0, none⟩ = some (.int .i64 a) := (blk_cell hbox 0).trans rfl; have ho1 : w2.cell? ⟨gb, 1, none⟩ = some (.int .i64 b) := (blk_cell hbox 1).trans rfl; have ho2 : w2.cell? ⟨gb, 2, none⟩ = some (.slice A l.length c) := (blk_cell hbox 2).trans rfl; have HGW := Aside0.mk hgb; clear hbox hb hgb) | ((with_reducible refine gate_dst (N := 6) rfl ?_); (with_reducible refine gate_callee (f := 31) rfl ?_); (try (refine gate_guard (by rfl) ?_; dsimp only)); refine goesL_ (some 6) rfl rfl Tryd.func31 (by kernel_rfl) rfl #[.agg #[.int .i64 a, .int .i64 b, .slice A l.length c]] rfl (by (try simp only [List.map_toArray, List.map_cons, List.map_nil]); first | done | rfl | (go_simp; done) | (go_simp; rfl)) ?_; (with_reducible refine (delta_length.calls a b _ _ l b _ ?side1 ?side2 HL.out).mono ?_); (case side1 => exact HR.out); (case side2 => exact HC.out); rintro e w' ⟨rfl, hb⟩; refine ⟨_, rfl, ?_⟩; replace BG := Aside0.mk (blk_below BG.out hb); replace BO := Aside0.mk (blk_below BO.out hb); replace HB := Aside0.mk (below_step HB.out hb); replace HR := Aside0.mk (Kd.C_below HR.out hb); replace HS := Aside0.mk (Kd.S_below HS.out hb); replace hg0 := cellB hb hg0; replace ho0 := cellB hb ho0; replace ho1 := cellB hb ho1; replace ho2 := cellB hb ho2; replace HH := Aside0.mk (Kd.H_below HH.out hb); replace HD := Aside0.mk (kJM_below HD.out hb); replace hp0 := cellB hb hp0; replace hp1 := cellB hb hp1; replace hp2 := cellB hb hp2; (replace HRD := Aside0.mk (Kd.C_below HRD.out hb)); clear hb) | ((with_reducible refine gate_dst (N := 9) rfl ?_); (with_reducible refine gate_callee (f := 19) rfl ?_); (try (refine gate_guard (by rfl) ?_; dsimp only)); refine goesL_ (some 9) rfl rfl Tryd.func19 (by kernel_rfl) rfl #[.agg #[.int .i64 a, .int .i64 b, .slice A l.length c]] rfl (by (try simp only [List.map_toArray, List.map_cons, List.map_nil]); first | done | rfl | (go_simp; done) | (go_simp; rfl)) ?_; (with_reducible refine (delta_told.calls a b _ _ l false _ ?side1 ?side2 HT.out).mono ?_); (case side1 => exact HR.out); (case side2 => exact HC.out); rintro e w' ⟨rfl, hb⟩; refine ⟨_, rfl, ?_⟩; replace BG := Aside0.mk (blk_below BG.out hb); replace BO := Aside0.mk (blk_below BO.out hb); replace HB := Aside0.mk (below_step HB.out hb); replace HR := Aside0.mk (Kd.C_below HR.out hb); replace HS := Aside0.mk (Kd.S_below HS.out hb); replace hg0 := cellB hb hg0; replace ho0 := cellB hb ho0; replace ho1 := cellB hb ho1; replace ho2 := cellB hb ho2; replace HH := Aside0.mk (Kd.H_below HH.out hb); replace HD := Aside0.mk (kJM_below HD.out hb); replace hp0 := cellB hb hp0; replace hp1 := cellB hb hp1; replace hp2 := cellB hb hp2; (replace HRD := Aside0.mk (Kd.C_below HRD.out hb)); clear hb) | ((with_reducible refine gate_dst (N := 25) rfl ?_); (with_reducible refine gate_callee (f := 19) rfl ?_); (try (refine gate_guard (by rfl) ?_; dsimp only)); refine goesL_ (some 25) rfl rfl Tryd.func19 (by kernel_rfl) rfl #[.agg #[.int .i64 p.1, .int .i64 p.2.1, .slice Ad p.2.2.length cd]] rfl (by (try simp only [List.map_toArray, List.map_cons, List.map_nil]); first | done | rfl | (go_simp; done) | (go_simp; rfl)) ?_; (with_reducible refine (delta_told.calls p.1 p.2.1 _ _ p.2.2 false _ ?side1 ?side2 HTP.out).mono ?_); (case side1 => exact HRD.out); (case side2 => exact HCD.out); rintro e w' ⟨rfl, hb⟩; refine ⟨_, rfl, ?_⟩; replace BG := Aside0.mk (blk_below BG.out hb); replace BO := Aside0.mk (blk_below BO.out hb); replace HB := Aside0.mk (below_step HB.out hb); replace HR := Aside0.mk (Kd.C_below HR.out hb); replace HS := Aside0.mk (Kd.S_below HS.out hb); replace hg0 := cellB hb hg0; replace ho0 := cellB hb ho0; replace ho1 := cellB hb ho1; replace ho2 := cellB hb ho2; replace HH := Aside0.mk (Kd.H_below HH.out hb); replace HD := Aside0.mk (kJM_below HD.out hb); replace hp0 := cellB hb hp0; replace hp1 := cellB hb hp1; replace hp2 := cellB hb hp2; (replace HRD := Aside0.mk (Kd.C_below HRD.out hb)); clear hb) | ((with_reducible refine gate_dst (N := 28) rfl ?_); (with_reducible refine gate_callee (f := 19) rfl ?_); (try (refine gate_guard (by rfl) ?_; dsimp only)); refine goesL_ (some 28) rfl rfl Tryd.func19 (by kernel_rfl) rfl #[.agg #[.int .i64 a, .int .i64 b, .slice A l.length c]] rfl (by (try simp only [List.map_toArray, List.map_cons, List.map_nil]); first | done | rfl | (go_simp; done) | (go_simp; rfl)) ?_; (with_reducible refine (delta_told.calls a b _ _ l false _ ?side1 ?side2 HT.out).mono ?_); (case side1 => exact HR.out); (case side2 => exact HC.out); rintro e w' ⟨rfl, hb⟩; refine ⟨_, rfl, ?_⟩; replace BG := Aside0.mk (blk_below BG.out hb); replace BO := Aside0.mk (blk_below BO.out hb); replace HB := Aside0.mk (below_step HB.out hb); replace HR := Aside0.mk (Kd.C_below HR.out hb); replace HS := Aside0.mk (Kd.S_below HS.out hb); replace hg0 := cellB hb hg0; replace ho0 := cellB hb ho0; replace ho1 := cellB hb ho1; replace ho2 := cellB hb ho2; replace HH := Aside0.mk (Kd.H_below HH.out hb); replace HD := Aside0.mk (kJM_below HD.out hb); replace hp0 := cellB hb hp0; replace hp1 := cellB hb hp1; replace hp2 := cellB hb hp2; (replace HRD := Aside0.mk (Kd.C_below HRD.out hb)); clear hb))
 have hb := below_drew (Below.refl w'.heap.size w')
 replace BG := Aside0.mk (blk_below BG.out hb); replace BO := Aside0.mk (blk_below BO.out hb); replace HB := Aside0.mk (below_step HB.out hb); replace HR := Aside0.mk (Kd.C_below HR.out hb); replace HS := Aside0.mk (Kd.S_below HS.out hb); replace hg0 := cellB hb hg0; replace ho0 := cellB hb ho0; replace ho1 := cellB hb ho1; replace ho2 := cellB hb ho2; replace HH := Aside0.mk (Kd.H_below HH.out hb); replace HD := Aside0.mk (kJM_below HD.out hb); replace hp0 := cellB hb hp0; replace hp1 := cellB hb hp1; replace hp2 := cellB hb hp2; (replace HRD := Aside0.mk (Kd.C_below HRD.out hb)); clear hb
 refine start_ (n := 55) (S := (fun W => (W.cell? ⟨gr, m * 3, none⟩ = some (.int .i64 p.1) ∧ W.cell? ⟨gr, m * 3 + 1, none⟩ = some (.int .i64 p.2.1) ∧ W.cell? ⟨gr, m * 3 + 2, none⟩ = some (.slice Ad p.2.2.length cd)) ∧ W.cell? ⟨gb, 0, none⟩ = some (.int .i64 a) ∧ W.cell? ⟨gb, 1, none⟩ = some (.int .i64 b) ∧ W.cell? ⟨gb, 2, none⟩ = some (.slice A l.length c))) (ds := []) q55_0 (by kernel_rfl) rfl rfl ⟨⟨hp0, hp1, hp2⟩, ho0, ho1, ho2⟩ (fun hHeld => ?_)
 refine with_tabW add.tab9 add.bits9 (fun HT_ HW_ => ?_)
 generalize w'.drew = w9 at BG BO HB HR HS hg0 ho0 ho1 ho2 HH HD HRD hp0 hp1 hp2 hHeld ⊢
 refine pure_ (i := 0) (N := some 40) (v := ?_) (a' := ?_) q55_1 rfl rfl (any_of HT_.out (by kernel_rfl)) (fun _ _ _ h => h) (Or.inl ⟨by rfl, ?_⟩) ?_ ?_
 rotate_left
 ·intro w'
  go_simp
  with_reducible rfl
 rotate_left
 ·simp only [Act.put, s1, s2, s3, i64_w, i32_w]
  rfl
 refine pure_ (i := 1) (N := some 41) (v := ?_) (a' := ?_) q55_2 rfl rfl (any_of HT_.out (by kernel_rfl)) (fun _ _ _ h => h) (Or.inl ⟨by rfl, ?_⟩) ?_ ?_
 rotate_left
 ·intro w'
  go_simp
  with_reducible rfl
 rotate_left
 ·simp only [Act.put, s1, s2, s3, i64_w, i32_w]
  rfl
 refine take_ (i := 2) (N := some 42) (v := ?_) (a' := ?_) q55_3 rfl rfl (take_ofW HT_.out HW_.out (by kernel_rfl)) (fun _ _ _ h => h) (Or.inl ⟨by rfl, ?_⟩) hHeld ?_ ?_
 rotate_left
 ·rintro w' ⟨⟨s0, s1, s2⟩, s3, s4, s5⟩
  go_simp
  with_reducible rfl
 rotate_left
 ·simp only [Act.put, s1, s2, s3, i64_w, i32_w]
  rfl
 refine one_ (i := 3) (N := some 43) q55_4 rfl rfl (one_of HT_.out (by kernel_rfl)) (by decide) (fun K hK => ?_)
 refine goes_ Tryd.func19 (by kernel_rfl) rfl #[.agg #[.int .i64 p.1, .int .i64 p.2.1, .slice Ad p.2.2.length cd]] (by rfl) rfl rfl (by (try simp only [List.map_toArray, List.map_cons, List.map_nil]); first | done | rfl) ?_
 refine (delta_told.calls p.1 p.2.1 _ _ p.2.2 false _ ?side1 ?side2 HTP.out).mono ?_
 (case side1 => exact HRD.out)
 (case side2 => exact HCD.out)
 rintro e w' ⟨rfl, hb⟩
 refine ⟨_, rfl, ?_⟩
 replace BG := Aside0.mk (blk_below BG.out hb); replace BO := Aside0.mk (blk_below BO.out hb); replace HB := Aside0.mk (below_step HB.out hb); replace HR := Aside0.mk (Kd.C_below HR.out hb); replace HS := Aside0.mk (Kd.S_below HS.out hb); replace hg0 := cellB hb hg0; replace ho0 := cellB hb ho0; replace ho1 := cellB hb ho1; replace ho2 := cellB hb ho2; replace HH := Aside0.mk (Kd.H_below HH.out hb); replace HD := Aside0.mk (kJM_below HD.out hb); replace hp0 := cellB hb hp0; replace hp1 := cellB hb hp1; replace hp2 := cellB hb hp2; (replace HRD := Aside0.mk (Kd.C_below HRD.out hb)); clear hb
 refine hK.out _ _ ⟨⟨hp0, hp1, hp2⟩, ho0, ho1, ho2⟩ (fun hHeld => ?_)
 clear hK K
 refine norm_ (a' := ?_) ?_ ?_
 rotate_left
 ·show Act.put _ (some 43) _ = _
  simp only [Act.put, s1, s2, s3, i64_w, i32_w]
  rfl
 refine pure_ (i := 4) (N := some 44) (v := ?_) (a' := ?_) q55_5 rfl rfl (any_of HT_.out (by kernel_rfl)) (fun _ _ _ h => h) (Or.inl ⟨by rfl, ?_⟩) ?_ ?_
 rotate_left
 ·intro w'
  go_simp
  with_reducible rfl
 rotate_left
 ·simp only [Act.put, s1, s2, s3, i64_w, i32_w]
  rfl
 refine pure_ (i := 5) (N := some 45) (v := ?_) (a' := ?_) q55_6 rfl rfl (any_of HT_.out (by kernel_rfl)) (fun _ _ _ h => h) (Or.inl ⟨by rfl, ?_⟩) ?_ ?_
 rotate_left
 ·intro w'
  go_simp
  with_reducible rfl
 rotate_left
 ·simp only [Act.put, s1, s2, s3, i64_w, i32_w]
  rfl
 refine take_ (i := 6) (N := some 46) (v := ?_) (a' := ?_) q55_7 rfl rfl (take_ofW HT_.out HW_.out (by kernel_rfl)) (fun _ _ _ h => h) (Or.inl ⟨by rfl, ?_⟩) hHeld ?_ ?_
 rotate_left
 ·rintro w' ⟨⟨s0, s1, s2⟩, s3, s4, s5⟩
  go_simp
  with_reducible rfl
 rotate_left
 ·simp only [Act.put, s1, s2, s3, i64_w, i32_w]
  rfl
 refine one_ (i := 7) (N := some 47) q55_8 rfl rfl (one_of HT_.out (by kernel_rfl)) (by decide) (fun K hK => ?_)
 refine goes_ Tryd.func19 (by kernel_rfl) rfl #[.agg #[.int .i64 a, .int .i64 b, .slice A l.length c]] (by rfl) rfl rfl (by (try simp only [List.map_toArray, List.map_cons, List.map_nil]); first | done | rfl) ?_
 refine (delta_told.calls a b _ _ l false _ ?side1 ?side2 HT.out).mono ?_
 (case side1 => exact HR.out)
 (case side2 => exact HC.out)
 rintro e w' ⟨rfl, hb⟩
 refine ⟨_, rfl, ?_⟩
 replace BG := Aside0.mk (blk_below BG.out hb); replace BO := Aside0.mk (blk_below BO.out hb); replace HB := Aside0.mk (below_step HB.out hb); replace HR := Aside0.mk (Kd.C_below HR.out hb); replace HS := Aside0.mk (Kd.S_below HS.out hb); replace hg0 := cellB hb hg0; replace ho0 := cellB hb ho0; replace ho1 := cellB hb ho1; replace ho2 := cellB hb ho2; replace HH := Aside0.mk (Kd.H_below HH.out hb); replace HD := Aside0.mk (kJM_below HD.out hb); replace hp0 := cellB hb hp0; replace hp1 := cellB hb hp1; replace hp2 := cellB hb hp2; (replace HRD := Aside0.mk (Kd.C_below HRD.out hb)); clear hb
 refine hK.out _ _ ⟨⟨hp0, hp1, hp2⟩, ho0, ho1, ho2⟩ (fun hHeld => ?_)
 clear hK K
 refine norm_ (a' := ?_) ?_ ?_
 rotate_left
 ·show Act.put _ (some 47) _ = _
  simp only [Act.put, s1, s2, s3, i64_w, i32_w]
  rfl
 refine pure_ (i := 8) (N := some 48) (v := ?_) (a' := ?_) q55_9 rfl rfl (any_of HT_.out (by kernel_rfl)) (fun _ _ _ h => h) (Or.inl ⟨by rfl, ?_⟩) ?_ ?_
 rotate_left
 ·intro w'
  go_simp
  with_reducible rfl
 rotate_left
 ·simp only [Act.put, s1, s2, s3, i64_w, i32_w]
  rfl
 refine pure_ (i := 9) (N := some 49) (v := ?_) (a' := ?_) q55_10 rfl rfl (any_of HT_.out (by kernel_rfl)) (fun _ _ _ h => h) (Or.inl ⟨by rfl, ?_⟩) ?_ ?_
 rotate_left
 ·intro w'
  go_simp
  with_reducible rfl
 rotate_left
 ·simp only [Act.put, s1, s2, s3, i64_w, i32_w]
  rfl
 refine pure_ (i := 10) (N := some 50) (v := ?_) (a' := ?_) q55_11 rfl rfl (any_of HT_.out (by kernel_rfl)) (fun _ _ _ h => h) (Or.inl ⟨by rfl, ?_⟩) ?_ ?_
 rotate_left
 ·intro w'
  go_simp
  with_reducible rfl
 rotate_left
 ·simp only [Act.put, s1, s2, s3, i64_w, i32_w]
  rfl
 refine pure_ (i := 11) (N := some 51) (v := ?_) (a' := ?_) q55_12 rfl rfl (any_of HT_.out (by kernel_rfl)) (fun _ _ _ h => h) (Or.inl ⟨by rfl, ?_⟩) ?_ ?_
 rotate_left
 ·intro w'
  go_simp
  with_reducible rfl
 rotate_left
 ·simp only [Act.put, s1, s2, s3, i64_w, i32_w]
  rfl
 refine take_ (i := 12) (N := some 52) (v := ?_) (a' := ?_) q55_13 rfl rfl (take_ofW HT_.out HW_.out (by kernel_rfl)) (fun _ _ _ h => h) (Or.inl ⟨by rfl, ?_⟩) hHeld ?_ ?_
 rotate_left
 ·rintro w' ⟨⟨s0, s1, s2⟩, s3, s4, s5⟩
  go_simp
  with_reducible rfl
 rotate_left
 ·simp only [Act.put, s1, s2, s3, i64_w, i32_w]
  rfl
 refine pure_ (i := 13) (N := some 53) (v := ?_) (a' := ?_) q55_14 rfl rfl (any_of HT_.out (by kernel_rfl)) (fun _ _ _ h => h) (Or.inl ⟨by rfl, ?_⟩) ?_ ?_
 rotate_left
 ·intro w'
  go_simp
  with_reducible rfl
 rotate_left
 ·simp only [Act.put, s1, s2, s3, i64_w, i32_w]
  rfl
 refine pure_ (i := 14) (N := some 54) (v := ?_) (a' := ?_) q55_15 rfl rfl (any_of HT_.out (by kernel_rfl)) (fun _ _ _ h => h) (Or.inl ⟨by rfl, ?_⟩) ?_ ?_
 rotate_left
 ·intro w'
  go_simp
  with_reducible rfl
 rotate_left
 ·simp only [Act.put, s1, s2, s3, i64_w, i32_w]
  rfl
 refine pure_ (i := 15) (N := some 55) (v := ?_) (a' := ?_) q55_16 rfl rfl (any_of HT_.out (by kernel_rfl)) (fun _ _ _ h => h) (Or.inl ⟨by rfl, ?_⟩) ?_ ?_
 rotate_left
 ·intro w'
  go_simp
  with_reducible rfl
 rotate_left
 ·simp only [Act.put, s1, s2, s3, i64_w, i32_w]
  rfl
 refine pure_ (i := 16) (N := some 56) (v := ?_) (a' := ?_) q55_17 rfl rfl (any_of HT_.out (by kernel_rfl)) (fun _ _ _ h => h) (Or.inl ⟨by rfl, ?_⟩) ?_ ?_
 rotate_left
 ·intro w'
  go_simp
  with_reducible rfl
 rotate_left
 ·simp only [Act.put, s1, s2, s3, i64_w, i32_w]
  rfl
 refine pure_ (i := 17) (N := some 57) (v := ?_) (a' := ?_) q55_18 rfl rfl (any_of HT_.out (by kernel_rfl)) (fun _ _ _ h => h) (Or.inl ⟨by rfl, ?_⟩) ?_ ?_
 rotate_left
 ·intro w'
  go_simp
  with_reducible rfl
 rotate_left
 ·simp only [Act.put, s1, s2, s3, i64_w, i32_w]
  rfl
 refine pure_ (i := 18) (N := some 58) (v := ?_) (a' := ?_) q55_19 rfl rfl (any_of HT_.out (by kernel_rfl)) (fun _ _ _ h => h) (Or.inl ⟨by rfl, ?_⟩) ?_ ?_
 rotate_left
 ·intro w'
  go_simp
  with_reducible rfl
 rotate_left
 ·simp only [Act.put, s1, s2, s3, i64_w, i32_w]
  rfl
 refine take_ (i := 19) (N := some 59) (v := ?_) (a' := ?_) q55_20 rfl rfl (take_ofW HT_.out HW_.out (by kernel_rfl)) (fun _ _ _ h => h) (Or.inl ⟨by rfl, ?_⟩) hHeld ?_ ?_
 rotate_left
 ·rintro w' ⟨⟨s0, s1, s2⟩, s3, s4, s5⟩
  go_simp
  with_reducible rfl
 rotate_left
 ·simp only [Act.put, s1, s2, s3, i64_w, i32_w]
  rfl
 refine pure_ (i := 20) (N := some 60) (v := ?_) (a' := ?_) q55_21 rfl rfl (any_of HT_.out (by kernel_rfl)) (fun _ _ _ h => h) (Or.inl ⟨by rfl, ?_⟩) ?_ ?_
 rotate_left
 ·intro w'
  go_simp
  with_reducible rfl
 rotate_left
 ·simp only [Act.put, s1, s2, s3, i64_w, i32_w]
  rfl
 refine pure_ (i := 21) (N := some 61) (v := ?_) (a' := ?_) q55_22 rfl rfl (any_of HT_.out (by kernel_rfl)) (fun _ _ _ h => h) (Or.inl ⟨by rfl, ?_⟩) ?_ ?_
 rotate_left
 ·intro w'
  go_simp
  with_reducible rfl
 rotate_left
 ·simp only [Act.put, s1, s2, s3, i64_w, i32_w]
  rfl
 refine pure_ (i := 22) (N := some 62) (v := ?_) (a' := ?_) q55_23 rfl rfl (any_of HT_.out (by kernel_rfl)) (fun _ _ _ h => h) (Or.inl ⟨by rfl, ?_⟩) ?_ ?_
 rotate_left
 ·intro w'
  go_simp
  with_reducible rfl
 rotate_left
 ·simp only [Act.put, s1, s2, s3, i64_w, i32_w]
  rfl
 refine pure_ (i := 23) (N := some 63) (v := ?_) (a' := ?_) q55_24 rfl rfl (any_of HT_.out (by kernel_rfl)) (fun _ _ _ h => h) (Or.inl ⟨by rfl, ?_⟩) ?_ ?_
 rotate_left
 ·intro w'
  go_simp
  with_reducible rfl
 rotate_left
 ·simp only [Act.put, s1, s2, s3, i64_w, i32_w]
  rfl
 refine pure_ (i := 24) (N := some 64) (v := ?_) (a' := ?_) q55_25 rfl rfl (any_of HT_.out (by kernel_rfl)) (fun _ _ _ h => h) (Or.inl ⟨by rfl, ?_⟩) ?_ ?_
 rotate_left
 ·intro w'
  go_simp
  with_reducible rfl
 rotate_left
 ·simp only [Act.put, s1, s2, s3, i64_w, i32_w]
  rfl
 refine pure_ (i := 25) (N := some 65) (v := ?_) (a' := ?_) q55_26 rfl rfl (any_of HT_.out (by kernel_rfl)) (fun _ _ _ h => h) (Or.inl ⟨by rfl, ?_⟩) ?_ ?_
 rotate_left
 ·intro w'
  go_simp
  with_reducible rfl
 rotate_left
 ·simp only [Act.put, s1, s2, s3, i64_w, i32_w]
  rfl
 refine take_ (i := 26) (N := some 66) (v := ?_) (a' := ?_) q55_27 rfl rfl (take_ofW HT_.out HW_.out (by kernel_rfl)) (fun _ _ _ h => h) (Or.inl ⟨by rfl, ?_⟩) hHeld ?_ ?_
 rotate_left
 ·rintro w' ⟨⟨s0, s1, s2⟩, s3, s4, s5⟩
  go_simp
  with_reducible rfl
 rotate_left
 ·simp only [Act.put, s1, s2, s3, i64_w, i32_w]
  rfl
 refine pure_ (i := 27) (N := some 67) (v := ?_) (a' := ?_) q55_28 rfl rfl (any_of HT_.out (by kernel_rfl)) (fun _ _ _ h => h) (Or.inl ⟨by rfl, ?_⟩) ?_ ?_
 rotate_left
 ·intro w'
  go_simp
  with_reducible rfl
 rotate_left
 ·simp only [Act.put, s1, s2, s3, i64_w, i32_w]
  rfl
 refine pure_ (i := 28) (N := some 68) (v := ?_) (a' := ?_) q55_29 rfl rfl (any_of HT_.out (by kernel_rfl)) (fun _ _ _ h => h) (Or.inl ⟨by rfl, ?_⟩) ?_ ?_
 rotate_left
 ·intro w'
  go_simp
  with_reducible rfl
 rotate_left
 ·simp only [Act.put, s1, s2, s3, i64_w, i32_w]
  rfl
 refine pure_ (i := 29) (N := some 69) (v := ?_) (a' := ?_) q55_30 rfl rfl (any_of HT_.out (by kernel_rfl)) (fun _ _ _ h => h) (Or.inl ⟨by rfl, ?_⟩) ?_ ?_
 rotate_left
 ·intro w'
  go_simp
  with_reducible rfl
 rotate_left
 ·simp only [Act.put, s1, s2, s3, i64_w, i32_w]
  rfl
 refine pure_ (i := 30) (N := some 70) (v := ?_) (a' := ?_) q55_31 rfl rfl (any_of HT_.out (by kernel_rfl)) (fun _ _ _ h => h) (Or.inl ⟨by rfl, ?_⟩) ?_ ?_
 rotate_left
 ·intro w'
  go_simp
  with_reducible rfl
 rotate_left
 ·simp only [Act.put, s1, s2, s3, i64_w, i32_w]
  rfl
 refine pure_ (i := 31) (N := some 71) (v := ?_) (a' := ?_) q55_32 rfl rfl (any_of HT_.out (by kernel_rfl)) (fun _ _ _ h => h) (Or.inl ⟨by rfl, ?_⟩) ?_ ?_
 rotate_left
 ·intro w'
  go_simp
  with_reducible rfl
 rotate_left
 ·simp only [Act.put, s1, s2, s3, i64_w, i32_w]
  rfl
 refine pure_ (i := 32) (N := some 72) (v := ?_) (a' := ?_) q55_33 rfl rfl (any_of HT_.out (by kernel_rfl)) (fun _ _ _ h => h) (Or.inl ⟨by rfl, ?_⟩) ?_ ?_
 rotate_left
 ·intro w'
  go_simp
  with_reducible rfl
 rotate_left
 ·simp only [Act.put, s1, s2, s3, i64_w, i32_w]
  rfl
 refine take_ (i := 33) (N := some 73) (v := ?_) (a' := ?_) q55_34 rfl rfl (take_ofW HT_.out HW_.out (by kernel_rfl)) (fun _ _ _ h => h) (Or.inl ⟨by rfl, ?_⟩) hHeld ?_ ?_
 rotate_left
 ·rintro w' ⟨⟨s0, s1, s2⟩, s3, s4, s5⟩
  go_simp
  with_reducible rfl
 rotate_left
 ·simp only [Act.put, s1, s2, s3, i64_w, i32_w]
  rfl
 refine pure_ (i := 34) (N := some 74) (v := ?_) (a' := ?_) q55_35 rfl rfl (any_of HT_.out (by kernel_rfl)) (fun _ _ _ h => h) (Or.inl ⟨by rfl, ?_⟩) ?_ ?_
 rotate_left
 ·intro w'
  go_simp
  with_reducible rfl
 rotate_left
 ·simp only [Act.put, s1, s2, s3, i64_w, i32_w]
  rfl
 refine pure_ (i := 35) (N := some 75) (v := ?_) (a' := ?_) q55_36 rfl rfl (any_of HT_.out (by kernel_rfl)) (fun _ _ _ h => h) (Or.inl ⟨by rfl, ?_⟩) ?_ ?_
 rotate_left
 ·intro w'
  go_simp
  with_reducible rfl
 rotate_left
 ·simp only [Act.put, s1, s2, s3, i64_w, i32_w]
  rfl
 refine pure_ (i := 36) (N := some 76) (v := ?_) (a' := ?_) q55_37 rfl rfl (any_of HT_.out (by kernel_rfl)) (fun _ _ _ h => h) (Or.inl ⟨by rfl, ?_⟩) ?_ ?_
 rotate_left
 ·intro w'
  go_simp
  with_reducible rfl
 rotate_left
 ·simp only [Act.put, s1, s2, s3, i64_w, i32_w]
  rfl
 refine take_ (i := 37) (N := some 77) (v := ?_) (a' := ?_) q55_38 rfl rfl (take_ofW HT_.out HW_.out (by kernel_rfl)) (fun _ _ _ h => h) (Or.inl ⟨by rfl, ?_⟩) hHeld ?_ ?_
 rotate_left
 ·rintro w' ⟨⟨s0, s1, s2⟩, s3, s4, s5⟩
  go_simp
  with_reducible rfl
 rotate_left
 ·simp only [Act.put, s1, s2, s3, i64_w, i32_w]
  rfl
 refine pure_ (i := 38) (N := some 78) (v := ?_) (a' := ?_) q55_39 rfl rfl (any_of HT_.out (by kernel_rfl)) (fun _ _ _ h => h) (Or.inl ⟨by rfl, ?_⟩) ?_ ?_
 rotate_left
 ·intro w'
  go_simp
  with_reducible rfl
 rotate_left
 ·simp only [Act.put, s1, s2, s3, i64_w, i32_w]
  rfl
 refine pure_ (i := 39) (N := some 79) (v := ?_) (a' := ?_) q55_40 rfl rfl (any_of HT_.out (by kernel_rfl)) (fun _ _ _ h => h) (Or.inl ⟨by rfl, ?_⟩) ?_ ?_
 rotate_left
 ·intro w'
  go_simp
  with_reducible rfl
 rotate_left
 ·simp only [Act.put, s1, s2, s3, i64_w, i32_w]
  rfl
 refine pure_ (i := 40) (N := some 80) (v := ?_) (a' := ?_) q55_41 rfl rfl (any_of HT_.out (by kernel_rfl)) (fun _ _ _ h => h) (Or.inl ⟨by rfl, ?_⟩) ?_ ?_
 rotate_left
 ·intro w'
  go_simp
  with_reducible rfl
 rotate_left
 ·simp only [Act.put, s1, s2, s3, i64_w, i32_w]
  rfl
 refine pure_ (i := 41) (N := some 81) (v := ?_) (a' := ?_) q55_42 rfl rfl (any_of HT_.out (by kernel_rfl)) (fun _ _ _ h => h) (Or.inl ⟨by rfl, ?_⟩) ?_ ?_
 rotate_left
 ·intro w'
  go_simp
  with_reducible rfl
 rotate_left
 ·simp only [Act.put, s1, s2, s3, i64_w, i32_w]
  rfl
 refine pure_ (i := 42) (N := some 82) (v := ?_) (a' := ?_) q55_43 rfl rfl (any_of HT_.out (by kernel_rfl)) (fun _ _ _ h => h) (Or.inl ⟨by rfl, ?_⟩) ?_ ?_
 rotate_left
 ·intro w'
  go_simp
  with_reducible rfl
 rotate_left
 ·simp only [Act.put, s1, s2, s3, i64_w, i32_w]
  rfl
 refine pure_ (i := 43) (N := some 83) (v := ?_) (a' := ?_) q55_44 rfl rfl (any_of HT_.out (by kernel_rfl)) (fun _ _ _ h => h) (Or.inl ⟨by rfl, ?_⟩) ?_ ?_
 rotate_left
 ·intro w'
  go_simp
  with_reducible rfl
 rotate_left
 ·simp only [Act.put, s1, s2, s3, i64_w, i32_w]
  rfl
 refine pure_ (i := 44) (N := some 84) (v := ?_) (a' := ?_) q55_45 rfl rfl (any_of HT_.out (by kernel_rfl)) (fun _ _ _ h => h) (Or.inl ⟨by rfl, ?_⟩) ?_ ?_
 rotate_left
 ·intro w'
  go_simp
  with_reducible rfl
 rotate_left
 ·simp only [Act.put, s1, s2, s3, i64_w, i32_w]
  rfl
 refine take_ (i := 45) (N := some 85) (v := ?_) (a' := ?_) q55_46 rfl rfl (take_ofW HT_.out HW_.out (by kernel_rfl)) (fun _ _ _ h => h) (Or.inl ⟨by rfl, ?_⟩) hHeld ?_ ?_
 rotate_left
 ·rintro w' ⟨⟨s0, s1, s2⟩, s3, s4, s5⟩
  go_simp
  with_reducible rfl
 rotate_left
 ·simp only [Act.put, s1, s2, s3, i64_w, i32_w]
  rfl
 refine pure_ (i := 46) (N := some 86) (v := ?_) (a' := ?_) q55_47 rfl rfl (any_of HT_.out (by kernel_rfl)) (fun _ _ _ h => h) (Or.inl ⟨by rfl, ?_⟩) ?_ ?_
 rotate_left
 ·intro w'
  go_simp
  with_reducible rfl
 rotate_left
 ·simp only [Act.put, s1, s2, s3, i64_w, i32_w]
  rfl
 refine pure_ (i := 47) (N := some 87) (v := ?_) (a' := ?_) q55_48 rfl rfl (any_of HT_.out (by kernel_rfl)) (fun _ _ _ h => h) (Or.inl ⟨by rfl, ?_⟩) ?_ ?_
 rotate_left
 ·intro w'
  go_simp
  with_reducible rfl
 rotate_left
 ·simp only [Act.put, s1, s2, s3, i64_w, i32_w]
  rfl
 refine pure_ (i := 48) (N := some 88) (v := ?_) (a' := ?_) q55_49 rfl rfl (any_of HT_.out (by kernel_rfl)) (fun _ _ _ h => h) (Or.inl ⟨by rfl, ?_⟩) ?_ ?_
 rotate_left
 ·intro w'
  go_simp
  with_reducible rfl
 rotate_left
 ·simp only [Act.put, s1, s2, s3, i64_w, i32_w]
  rfl
 refine take_ (i := 49) (N := some 89) (v := ?_) (a' := ?_) q55_50 rfl rfl (take_ofW HT_.out HW_.out (by kernel_rfl)) (fun _ _ _ h => h) (Or.inl ⟨by rfl, ?_⟩) hHeld ?_ ?_
 rotate_left
 ·rintro w' ⟨⟨s0, s1, s2⟩, s3, s4, s5⟩
  go_simp
  with_reducible rfl
 rotate_left
 ·simp only [Act.put, s1, s2, s3, i64_w, i32_w]
  rfl
 refine pure_ (i := 50) (N := some 90) (v := ?_) (a' := ?_) q55_51 rfl rfl (any_of HT_.out (by kernel_rfl)) (fun _ _ _ h => h) (Or.inl ⟨by rfl, ?_⟩) ?_ ?_
 rotate_left
 ·intro w'
  go_simp
  with_reducible rfl
 rotate_left
 ·simp only [Act.put, s1, s2, s3, i64_w, i32_w]
  rfl
 refine pure_ (i := 51) (N := some 91) (v := ?_) (a' := ?_) q55_52 rfl rfl (any_of HT_.out (by kernel_rfl)) (fun _ _ _ h => h) (Or.inl ⟨by rfl, ?_⟩) ?_ ?_
 rotate_left
 ·intro w'
  go_simp
  with_reducible rfl
 rotate_left
 ·simp only [Act.put, s1, s2, s3, i64_w, i32_w]
  rfl
 refine take_ (i := 52) (N := some 92) (v := ?_) (a' := ?_) q55_53 rfl rfl (take_ofW HT_.out HW_.out (by kernel_rfl)) (fun _ _ _ h => h) (Or.inl ⟨by rfl, ?_⟩) hHeld ?_ ?_
 rotate_left
 ·rintro w' ⟨⟨s0, s1, s2⟩, s3, s4, s5⟩
  go_simp
  with_reducible rfl
 rotate_left
 ·simp only [Act.put, s1, s2, s3, i64_w, i32_w]
  rfl
 refine pure_ (i := 53) (N := some 93) (v := ?_) (a' := ?_) q55_54 rfl rfl (any_of HT_.out (by kernel_rfl)) (fun _ _ _ h => h) (Or.inl ⟨by rfl, ?_⟩) ?_ ?_
 rotate_left
 ·intro w'
  go_simp
  with_reducible rfl
 rotate_left
 ·simp only [Act.put, s1, s2, s3, i64_w, i32_w]
  rfl
 refine pure_ (i := 54) (N := some 94) (v := ?_) (a' := ?_) q55_55 rfl rfl (any_of HT_.out (by kernel_rfl)) (fun _ _ _ h => h) (Or.inl ⟨by rfl, ?_⟩) ?_ ?_
 rotate_left
 ·intro w'
  go_simp
  with_reducible rfl
 rotate_left
 ·simp only [Act.put, s1, s2, s3, i64_w, i32_w]
  rfl
 refine done_ (done_of HT_.out (by kernel_rfl)) ?_
 try go_wp2
 have hb := below_drew (Below.refl w'.heap.size w')
 replace BG := Aside0.mk (blk_below BG.out hb); replace BO := Aside0.mk (blk_below BO.out hb); replace HB := Aside0.mk (below_step HB.out hb); replace HR := Aside0.mk (Kd.C_below HR.out hb); replace HS := Aside0.mk (Kd.S_below HS.out hb); replace hg0 := cellB hb hg0; replace ho0 := cellB hb ho0; replace ho1 := cellB hb ho1; replace ho2 := cellB hb ho2; replace HH := Aside0.mk (Kd.H_below HH.out hb); replace HD := Aside0.mk (kJM_below HD.out hb); replace hp0 := cellB hb hp0; replace hp1 := cellB hb hp1; replace hp2 := cellB hb hp2; (replace HRD := Aside0.mk (Kd.C_below HRD.out hb)); clear hb
 refine start_ (n := 10) (S := (fun W => (W.cell? ⟨gr, m * 3, none⟩ = some (.int .i64 p.1) ∧ W.cell? ⟨gr, m * 3 + 1, none⟩ = some (.int .i64 p.2.1) ∧ W.cell? ⟨gr, m * 3 + 2, none⟩ = some (.slice Ad p.2.2.length cd)) ∧ W.cell? ⟨gb, 0, none⟩ = some (.int .i64 a) ∧ W.cell? ⟨gb, 1, none⟩ = some (.int .i64 b) ∧ W.cell? ⟨gb, 2, none⟩ = some (.slice A l.length c))) (ds := [9]) q10_0 (by kernel_rfl) rfl rfl ⟨⟨hp0, hp1, hp2⟩, ho0, ho1, ho2⟩ (fun hHeld => ?_)
 refine with_tabW add.tab10 add.bits10 (fun HT_ HW_ => ?_)
 generalize w'.drew = w9 at BG BO HB HR HS hg0 ho0 ho1 ho2 HH HD HRD hp0 hp1 hp2 hHeld ⊢
 refine pure_ (i := 0) (N := some 95) (v := ?_) (a' := ?_) q10_1 rfl rfl (any_of HT_.out (by kernel_rfl)) (fun _ _ _ h => h) (Or.inl ⟨by rfl, ?_⟩) ?_ ?_
 rotate_left
 ·intro w'
  go_simp
  with_reducible rfl
 rotate_left
 ·simp only [Act.put, s1, s2, s3, i64_w, i32_w]
  rfl
 refine pure_ (i := 1) (N := some 96) (v := ?_) (a' := ?_) q10_2 rfl rfl (any_of HT_.out (by kernel_rfl)) (fun _ _ _ h => h) (Or.inl ⟨by rfl, ?_⟩) ?_ ?_
 rotate_left
 ·intro w'
  go_simp
  with_reducible rfl
 rotate_left
 ·simp only [Act.put, s1, s2, s3, i64_w, i32_w]
  rfl
 refine pure_ (i := 2) (N := some 97) (v := ?_) (a' := ?_) q10_3 rfl rfl (any_of HT_.out (by kernel_rfl)) (fun _ _ _ h => h) (Or.inl ⟨by rfl, ?_⟩) ?_ ?_
 rotate_left
 ·intro w'
  go_simp
  with_reducible rfl
 rotate_left
 ·simp only [Act.put, s1, s2, s3, i64_w, i32_w]
  rfl
 refine take_ (i := 3) (N := some 98) (v := ?_) (a' := ?_) q10_4 rfl rfl (take_ofW HT_.out HW_.out (by kernel_rfl)) (fun _ _ _ h => h) (Or.inl ⟨by rfl, ?_⟩) hHeld ?_ ?_
 rotate_left
 ·rintro w' ⟨⟨s0, s1, s2⟩, s3, s4, s5⟩
  go_simp
  with_reducible rfl
 rotate_left
 ·simp only [Act.put, s1, s2, s3, i64_w, i32_w]
  rfl
 refine pure_ (i := 4) (N := some 99) (v := ?_) (a' := ?_) q10_5 rfl rfl (any_of HT_.out (by kernel_rfl)) (fun _ _ _ h => h) (Or.inl ⟨by rfl, ?_⟩) ?_ ?_
 rotate_left
 ·intro w'
  go_simp
  with_reducible rfl
 rotate_left
 ·simp only [Act.put, s1, s2, s3, i64_w, i32_w]
  rfl
 refine take_ (i := 5) (N := some 100) (v := ?_) (a' := ?_) q10_6 rfl rfl (take_ofW HT_.out HW_.out (by kernel_rfl)) (fun _ _ _ h => h) (Or.inl ⟨by rfl, ?_⟩) hHeld ?_ ?_
 rotate_left
 ·rintro w' ⟨⟨s0, s1, s2⟩, s3, s4, s5⟩
  go_simp
  with_reducible rfl
 rotate_left
 ·simp only [Act.put, s1, s2, s3, i64_w, i32_w]
  rfl
 refine pure_ (i := 6) (N := some 101) (v := ?_) (a' := ?_) q10_7 rfl rfl (any_of HT_.out (by kernel_rfl)) (fun _ _ _ h => h) (Or.inl ⟨by rfl, ?_⟩) ?_ ?_
 rotate_left
 ·intro w'
  go_simp
  with_reducible rfl
 rotate_left
 ·simp only [Act.put, s1, s2, s3, i64_w, i32_w]
  rfl
 refine pure_ (i := 7) (N := some 102) (v := ?_) (a' := ?_) q10_8 rfl rfl (any_of HT_.out (by kernel_rfl)) (fun _ _ _ h => h) (Or.inl ⟨by rfl, ?_⟩) ?_ ?_
 rotate_left
 ·intro w'
  go_simp
  with_reducible rfl
 rotate_left
 ·simp only [Act.put, s1, s2, s3, i64_w, i32_w]
  rfl
 refine pure_ (i := 8) (N := some 103) (v := ?_) (a' := ?_) q10_9 rfl rfl (any_of HT_.out (by kernel_rfl)) (fun _ _ _ h => h) (Or.inl ⟨by rfl, ?_⟩) ?_ ?_
 rotate_left
 ·intro w'
  go_simp
  with_reducible rfl
 rotate_left
 ·simp only [Act.put, s1, s2, s3, i64_w, i32_w]
  rfl
 refine last_ (i := 9) (N := none) q10_10 rfl rfl (one_of HT_.out (by kernel_rfl)) (by decide) (fun K hK => ?_)
 obtain ⟨W1, hrun, hs1, hg1⟩ := H_run (P := Tryd.prog) kJ (j := 1) (seg := [.int .i64 (wrap64 (p.2.1 + b))]) (x' := (p.1, wrap64 (p.2.1 + b), p.2.2)) (okp := oki) 3 (.int .i64 (wrap64 (p.2.1 + b))) rfl inf3 (by intro q hq; rw [List.mem_singleton.1 hq]; rfl) HH.out (by omega) (by omega) (show 2 ≤ 3 by decide) (kJ_len2 HD.out) (fun _ hk => hk)
 refine store_skip (by rfl) rfl 3 (.tmp 103) (.tmp 101) rfl (ptr := .pointer (some ⟨gr, m * 3 + 1, none⟩)) (u := .int .i64 (wrap64 (p.2.1 + b))) rfl rfl hrun ?_
 have hgr : base ≤ gr ∧ ok gr := ⟨Kd.R_base (Kd.S_R hs1) gr rfl, ((Kd.S_R hs1).1 gr rfl).1⟩
 have hset : (ys ++ [p]).set ((m : Int)).toNat (p.1, wrap64 (p.2.1 + b), p.2.2) = ys ++ [(p.1, wrap64 (p.2.1 + b), p.2.2)] := by
  have := HM.out
  subst this
  simp
 rw [hset] at hs1
 have BG2 := Aside0.mk (blk_grown BG.out hg1 (fun e => HG.out (by injection e with e; rw [e]; exact hgr.2)))
 have HS2 := Aside0.mk (Kd.S_mono hs1 (fun k hk => hk.1))
 have HB2 := Aside0.mk (belowG (belowLe HB.out HK.out) hg1 (Nat.le_trans HK.out HB.out.size) (fun k hk => by injection hk with hk; rw [← hk]; exact hgr.1))
 have HKp2 := Aside0.mk (Kept.of_grown hg1 (Kept.of_below HB.out (fun k => ok k ∨ k = g)) (fun k hk => by injection hk with hk; rw [← hk]; exact .inl (.inl hgr.2)))
 refine hK.out _ _ ?_
 refine done_ (done_of HT_.out (by kernel_rfl)) ?_
 clear hK K hrun hs1 hg1
 try go_wp2
 refine bodyPost_ret (results_none rfl _ _ _) rfl ?_
 exact ⟨rfl, ⟨⟨_, BG2.out, HS2.out, fun h => absurd h (by simp)⟩⟩, HKp2.out, HB2.out⟩

end Go.Proofs.YtifmajnhcbicnaaDoor.Jn
