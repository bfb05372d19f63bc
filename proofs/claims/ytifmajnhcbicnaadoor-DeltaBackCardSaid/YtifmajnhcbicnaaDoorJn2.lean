/- The joiner's add, way by way. -/
import Derived.Test.YtifmajnhcbicnaaDoorJn1
namespace Go.Proofs.YtifmajnhcbicnaaDoor.Jn
open Go.RowKit Go.Proofs.YtifmajnhcbicnaaDoorW.PrintWords Go.Proofs.YtifmajnhcbicnaaDoorW.PrintLast Go.Proofs.YtifmajnhcbicnaaDoorW.PrintMore
set_option linter.unusedVariables false
set_option linter.unusedSimpArgs false
set_option maxHeartbeats 16000000 in
set_option maxRecDepth 100000 in
theorem add_C1 (base : Nat) (ok : Nat → Prop) (g : Nat) (a b : Int) (A : Option Addr) (c : Nat) (l : List Int) (w : World) (v : Value) (xs : List T3) (hr : (Kd.int .u8).C w A l.length l) (hc : l.length ≤ c)
  (hg : w.heap[g]? = some (.cells #[v] 22 (0, 0))) (hS : Kd.S kJ 38 w base ok v xs) (hbase : base ≤ w.heap.size) (hfresh : ∀ k, w.heap.size ≤ k → ok k) (hng : ¬ ok g) (hx : (xs.length + 1) * 40 ≤ 140737488355328) (hbg : base ≤ g) (hb : 0 < b) (hl : l = []) (hv : v = .slice none 0 0) (hxs : xs = []) :
  Calls Tryd.prog 43 #[.agg #[.int .i64 a, .int .i64 b, .slice A l.length c], .pointer (some ⟨g, 0, none⟩)] w fun e w' => e = .returned (.tuple #[]) ∧ Box base ok g w' (xs ++ [(a, b, l)]) ∧ Kept w w' (fun k => ok k ∨ k = g) ∧ Below base w w' := by
 have HB := Aside0.mk (Below.refl w.heap.size w)
 have BG := Aside0.mk hg
 have hg0 : w.cell? ⟨g, 0, none⟩ = some v := (blk_cell hg 0).trans rfl
 have HR := Aside0.mk hr
 have HC := Aside0.mk hc
 have HX := Aside0.mk hx
 have HF := Aside0.mk hfresh
 have HG := Aside0.mk hng
 have HK := Aside0.mk hbase
 have HS := Aside0.mk (Kd.S_mono (ok' := fun k => ok k ∧ k < w.heap.size) (Kd.S_bound hS) (fun k h => ⟨h.1, h.2.2.1⟩))
 have HGB := Aside0.mk hbg
 subst hv
 subst hxs
 have HE := Aside0.mk hl
 have HL := Aside0.mk (show delta_length.f a b l = some b by rw [hl]; simp [delta_length.f, delta_told.f, mx]; omega)
 have HT := Aside0.mk (show delta_told.f a b l = some false by rw [hl]; simp [delta_told.f])
 have hz : (b == 0) = false := by simp; omega
 clear hr hc hx hfresh hng hbase hS hg hbg
 clear hl hb
 go_enter Tryd.func43, Tryd.ntmps43
 go_wp2_with (first | ((with_reducible refine gate_dst (N := 2) rfl ?_); refine box_event ?hg (N := 2) ?hd (cs := #[.int .i64 a, .int .i64 b, .slice A l.length c]) (t := 38) ?hr ?_; (case hd => rfl); (case hg => rfl); (case hr => first | (go_simp; done) | (go_simp; rfl)); intro gb hgb w2 hbox hb; replace BG := Aside0.mk (blk_below BG.out hb); replace HB := Aside0.mk (below_step HB.out hb); replace HR := Aside0.mk (Kd.C_below HR.out hb); replace HS := Aside0.mk (Kd.S_below HS.out hb); replace hg0 := cellB hb hg0; have BO := Aside0.mk hbox; have ho0 : w2.cell? ⟨gb, 0, none⟩ = some (.int .i64 a) := (blk_cell hbox 0).trans rfl; have ho1 : w2.cell? ⟨gb, 1, none⟩ = some (.int .i64 b) := (blk_cell hbox 1).trans rfl; have ho2 : w2.cell? ⟨gb, 2, none⟩ = some (.slice A l.length c) := (blk_cell hbox 2).trans rfl; have HGW := Aside0.mk hgb; clear hbox hb hgb) | ((with_reducible refine gate_dst (N := 6) rfl ?_); (with_reducible refine gate_callee (f := 31) rfl ?_); (try (refine gate_guard (by rfl) ?_; dsimp only)); refine goesL_ (some 6) rfl rfl Tryd.func31 (by kernel_rfl) rfl #[.agg #[.int .i64 a, .int .i64 b, .slice A l.length c]] rfl (by (try simp only [List.map_toArray, List.map_cons, List.map_nil]); first | done | rfl | (go_simp; done) | (go_simp; rfl)) ?_; (with_reducible refine (delta_length.calls a b _ _ l b _ ?side1 ?side2 HL.out).mono ?_); (case side1 => exact HR.out); (case side2 => exact HC.out); rintro e w' ⟨rfl, hb⟩; refine ⟨_, rfl, ?_⟩; replace BG := Aside0.mk (blk_below BG.out hb); replace BO := Aside0.mk (blk_below BO.out hb); replace HB := Aside0.mk (below_step HB.out hb); replace HR := Aside0.mk (Kd.C_below HR.out hb); replace HS := Aside0.mk (Kd.S_below HS.out hb); replace hg0 := cellB hb hg0; replace ho0 := cellB hb ho0; replace ho1 := cellB hb ho1; replace ho2 := cellB hb ho2; clear hb) | ((with_reducible refine gate_dst (N := 9) rfl ?_); (with_reducible refine gate_callee (f := 19) rfl ?_); (try (refine gate_guard (by rfl) ?_; dsimp only)); refine goesL_ (some 9) rfl rfl Tryd.func19 (by kernel_rfl) rfl #[.agg #[.int .i64 a, .int .i64 b, .slice A l.length c]] rfl (by (try simp only [List.map_toArray, List.map_cons, List.map_nil]); first | done | rfl | (go_simp; done) | (go_simp; rfl)) ?_; (with_reducible refine (delta_told.calls a b _ _ l false _ ?side1 ?side2 HT.out).mono ?_); (case side1 => exact HR.out); (case side2 => exact HC.out); rintro e w' ⟨rfl, hb⟩; refine ⟨_, rfl, ?_⟩; replace BG := Aside0.mk (blk_below BG.out hb); replace BO := Aside0.mk (blk_below BO.out hb); replace HB := Aside0.mk (below_step HB.out hb); replace HR := Aside0.mk (Kd.C_below HR.out hb); replace HS := Aside0.mk (Kd.S_below HS.out hb); replace hg0 := cellB hb hg0; replace ho0 := cellB hb ho0; replace ho1 := cellB hb ho1; replace ho2 := cellB hb ho2; clear hb) | ((with_reducible refine gate_dst (N := 107) rfl ?_); (with_reducible refine gate_builtin (b := .append) (xs := #[.tmp 104, .tmp 106]) rfl ?_); at_builtin; refine Kd.S_append kJ (w0 := w) base rfl (.tmp 104) (.tmp 106) 22 38 (.agg #[(.int .i64 0), (.int .i64 0), (.slice none 0 0)]) 40 rfl Tryd.underlying22 info38 rfl (by decide) (by omega) (.slice none 0 0) [] (a, b, l) [.int .i64 a, .int .i64 b, .slice A l.length c] ok (fun _ => False) rfl rfl ?aP ?aQ ?aF ?aO ?aB ?aS ?aL ?_; (case aP => exact kJ_mk0' HE.out _ _ _ _ _ _ _); (case aQ => exact fun k hk => hk.elim); (case aF => exact fun k hk => HF.out k (Nat.le_trans HB.out.size hk)); (case aO => exact Kd.S_mono HS.out (fun k hk => ⟨hk.1, fun h => h⟩)); (case aB => exact belowLe HB.out HK.out); (case aS => exact Nat.le_trans HK.out HB.out.size); (case aL => exact HX.out); intro v1 w1 hs1 hb1 hg1 hat; replace BG := Aside0.mk (blk_grown BG.out hg1 (Kd.S_away HS.out (fun k hk e => HG.out (e ▸ hk.1)))); have HB1 := Aside0.mk hb1; have HS1 := Aside0.mk hs1; have HKp := Aside0.mk (Kept.of_grown hg1 (Kept.of_below HB.out (fun k => ok k ∨ k = g)) (fun k hk => .inl (.inl ((Kd.S_R HS.out).1 k hk).1))); replace ho0 := trivial; replace ho1 := trivial; replace ho2 := trivial; replace hg0 := trivial; clear hat hb1 hs1 hg1) | (refine store_event rfl rfl 22 (.tmp 1) (.tmp 107) rfl (g := g) (j := 0) (e := 22) (cs := #[(.slice none 0 0)]) (cs' := #[v1]) (u := v1) (seg := [v1]) rfl rfl ?sv inf22 ?so BG.out (Nat.le_refl _) ?sc ?_; (case sv => exact (Kd.R_val (Kd.S_R HS1.out)).1); (case so => intro q hq; rw [List.mem_singleton.1 hq]; exact (Kd.R_val (Kd.S_R HS1.out)).2); (case sc => exact blk_put BG.out 0 v1 rfl); intro w2 hb2 hg2; have BG2 := Aside0.mk hb2; have HS2 := Aside0.mk (Kd.S_grown HS1.out hg2 (fun k hk e => HG.out (by injection e with e; exact e ▸ hk))); have HB2 := Aside0.mk (belowG HB1.out hg2 (Nat.le_trans HK.out (HB1.out.size)) (fun k hk => by injection hk with hk; rw [← hk]; exact HGB.out)); have HKp2 := Aside0.mk (Kept.of_grown hg2 HKp.out (fun k hk => by injection hk with hk; exact .inl (.inr hk.symm))); clear hb2 hg2))
 go_end0
 exact ⟨rfl, ⟨⟨_, BG2.out, HS2.out, fun h => absurd h (by simp)⟩⟩, HKp2.out, HB2.out⟩

end Go.Proofs.YtifmajnhcbicnaaDoor.Jn
