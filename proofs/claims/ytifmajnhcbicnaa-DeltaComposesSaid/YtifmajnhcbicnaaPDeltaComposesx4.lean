-- Written by a program of this session (the kit's printer with hand-written contracts among its functions).
import Derived.Test.YtifmajnhcbicnaaPDeltaComposesx0
import Derived.Test.YtifmajnhcbicnaaPDeltaComposesx1
import Derived.Test.YtifmajnhcbicnaaPDeltaComposesx2
import Derived.Test.YtifmajnhcbicnaaPDeltaComposesx3
namespace Go.Proofs.Ytifmajnhcbicnaa.PDeltaComposes
open Go.RowKit Go.Proofs.YtifmajnhcbicnaaW.PrintWords Go.Proofs.YtifmajnhcbicnaaW.PrintLast Go.Proofs.YtifmajnhcbicnaaW.PrintMore
attribute [local go_sem] max2_int min2_int max_two min_two max_three min_three max_four min_four   -- for this text's walks alone
set_option linter.unusedVariables false
set_option linter.unusedSimpArgs false

/-! ### delta_Then: function 29 -/
def tooMuch (xs : List Jn.T3) : Prop := ¬ (xs.length ≤ 900000 ∧ Jn.wt xs ≤ 900000000)
instance (xs : List Jn.T3) : Decidable (tooMuch xs) := by unfold tooMuch; infer_instance
def delta_Then.l0 (k : Nat) (a : List (S40)) : List (S40) → List Jn.T3 → Option (List Jn.T3)
  | [], acc => some acc
  | o :: b, acc => if tooMuch acc ∨ 1000000 < o.f2.length then none else (delta_told.f o.f0 o.f1 o.f2).bind fun t => if t = true then delta_Then.l0 k a b (Jn.addL acc (toT o)) else
      (delta_Part.f k a o.f0 (wrap64 (o.f0 + o.f1))).bind fun p => if 90000 < p.1.length ∨ 90000000 < Jn.wt (p.1.map toT) then none else delta_Then.l0 k a b ((p.1.map toT).foldl Jn.addL acc)
def delta_Then.f (k : Nat) (l0 : List (S40)) (l1 : List (S40)) : Option (List (S40) × Int) :=
  (delta_Check.f k l0 131072).bind fun e => if e = 0 then (delta_Size.f k l0).bind fun n => (delta_Check.f k l1 n).bind fun e2 => if e2 = 0 then (if 1000000 < l1.length then none else (delta_Then.l0 k l0 l1 []).bind fun out => if (out.length : Int) > 8192 then some ([], 7) else some (out.map ofT, 0)) else some ([], e2) else some ([], e)
theorem delta_Then.mono_l (k : Nat) (a : List (S40)) : ∀ (b : List (S40)) (acc : List Jn.T3), LeO (delta_Then.l0 k a b acc) (delta_Then.l0 (k + 1) a b acc)
  | [], acc => fun r h => h
  | o :: b, acc => by
    unfold delta_Then.l0
    refine LeO.ite (LeO.none _) (LeO.bind (LeO.refl _) (fun t => LeO.ite (delta_Then.mono_l k a b _) (LeO.bind (delta_Part.mono _ _ _ _) (fun p => LeO.ite (LeO.none _) (delta_Then.mono_l k a b _)))))
theorem delta_Then.mono : ∀ a0 a1 k, LeO (delta_Then.f k a0 a1) (delta_Then.f (k + 1) a0 a1) := by
  intro a0 a1 k
  unfold delta_Then.f
  exact LeO.bind (delta_Check.mono _ _ _) (fun e => LeO.ite (LeO.bind (delta_Size.mono _ _) (fun n => LeO.bind (delta_Check.mono _ _ _) (fun e2 => LeO.ite (LeO.ite (LeO.none _) (LeO.bind (delta_Then.mono_l k a0 a1 []) (fun out => LeO.refl _))) (LeO.refl _)))) (LeO.refl _))
theorem thenN {W w6 : World} {v : Value} {p : List (S40)} (h : Kd.S k40 40 w6 W.heap.size (fun _ => True) v p) : Kd.N k40 40 w6 W.heap.size (fun k_ => W.heap.size ≤ k_ ∧ k_ < w6.heap.size) v p := Kd.N_mono (Kd.S_N (Kd.S_bound h)) (fun _ hk => ⟨hk.2.1, hk.2.2.1⟩)
set_option maxHeartbeats 8000000 in
set_option maxRecDepth 100000 in
theorem delta_Then.calls (k : Nat) (A0 : Option Addr) (c0 : Nat) (l0 : List (S40)) (A1 : Option Addr) (c1 : Nat) (l1 : List (S40)) (r1 : List (S40)) (r2 : Int) (w : World) (hr0 : Kd.C k40 w A0 l0.length l0) (hc0 : l0.length ≤ c0) (hr1 : Kd.C k40 w A1 l1.length l1) (hc1 : l1.length ≤ c1) (h : delta_Then.f k l0 l1 = some (r1, r2)) :
    Calls Try.prog 29 #[.slice A0 l0.length c0, .slice A1 l1.length c1] w fun e w' => ∃ v0_ : Value, e = .returned (.tuple #[v0_, .int .i64 r2]) ∧ Kd.N k40 40 w' w.heap.size (fun k_ => (w.heap.size ≤ k_)) v0_ r1 ∧ Below w.heap.size w w' := by
  unfold delta_Then.f at h
  have HR0 := Aside0.mk hr0
  have HC0 := Aside0.mk hc0
  have HR1 := Aside0.mk hr1
  have HC1 := Aside0.mk hc1
  have HB := Aside0.mk (Below.refl w.heap.size w)
  clear hr0 hc0 hr1 hc1
  replace h := Option.bind_eq_some_iff.mp h
  obtain ⟨e1, hE1, h⟩ := h
  have HE1 := Aside0.mk hE1
  clear hE1
  by_cases q1 : e1 = 0
  · subst q1
    rw [if_pos rfl] at h
    replace h := Option.bind_eq_some_iff.mp h
    obtain ⟨sz, hSZ, h⟩ := h
    have HSZ := Aside0.mk hSZ
    clear hSZ
    replace h := Option.bind_eq_some_iff.mp h
    obtain ⟨e2, hE2, h⟩ := h
    have HE2 := Aside0.mk hE2
    clear hE2
    by_cases q2 : e2 = 0
    · subst q2
      rw [if_pos rfl] at h
      by_cases q3 : 1000000 < l1.length
      · rw [if_pos q3] at h; cases h
      rw [if_neg q3] at h
      replace h := Option.bind_eq_some_iff.mp h
      obtain ⟨out, hOUT, h⟩ := h
      have HL1 := Aside0.mk (show l1.length ≤ 1000000 by omega)
      have HOUT := Aside0.mk hOUT
      have HFIN := Aside0.mk h
      clear hOUT h q3
      go_enter Try.func29, Try.ntmps29
      go_wp2_with (first
        | ((with_reducible refine gate_dst (N := 18) rfl ?_); refine goesL_ (some 18) rfl rfl Try.func14 (by kernel_rfl) rfl #[.slice A0 l0.length c0, .int .i64 131072] rfl (by (try simp only [List.map_toArray, List.map_cons, List.map_nil]); first | done | rfl) ?_; refine (delta_Check.calls k A0 c0 l0 131072 0 _ (Kd.C_below HR0.out HB.out) HC0.out HE1.out).mono ?_; rintro e w1 ⟨rfl, hb⟩; refine ⟨_, rfl, ?_⟩; replace HB := Aside0.mk (below_step HB.out hb); clear hb)
        | ((with_reducible refine gate_dst (N := 24) rfl ?_); refine goesL_ (some 24) rfl rfl Try.func16 (by kernel_rfl) rfl #[.slice A0 l0.length c0] rfl (by (try simp only [List.map_toArray, List.map_cons, List.map_nil]); first | done | rfl) ?_; refine (delta_Size.calls k A0 c0 l0 sz _ (Kd.C_below HR0.out HB.out) HC0.out HSZ.out).mono ?_; rintro e w1 ⟨rfl, hb⟩; refine ⟨_, rfl, ?_⟩; replace HB := Aside0.mk (below_step HB.out hb); clear hb)
        | ((with_reducible refine gate_dst (N := 25) rfl ?_); refine goesL_ (some 25) rfl rfl Try.func14 (by kernel_rfl) rfl #[.slice A1 l1.length c1, .int .i64 sz] rfl (by (try simp only [List.map_toArray, List.map_cons, List.map_nil]); first | done | rfl) ?_; refine (delta_Check.calls k A1 c1 l1 sz 0 _ (Kd.C_below HR1.out HB.out) HC1.out HE2.out).mono ?_; rintro e w1 ⟨rfl, hb⟩; refine ⟨_, rfl, ?_⟩; replace HB := Aside0.mk (below_step HB.out hb); clear hb)
        | ((with_reducible refine gate_dst (N := 30) rfl ?_); refine goesL_ (some 30) rfl rfl Try.func36 (by kernel_rfl) rfl #[] rfl (by first | (simp; done) | rfl) ?_; refine (Jn.joiner_calls _).mono ?_; rintro e w1 ⟨g, hgw, rfl, hbox, hb⟩; refine ⟨_, rfl, ?_⟩; have HGW := Aside0.mk (show w.heap.size ≤ g by rw [hgw]; exact HB.out.size); have HBX : Aside0 (Jn.Box w.heap.size (Jn.okN w.heap.size g) g w1 []) := ⟨⟨⟨_, hbox, Kd.S_nil _ _ _ _ _, fun _ => rfl⟩⟩⟩; have HZ := Aside0.mk (show g < w1.heap.size from blk_lt hbox); replace HB := Aside0.mk (below_step HB.out hb); clear hgw hbox hb))
      go_loopg [35] l1.length (fun kq v35 w' => ∃ (i : Nat) (acc : List Jn.T3), v35 = .int .i64 (i : Int) ∧ Aside0 (i + kq = l1.length) ∧ Aside0 (delta_Then.l0 k l0 (l1.drop i) acc = some out) ∧ Aside0 (Jn.Box w.heap.size (Jn.okN w.heap.size g) g w' acc) ∧ Aside0 (Below w.heap.size w w') ∧ Aside0 (g < w'.heap.size))
      case atStart => exact ⟨0, [], rfl, ⟨by omega⟩, ⟨by rw [List.drop_zero]; exact HOUT.out⟩, HBX, HB, HZ⟩
      case round =>
        clear HBX HB HZ HOUT
        obtain ⟨i, acc, rfl, HI, HTH, HBX, HB, HZ⟩ := hrel
        by_cases hi : i < l1.length
        · obtain ⟨n1, hn1⟩ : ∃ n1, gk = n1 + 1 := ⟨gk - 1, by have := HI.out; omega⟩
          subst hn1
          have ht : decide ((i : Int) < (l1.length : Int)) = true := decide_eq_true (by omega)
          have htN : decide (i < l1.length) = true := decide_eq_true hi
          have hi1 := eq_true hi
          have hi2 := eq_true (show (0 : Int) ≤ (i : Int) by omega)
          have hi3 := eq_true (show (i : Int) < (l1.length : Int) by omega)
          have hw1 : wrap64 ((i : Int) + 1) = ((i + 1 : Nat) : Int) := by have := HL1.out; unfold wrap64; omega
          have hT := HTH.out
          rw [List.drop_eq_getElem_cons hi] at hT
          obtain ⟨ad, A2, c2, e, hx0, hx1, hx2, hl2, hR2⟩ := at_T40 HR1.out (i : Int) (by omega) (by omega)
          subst e
          have hrd : rd_T40 l1 (i : Int) = l1[i] := by unfold rd_T40; rw [Int.toNat_natCast, List.getD_eq_getElem?_getD, List.getElem?_eq_getElem hi, Option.getD_some]
          rw [hrd] at hx0 hx1 hx2 hl2 hR2
          rw [Int.toNat_natCast] at hx0 hx1 hx2
          replace hx0 := (HB.out.cell (World.block_lt_of_cell? w _ hx0)).trans hx0
          replace hx1 := (HB.out.cell (World.block_lt_of_cell? w _ hx1)).trans hx1
          replace hx2 := (HB.out.cell (World.block_lt_of_cell? w _ hx2)).trans hx2
          obtain ⟨o, ho⟩ : ∃ o : S40, o = l1[i] := ⟨_, rfl⟩
          rw [← ho] at hx0 hx1 hx2 hl2 hR2 hT
          have HR2 := Aside0.mk hR2
          have HC2 := Aside0.mk hl2
          unfold delta_Then.l0 at hT
          by_cases hm : tooMuch acc ∨ 1000000 < o.f2.length
          · rw [if_pos hm] at hT; cases hT
          rw [if_neg hm] at hT
          have HM : Aside0 ((acc.length ≤ 900000 ∧ Jn.wt acc ≤ 900000000) ∧ o.f2.length ≤ 1000000) := ⟨⟨Classical.byContradiction fun h => hm (.inl h), by
            rcases Nat.lt_or_ge 1000000 o.f2.length with h | h
            · exact absurd (.inr h) hm
            · exact h⟩⟩
          replace hT := Option.bind_eq_some_iff.mp hT
          obtain ⟨tb, hTB, hT⟩ := hT
          have HTB := Aside0.mk hTB
          have HT2 := Aside0.mk hT
          clear hl2 hR2 ho hrd hm hTB hT HTH
          have BOXARM : True := trivial
          cases tb with
          | true =>
            have HT3 : Aside0 (delta_Then.l0 k l0 (l1.drop (i + 1)) (Jn.addL acc (toT o)) = some out) := ⟨by have := HT2.out; rwa [if_pos rfl] at this⟩
            clear HT2
            go_wp2_with (first
              | ((with_reducible refine gate_dst (N := 11) rfl ?_); refine box_event ?hg (N := 11) ?hd (cs := #[.int .i64 0, .int .i64 0, .slice none 0 0]) (t := 40) ?hr ?_; (case hd => rfl); (case hg => rfl); (case hr => first | (go_simp; done) | (go_simp; rfl)); intro gb hgb w2 hbox hb; have HGB := Aside0.mk (Nat.le_of_eq hgb.symm); replace HBX := Aside0.mk (Jn.Box_below (Jn.Box_mono (ok' := fun k_ => Jn.okN w.heap.size g k_ ∧ k_ < gb) (Jn.Box_bound HBX.out) (fun k_ hk => ⟨hk.1, by rw [hgb]; exact hk.2⟩)) hb); have HGB2 := Aside0.mk (show g < gb by rw [hgb]; exact HZ.out); replace HZ := Aside0.mk (Nat.lt_of_lt_of_le HZ.out hb.size); replace HB := Aside0.mk (below_step HB.out hb); have BO := Aside0.mk hbox; clear hbox hb hgb)
              | (refine Jn.store_event rfl rfl 40 (.tmp 11) (.tmp 38) rfl (g := gb) (j := 0) (e := 40) (cs := #[.int .i64 0, .int .i64 0, .slice none 0 0]) (cs' := #[.int .i64 o.f0, .int .i64 o.f1, .slice A2 o.f2.length c2]) (u := .agg #[.int .i64 o.f0, .int .i64 o.f1, .slice A2 o.f2.length c2]) (seg := [.int .i64 o.f0, .int .i64 o.f1, .slice A2 o.f2.length c2]) rfl rfl rfl Jn.inf40 ?so BO.out (Nat.le_refl _) ?sc ?_; (case so => intro q hq; simp only [List.mem_cons, List.not_mem_nil, or_false] at hq; rcases hq with rfl | rfl | rfl <;> rfl); (case sc => exact blk_put (blk_put (blk_put BO.out 0 _ rfl) 1 _ rfl) 2 _ rfl); intro w3 hb3 hg3; replace HBX := Aside0.mk (Jn.Box_mono (Jn.Box_grown HBX.out hg3 (fun e => by injection e with e; have := HGB2.out; omega) (fun k_ hk e => by injection e with e; have := hk.2; omega)) (fun k_ hk => hk.1)); replace HB := Aside0.mk (Jn.belowG HB.out hg3 HB.out.size (fun k_ hk => by injection hk with hk; have := HGB2.out; have := HGW.out; omega)); replace HZ := Aside0.mk (Nat.lt_of_lt_of_le HZ.out hg3.size); replace hx0 := trivial; replace hx1 := trivial; replace hx2 := trivial; replace BO := Aside0.mk hb3; have ho0 : w3.cell? ⟨gb, 0, none⟩ = some (.int .i64 o.f0) := (blk_cell hb3 0).trans rfl; have ho1 : w3.cell? ⟨gb, 1, none⟩ = some (.int .i64 o.f1) := (blk_cell hb3 1).trans rfl; have ho2 : w3.cell? ⟨gb, 2, none⟩ = some (.slice A2 o.f2.length c2) := (blk_cell hb3 2).trans rfl; clear hb3 hg3)
              | ((with_reducible refine gate_dst (N := 40) rfl ?_); refine goesL_ (some 40) rfl rfl Try.func31 (by kernel_rfl) rfl #[.agg #[.int .i64 o.f0, .int .i64 o.f1, .slice A2 o.f2.length c2]] rfl (by (try simp only [List.map_toArray, List.map_cons, List.map_nil]); first | done | rfl) ?_; refine (delta_told.calls o.f0 o.f1 A2 c2 o.f2 _ _ (Kd.C_below HR2.out HB.out) HC2.out HTB.out).mono ?_; rintro e w4 ⟨rfl, hb⟩; refine ⟨_, rfl, ?_⟩; replace HBX := Aside0.mk (Jn.Box_below HBX.out hb); replace HB := Aside0.mk (below_step HB.out hb); replace HZ := Aside0.mk (Nat.lt_of_lt_of_le HZ.out hb.size); replace BO := Aside0.mk (blk_below BO.out hb); replace ho0 := Jn.cellB hb ho0; replace ho1 := Jn.cellB hb ho1; replace ho2 := Jn.cellB hb ho2; clear hb)
              | ((with_reducible refine gate_dst (N := 43) rfl ?_); refine Jn.goesC_ (some 43) rfl rfl Try.func39 (by kernel_rfl) rfl #[.agg #[.int .i64 o.f0, .int .i64 o.f1, .slice A2 o.f2.length c2]] rfl rfl (by (try simp only [List.map_toArray, List.map_cons, List.map_nil]); first | done | rfl) ?_; refine (Jn.add_calls w.heap.size (Jn.okN w.heap.size g) g o.f0 o.f1 A2 c2 o.f2 _ acc (Kd.C_below HR2.out HB.out) HC2.out HBX.out HB.out.size ?hf ?hng ?hbg ?hx ?hl0 ?hpl).mono ?_; (case hf => intro k_ hk; exact ⟨Nat.le_trans HB.out.size hk, by have := HZ.out; omega⟩); (case hng => exact fun h => h.2 rfl); (case hbg => exact HGW.out); (case hx => have := HM.out; omega); (case hl0 => have := HM.out; omega); (case hpl => intro q hq; have h0 := Jn.wt_mem hq; have := HM.out; omega); rintro e w5 ⟨rfl, hbx, hkp, hbl⟩; refine ⟨_, rfl, ?_⟩; replace HBX := Aside0.mk hbx; replace HB := Aside0.mk (HB.out.trans hbl); replace HZ := Aside0.mk (Nat.lt_of_lt_of_le HZ.out hbl.size); clear hbx hkp hbl))
            go_roundg n1
            case measure => omega
            case rel => exact ⟨i + 1, _, (by first | rfl | (simp; done) | (simp [*]; done)), ⟨by have := HI.out; omega⟩, HT3, HBX, HB, HZ⟩
          | false =>
            have hT := HT2.out
            rw [if_neg (by decide)] at hT
            replace hT := Option.bind_eq_some_iff.mp hT
            obtain ⟨⟨p, pe⟩, hP, hT⟩ := hT
            have HP := Aside0.mk hP
            by_cases hm2 : 90000 < p.length ∨ 90000000 < Jn.wt (p.map toT)
            · rw [if_pos hm2] at hT; cases hT
            rw [if_neg hm2] at hT
            have HT3 := Aside0.mk hT
            have HM2 : Aside0 (p.length ≤ 90000 ∧ Jn.wt (p.map toT) ≤ 90000000) := ⟨by omega⟩
            clear HT2 hP hT hm2
            go_wp2_with (first
              | ((with_reducible refine gate_dst (N := 11) rfl ?_); refine box_event ?hg (N := 11) ?hd (cs := #[.int .i64 0, .int .i64 0, .slice none 0 0]) (t := 40) ?hr ?_; (case hd => rfl); (case hg => rfl); (case hr => first | (go_simp; done) | (go_simp; rfl)); intro gb hgb w2 hbox hb; have HGB := Aside0.mk (Nat.le_of_eq hgb.symm); replace HBX := Aside0.mk (Jn.Box_below (Jn.Box_mono (ok' := fun k_ => Jn.okN w.heap.size g k_ ∧ k_ < gb) (Jn.Box_bound HBX.out) (fun k_ hk => ⟨hk.1, by rw [hgb]; exact hk.2⟩)) hb); have HGB2 := Aside0.mk (show g < gb by rw [hgb]; exact HZ.out); replace HZ := Aside0.mk (Nat.lt_of_lt_of_le HZ.out hb.size); replace HB := Aside0.mk (below_step HB.out hb); have BO := Aside0.mk hbox; clear hbox hb hgb)
              | (refine Jn.store_event rfl rfl 40 (.tmp 11) (.tmp 38) rfl (g := gb) (j := 0) (e := 40) (cs := #[.int .i64 0, .int .i64 0, .slice none 0 0]) (cs' := #[.int .i64 o.f0, .int .i64 o.f1, .slice A2 o.f2.length c2]) (u := .agg #[.int .i64 o.f0, .int .i64 o.f1, .slice A2 o.f2.length c2]) (seg := [.int .i64 o.f0, .int .i64 o.f1, .slice A2 o.f2.length c2]) rfl rfl rfl Jn.inf40 ?so BO.out (Nat.le_refl _) ?sc ?_; (case so => intro q hq; simp only [List.mem_cons, List.not_mem_nil, or_false] at hq; rcases hq with rfl | rfl | rfl <;> rfl); (case sc => exact blk_put (blk_put (blk_put BO.out 0 _ rfl) 1 _ rfl) 2 _ rfl); intro w3 hb3 hg3; replace HBX := Aside0.mk (Jn.Box_mono (Jn.Box_grown HBX.out hg3 (fun e => by injection e with e; have := HGB2.out; omega) (fun k_ hk e => by injection e with e; have := hk.2; omega)) (fun k_ hk => hk.1)); replace HB := Aside0.mk (Jn.belowG HB.out hg3 HB.out.size (fun k_ hk => by injection hk with hk; have := HGB2.out; have := HGW.out; omega)); replace HZ := Aside0.mk (Nat.lt_of_lt_of_le HZ.out hg3.size); replace hx0 := trivial; replace hx1 := trivial; replace hx2 := trivial; replace BO := Aside0.mk hb3; have ho0 : w3.cell? ⟨gb, 0, none⟩ = some (.int .i64 o.f0) := (blk_cell hb3 0).trans rfl; have ho1 : w3.cell? ⟨gb, 1, none⟩ = some (.int .i64 o.f1) := (blk_cell hb3 1).trans rfl; have ho2 : w3.cell? ⟨gb, 2, none⟩ = some (.slice A2 o.f2.length c2) := (blk_cell hb3 2).trans rfl; clear hb3 hg3)
              | ((with_reducible refine gate_dst (N := 40) rfl ?_); refine goesL_ (some 40) rfl rfl Try.func31 (by kernel_rfl) rfl #[.agg #[.int .i64 o.f0, .int .i64 o.f1, .slice A2 o.f2.length c2]] rfl (by (try simp only [List.map_toArray, List.map_cons, List.map_nil]); first | done | rfl) ?_; refine (delta_told.calls o.f0 o.f1 A2 c2 o.f2 _ _ (Kd.C_below HR2.out HB.out) HC2.out HTB.out).mono ?_; rintro e w4 ⟨rfl, hb⟩; refine ⟨_, rfl, ?_⟩; replace HBX := Aside0.mk (Jn.Box_below HBX.out hb); replace HB := Aside0.mk (below_step HB.out hb); replace HZ := Aside0.mk (Nat.lt_of_lt_of_le HZ.out hb.size); replace BO := Aside0.mk (blk_below BO.out hb); replace ho0 := Jn.cellB hb ho0; replace ho1 := Jn.cellB hb ho1; replace ho2 := Jn.cellB hb ho2; clear hb)
              | ((with_reducible refine gate_dst (N := 53) rfl ?_); refine goesL_ (some 53) rfl rfl Try.func27 (by kernel_rfl) rfl #[.slice A0 l0.length c0, .int .i64 o.f0, .int .i64 (wrap64 (o.f0 + o.f1))] rfl (by (try simp only [List.map_toArray, List.map_cons, List.map_nil]); first | done | rfl) ?_; refine (delta_Part.calls k A0 c0 l0 o.f0 (wrap64 (o.f0 + o.f1)) p pe _ (Kd.C_below HR0.out HB.out) HC0.out HP.out).mono ?_; rintro e w6 ⟨v, rfl, hS, hb⟩; refine ⟨_, rfl, ?_⟩; obtain ⟨n0, n2, hn0, hn2, HPN, HZ2, HBX2⟩ : ∃ n0 n2 : Nat, n2 = w6.heap.size ∧ (n0 ≤ n2 ∧ g < n0) ∧ Aside0 (Kd.N k40 40 w6 n0 (fun k_ => n0 ≤ k_ ∧ k_ < n2) v p) ∧ Aside0 (g < w6.heap.size ∧ n2 ≤ w6.heap.size) ∧ Aside0 (Jn.Box w.heap.size (fun k_ => Jn.okN w.heap.size g k_ ∧ ¬ (n0 ≤ k_ ∧ k_ < n2)) g w6 acc) := ⟨_, _, rfl, ⟨hb.size, HZ.out⟩, ⟨thenN hS⟩, ⟨Nat.lt_of_lt_of_le HZ.out hb.size, Nat.le_refl _⟩, ⟨Jn.Box_mono (Jn.Box_below (Jn.Box_bound HBX.out) hb) (fun k_ hk => ⟨hk.1, fun h => by have := hk.2; omega⟩)⟩⟩; have HN0 := Aside0.mk hn2.2; clear HBX; have HBX := HBX2; clear HBX2; obtain ⟨Ap, cp, rfl⟩ := Kd.N_slice HPN.out; replace HB := Aside0.mk (below_step HB.out hb); have HN2 := Aside0.mk hn0; clear hS hb hn0 hn2; replace ho0 := trivial; replace ho1 := trivial; replace ho2 := trivial))
            go_loopg [58] p.length (fun kq v58 w' => ∃ (j : Nat) (acc2 : List Jn.T3), v58 = .int .i64 (j : Int) ∧ Aside0 (j + kq = p.length) ∧ Aside0 (acc2 = ((p.map toT).take j).foldl Jn.addL acc) ∧ Aside0 (Jn.Box w.heap.size (fun k_ => Jn.okN w.heap.size g k_ ∧ ¬ (n0 ≤ k_ ∧ k_ < n2)) g w' acc2) ∧ Aside0 (Below w.heap.size w w') ∧ Aside0 (g < w'.heap.size ∧ n2 ≤ w'.heap.size) ∧ Aside0 (Kd.N k40 40 w' n0 (fun k_ => n0 ≤ k_ ∧ k_ < n2) (.slice Ap p.length cp) p))
            case atStart => exact ⟨0, acc, rfl, ⟨by omega⟩, ⟨rfl⟩, HBX, HB, HZ2, HPN⟩
            case round =>
              clear HBX HB HZ HZ2 HPN
              obtain ⟨j, acc2, rfl, HJ, HACC, HBX, HB, HZ2, HPN⟩ := hrel
              by_cases hj : j < p.length
              · obtain ⟨m1, hm1⟩ : ∃ m1, gk = m1 + 1 := ⟨gk - 1, by have := HJ.out; omega⟩
                subst hm1
                have jt : decide ((j : Int) < (p.length : Int)) = true := decide_eq_true (by omega)
                have jtN : decide (j < p.length) = true := decide_eq_true hj
                have hj1 := eq_true hj
                have hj2 := eq_true (show (0 : Int) ≤ (j : Int) by omega)
                have hj3 := eq_true (show (j : Int) < (p.length : Int) by omega)
                have hw2 : wrap64 ((j : Int) + 1) = ((j + 1 : Nat) : Int) := by have := HM2.out; unfold wrap64; omega
                obtain ⟨ad2, A3, c3, e, hy0, hy1, hy2, hl3, hR3⟩ := at_T40 (Kd.N_reads' HPN.out).2.2 (j : Int) (by omega) (by omega)
                subst e
                have hrd : rd_T40 p (j : Int) = p[j] := by unfold rd_T40; rw [Int.toNat_natCast, List.getD_eq_getElem?_getD, List.getElem?_eq_getElem hj, Option.getD_some]
                rw [hrd] at hy0 hy1 hy2 hl3 hR3
                rw [Int.toNat_natCast] at hy0 hy1 hy2
                obtain ⟨x, hx⟩ : ∃ x : S40, x = p[j] := ⟨_, rfl⟩
                rw [← hx] at hy0 hy1 hy2 hl3 hR3
                have HR3 := Aside0.mk hR3
                have HC3 := Aside0.mk hl3
                have HXM : Aside0 (toT x ∈ p.map toT) := ⟨List.mem_map_of_mem (by rw [hx]; exact List.getElem_mem hj)⟩
                have HST : Aside0 (((p.map toT).take (j + 1)).foldl Jn.addL acc = Jn.addL (((p.map toT).take j).foldl Jn.addL acc) (toT x)) := ⟨by
                  rw [List.take_succ_eq_append_getElem (by rw [List.length_map]; exact hj), List.foldl_append, List.getElem_map, ← hx]; rfl⟩
                have HBr := Aside0.mk (Below.refl wr.heap.size wr)
                clear hl3 hR3 hx hrd
                go_wp2_with (first
                  | ((with_reducible refine gate_dst (N := 15) rfl ?_); refine box_event ?hg (N := 15) ?hd (cs := #[.int .i64 0, .int .i64 0, .slice none 0 0]) (t := 40) ?hr ?_; (case hd => rfl); (case hg => rfl); (case hr => first | (go_simp; done) | (go_simp; rfl)); intro gb hgb w2 hbox hb; have HGB := Aside0.mk (Nat.le_of_eq hgb.symm); replace HBX := Aside0.mk (Jn.Box_below (Jn.Box_mono (ok' := fun k_ => (Jn.okN w.heap.size g k_ ∧ ¬ (n0 ≤ k_ ∧ k_ < n2)) ∧ k_ < gb) (Jn.Box_bound HBX.out) (fun k_ hk => ⟨hk.1, by rw [hgb]; exact hk.2⟩)) hb); have HGB2 := Aside0.mk (show g < gb by rw [hgb]; exact HZ2.out.1); have HGB3 := Aside0.mk (show n2 ≤ gb by rw [hgb]; exact HZ2.out.2); have HGB4 := Aside0.mk (show wr.heap.size ≤ gb by rw [hgb]; exact HBr.out.size); replace HPN := Aside0.mk (Kd.N_below HPN.out hb); replace HZ2 := Aside0.mk (show g < w2.heap.size ∧ n2 ≤ w2.heap.size from ⟨Nat.lt_of_lt_of_le HZ2.out.1 hb.size, Nat.le_trans HZ2.out.2 hb.size⟩); replace HBr := Aside0.mk (below_step HBr.out hb); replace HB := Aside0.mk (below_step HB.out hb); have BO := Aside0.mk hbox; clear hbox hb hgb)
                  | (refine Jn.store_event rfl rfl 40 (.tmp 15) (.tmp 61) rfl (g := gb) (j := 0) (e := 40) (cs := #[.int .i64 0, .int .i64 0, .slice none 0 0]) (cs' := #[.int .i64 x.f0, .int .i64 x.f1, .slice A3 x.f2.length c3]) (u := .agg #[.int .i64 x.f0, .int .i64 x.f1, .slice A3 x.f2.length c3]) (seg := [.int .i64 x.f0, .int .i64 x.f1, .slice A3 x.f2.length c3]) rfl rfl rfl Jn.inf40 ?so BO.out (Nat.le_refl _) ?sc ?_; (case so => intro q hq; simp only [List.mem_cons, List.not_mem_nil, or_false] at hq; rcases hq with rfl | rfl | rfl <;> rfl); (case sc => exact blk_put (blk_put (blk_put BO.out 0 _ rfl) 1 _ rfl) 2 _ rfl); intro w3 hb3 hg3; replace HBX := Aside0.mk (Jn.Box_mono (Jn.Box_grown HBX.out hg3 (fun e => by injection e with e; have := HGB2.out; omega) (fun k_ hk e => by injection e with e; have := hk.2; omega)) (fun k_ hk => hk.1)); replace HB := Aside0.mk (Jn.belowG HB.out hg3 HB.out.size (fun k_ hk => by injection hk with hk; have := HGB2.out; have := HGW.out; omega)); replace HPN := Aside0.mk (Kd.N_grown HPN.out hg3 (fun k_ hk e => by injection e with e; have := HGB3.out; have := hk.2; omega)); replace HZ2 := Aside0.mk (show g < w3.heap.size ∧ n2 ≤ w3.heap.size from ⟨Nat.lt_of_lt_of_le HZ2.out.1 hg3.size, Nat.le_trans HZ2.out.2 hg3.size⟩); replace HBr := Aside0.mk (Jn.belowG HBr.out hg3 HBr.out.size (fun k_ hk => by injection hk with hk; have := HGB4.out; omega)); replace hy0 := trivial; replace hy1 := trivial; replace hy2 := trivial; replace BO := Aside0.mk hb3; have ho0 : w3.cell? ⟨gb, 0, none⟩ = some (.int .i64 x.f0) := (blk_cell hb3 0).trans rfl; have ho1 : w3.cell? ⟨gb, 1, none⟩ = some (.int .i64 x.f1) := (blk_cell hb3 1).trans rfl; have ho2 : w3.cell? ⟨gb, 2, none⟩ = some (.slice A3 x.f2.length c3) := (blk_cell hb3 2).trans rfl; clear hb3 hg3)
                  | ((with_reducible refine gate_dst (N := 64) rfl ?_); refine Jn.goesC_ (some 64) rfl rfl Try.func39 (by kernel_rfl) rfl #[.agg #[.int .i64 x.f0, .int .i64 x.f1, .slice A3 x.f2.length c3]] rfl rfl (by (try simp only [List.map_toArray, List.map_cons, List.map_nil]); first | done | rfl) ?_; refine (Jn.add_calls w.heap.size (fun k_ => Jn.okN w.heap.size g k_ ∧ ¬ (n0 ≤ k_ ∧ k_ < n2)) g x.f0 x.f1 A3 c3 x.f2 _ acc2 (Kd.C_below HR3.out HBr.out) HC3.out HBX.out HB.out.size ?hf ?hng ?hbg ?hx ?hl0 ?hpl).mono ?_; (case hf => intro k_ hk; exact ⟨⟨Nat.le_trans HB.out.size hk, by have := HZ2.out; omega⟩, fun h => by have := HZ2.out; omega⟩); (case hng => exact fun h => h.1.2 rfl); (case hbg => exact HGW.out); (case hx => rw [HACC.out]; have h1 := (Jn.fold_len ((p.map toT).take j) acc).1; have h2 := List.length_take_le j (p.map toT); have h5 := of_decide_eq_true jtN; have := HM.out; have := HM2.out; omega); (case hl0 => have h1 := Jn.wt_mem HXM.out; have := HM2.out; have h3 : (toT x).2.2.length = x.f2.length := rfl; omega); (case hpl => intro q hq; rw [HACC.out] at hq; have h0 := Jn.wt_mem hq; have h1 := (Jn.fold_len ((p.map toT).take j) acc).2; have h2 := Jn.wt_take (p.map toT) j; have h4 := Jn.wt_mem HXM.out; have h3 : (toT x).2.2.length = x.f2.length := rfl; have := HM.out; have := HM2.out; omega); rintro e w5 ⟨rfl, hbx, hkp, hbl⟩; refine ⟨_, rfl, ?_⟩; replace HBX := Aside0.mk hbx; replace HPN := Aside0.mk (Kd.N_kept HPN.out hkp (fun k_ hk h => h.elim (fun h => h.2 hk) (fun h => by have := HN0.out; omega))); replace HB := Aside0.mk (HB.out.trans hbl); replace HZ2 := Aside0.mk (show g < w5.heap.size ∧ n2 ≤ w5.heap.size from ⟨Nat.lt_of_lt_of_le HZ2.out.1 hbl.size, Nat.le_trans HZ2.out.2 hbl.size⟩); clear hbx hkp hbl))
                go_roundg m1
                case measure => omega
                case rel => exact ⟨j + 1, _, (by first | rfl | (simp; done) | (simp [*]; done)), ⟨by have := HJ.out; omega⟩, ⟨by rw [HST.out, ← HACC.out]; rfl⟩, HBX, HB, HZ2, HPN⟩
              · have jt : decide ((j : Int) < (p.length : Int)) = false := decide_eq_false (by omega)
                have jtN : decide (j < p.length) = false := decide_eq_false hj
                have HAL : Aside0 (acc2 = (p.map toT).foldl Jn.addL acc) := ⟨by rw [HACC.out, List.take_of_length_le (by rw [List.length_map]; omega)]⟩
                clear hj
                go_wp2
                go_roundg n1
                case measure => omega
                case rel => exact ⟨i + 1, acc2, (by first | rfl | (simp; done) | (simp [*]; done)), ⟨by have := HI.out; omega⟩, ⟨by rw [HAL.out]; exact HT3.out⟩, ⟨Jn.Box_mono HBX.out (fun k_ hk => hk.1)⟩, HB, ⟨HZ2.out.1⟩⟩
        · have ht : decide ((i : Int) < (l1.length : Int)) = false := decide_eq_false (by omega)
          have htN : decide (i < l1.length) = false := decide_eq_false hi
          have HAO : Aside0 (acc = out) := ⟨by
            have hT := HTH.out
            rw [List.drop_eq_nil_of_le (by omega)] at hT
            exact Option.some.inj hT⟩
          clear hi
          obtain ⟨v, hv1, hv2, _⟩ := HBX.out.row
          obtain ⟨Av, cv, hv⟩ := Kd.S_slice hv2
          rw [HAO.out] at hv hv2
          have HV1 := Aside0.mk hv1
          have HV2 := Aside0.mk hv2
          have HF := HFIN.out
          clear hv1 hv2
          subst hv
          by_cases hbig : (out.length : Int) > 8192
          · rw [if_pos hbig] at HF
            obtain ⟨rfl, rfl⟩ := Prod.mk.inj (Option.some.inj HF)
            have hb1 : decide (8192 < (out.length : Int)) = true := decide_eq_true hbig
            have hb2 : decide (8192 < out.length) = true := decide_eq_true (by omega)
            clear hbig HF
            go_wp2_with (first | ((with_reducible refine gate_dst (N := 68) rfl ?_); refine Jn.goesC_ (some 68) rfl rfl Try.func40 (by kernel_rfl) rfl #[] rfl rfl (by first | (simp; done) | rfl) ?_; refine (Jn.all_calls g _ _ HV1.out).mono ?_; rintro e w4 ⟨rfl, rfl⟩; refine ⟨_, rfl, ?_⟩))
            refine bodyPost_ret (results_tmp2 rfl _ _ _) rfl ?_
            exact ⟨_, rfl, Kd.N_nil _ _ _ _ _, HB.out⟩
          · rw [if_neg hbig] at HF
            obtain ⟨rfl, rfl⟩ := Prod.mk.inj (Option.some.inj HF)
            have hb1 : decide (8192 < (out.length : Int)) = false := decide_eq_false hbig
            have hb2 : decide (8192 < out.length) = false := decide_eq_false (by omega)
            clear hbig HF
            go_wp2_with (first | ((with_reducible refine gate_dst (N := 68) rfl ?_); refine Jn.goesC_ (some 68) rfl rfl Try.func40 (by kernel_rfl) rfl #[] rfl rfl (by first | (simp; done) | rfl) ?_; refine (Jn.all_calls g _ _ HV1.out).mono ?_; rintro e w4 ⟨rfl, rfl⟩; refine ⟨_, rfl, ?_⟩))
            refine bodyPost_ret (results_tmp2 rfl _ _ _) rfl ?_
            refine ⟨_, rfl, Jn.iso_N (f := toT) ?_, HB.out⟩
            rw [map_to_of]
            exact Kd.N_mono (Jn.N_of_S HV2.out) (fun k_ hk => hk.1)
    · rw [if_neg q2] at h
      obtain ⟨rfl, rfl⟩ := Prod.mk.inj (Option.some.inj h)
      have q2b : (e2 != 0) = true := bne_iff_ne.mpr q2
      have q2c : (e2 == 0) = false := beq_eq_false_iff_ne.mpr q2
      clear h q2
      go_enter Try.func29, Try.ntmps29
      go_wp2_with (first
        | ((with_reducible refine gate_dst (N := 18) rfl ?_); refine goesL_ (some 18) rfl rfl Try.func14 (by kernel_rfl) rfl #[.slice A0 l0.length c0, .int .i64 131072] rfl (by (try simp only [List.map_toArray, List.map_cons, List.map_nil]); first | done | rfl) ?_; refine (delta_Check.calls k A0 c0 l0 131072 0 _ (Kd.C_below HR0.out HB.out) HC0.out HE1.out).mono ?_; rintro e w1 ⟨rfl, hb⟩; refine ⟨_, rfl, ?_⟩; replace HB := Aside0.mk (below_step HB.out hb); clear hb)
        | ((with_reducible refine gate_dst (N := 24) rfl ?_); refine goesL_ (some 24) rfl rfl Try.func16 (by kernel_rfl) rfl #[.slice A0 l0.length c0] rfl (by (try simp only [List.map_toArray, List.map_cons, List.map_nil]); first | done | rfl) ?_; refine (delta_Size.calls k A0 c0 l0 sz _ (Kd.C_below HR0.out HB.out) HC0.out HSZ.out).mono ?_; rintro e w1 ⟨rfl, hb⟩; refine ⟨_, rfl, ?_⟩; replace HB := Aside0.mk (below_step HB.out hb); clear hb)
        | ((with_reducible refine gate_dst (N := 25) rfl ?_); refine goesL_ (some 25) rfl rfl Try.func14 (by kernel_rfl) rfl #[.slice A1 l1.length c1, .int .i64 sz] rfl (by (try simp only [List.map_toArray, List.map_cons, List.map_nil]); first | done | rfl) ?_; refine (delta_Check.calls k A1 c1 l1 sz e2 _ (Kd.C_below HR1.out HB.out) HC1.out HE2.out).mono ?_; rintro e w1 ⟨rfl, hb⟩; refine ⟨_, rfl, ?_⟩; replace HB := Aside0.mk (below_step HB.out hb); clear hb))
      refine bodyPost_ret (results_tmp2 rfl _ _ _) rfl ?_
      exact ⟨_, rfl, Kd.N_nil _ _ _ _ _, HB.out⟩
  · rw [if_neg q1] at h
    obtain ⟨rfl, rfl⟩ := Prod.mk.inj (Option.some.inj h)
    have q1b : (e1 != 0) = true := bne_iff_ne.mpr q1
    have q1c : (e1 == 0) = false := beq_eq_false_iff_ne.mpr q1
    clear h q1
    go_enter Try.func29, Try.ntmps29
    go_wp2_with (first
        | ((with_reducible refine gate_dst (N := 18) rfl ?_); refine goesL_ (some 18) rfl rfl Try.func14 (by kernel_rfl) rfl #[.slice A0 l0.length c0, .int .i64 131072] rfl (by (try simp only [List.map_toArray, List.map_cons, List.map_nil]); first | done | rfl) ?_; refine (delta_Check.calls k A0 c0 l0 131072 e1 _ (Kd.C_below HR0.out HB.out) HC0.out HE1.out).mono ?_; rintro e w1 ⟨rfl, hb⟩; refine ⟨_, rfl, ?_⟩; replace HB := Aside0.mk (below_step HB.out hb); clear hb))
    refine bodyPost_ret (results_tmp2 rfl _ _ _) rfl ?_
    exact ⟨_, rfl, Kd.N_nil _ _ _ _ _, HB.out⟩

/-! ### remoralaw08_DeltaComposes: function 9 -/
def remoralaw08_DeltaComposes.j0 : Nat → List Int → List (S40) → List (S40) → Bool → Option (Bool)
  | 0, _, _, _, _ => none
  | k + 1, x0, x1, x2, x27 => if x27 = true then ((remoralaw08_awake.f).bind fun t159 => (some t159)) else ((delta_Apply.f k x0 x1).bind fun bt160 => (if bt160.2 = 0 then ((delta_Apply.f k bt160.1 x2).bind fun bt165 => ((delta_Then.f k x1 x2).bind fun bt169 => (if bt165.2 = 0 then ((delta_Apply.f k x0 bt169.1).bind fun bt174 => (if bt169.2 = 0 then (if bt174.2 = 0 then (if (strOfNums bt174.1).toList = (strOfNums bt165.1).toList then ((delta_Norm.f bt169.1).bind fun t178 => ((delta_Same.f k t178 bt169.1).bind fun t181 => (if t181 = true then ((remoralaw08_awake.f).bind fun t182 => (some t182)) else (none)))) else (none)) else (none)) else (none))) else (if bt169.2 = bt165.2 then (if (bt169.1.length : Int) = 0 then ((remoralaw08_awake.f).bind fun t173 => (some t173)) else (none)) else (none))))) else ((remoralaw08_awake.f).bind fun t164 => (some t164))))
def remoralaw08_DeltaComposes.f (k : Nat) (l0 : List Int) (l1 : List (S40)) (l2 : List (S40)) : Option (Bool) := (remoraref08_Small.f k l1).bind fun t157 => (if t157 = true then ((remoraref08_Small.f k l2).bind fun t158 => (if t158 = true then (remoralaw08_DeltaComposes.j0 k l0 l1 l2 (decide ((l0.length : Int) > 2000))) else (remoralaw08_DeltaComposes.j0 k l0 l1 l2 true))) else (remoralaw08_DeltaComposes.j0 k l0 l1 l2 true))
theorem remoralaw08_DeltaComposes.mono_l : ∀ k, (∀ y0 y1 y2 y3, LeO (remoralaw08_DeltaComposes.j0 k y0 y1 y2 y3) (remoralaw08_DeltaComposes.j0 (k + 1) y0 y1 y2 y3))
  | 0 => fun _ _ _ _ r h => by simp [remoralaw08_DeltaComposes.j0] at h
  | k + 1 => by
    have ih0 := remoralaw08_DeltaComposes.mono_l k
    · intro y0 y1 y2 y3
      unfold remoralaw08_DeltaComposes.j0
      repeat' first
      | (with_reducible exact ih0 _ _ _ _)
      | (with_reducible exact delta_Apply.mono _ _ _)
      | (with_reducible exact delta_Same.mono _ _ _)
      | (with_reducible exact delta_Then.mono _ _ _)
      | (with_reducible exact remoraref08_Small.mono _ _)
      | (with_reducible exact LeO.refl _)
      | (with_reducible exact LeO.none _)
      | (with_reducible refine LeO.ite ?_ ?_)
      | (with_reducible refine LeO.bind ?_ (fun _ => ?_))
      | exact ih0 _ _ _ _
      | exact delta_Apply.mono _ _ _
      | exact delta_Same.mono _ _ _
      | exact delta_Then.mono _ _ _
      | exact remoraref08_Small.mono _ _
      | exact LeO.none _
      | refine LeO.ite ?_ ?_
      | refine LeO.bind ?_ (fun _ => ?_)
theorem remoralaw08_DeltaComposes.mono : ∀ a0 a1 a2 k, LeO (remoralaw08_DeltaComposes.f k a0 a1 a2) (remoralaw08_DeltaComposes.f (k + 1) a0 a1 a2) := by
  intro a0 a1 a2 k
  have ih0 := remoralaw08_DeltaComposes.mono_l k
  unfold remoralaw08_DeltaComposes.f
  repeat' first
      | (with_reducible exact ih0 _ _ _ _)
      | (with_reducible exact delta_Apply.mono _ _ _)
      | (with_reducible exact delta_Same.mono _ _ _)
      | (with_reducible exact delta_Then.mono _ _ _)
      | (with_reducible exact remoraref08_Small.mono _ _)
      | (with_reducible exact LeO.refl _)
      | (with_reducible exact LeO.none _)
      | (with_reducible refine LeO.ite ?_ ?_)
      | (with_reducible refine LeO.bind ?_ (fun _ => ?_))
      | exact ih0 _ _ _ _
      | exact delta_Apply.mono _ _ _
      | exact delta_Same.mono _ _ _
      | exact delta_Then.mono _ _ _
      | exact remoraref08_Small.mono _ _
      | exact LeO.none _
      | refine LeO.ite ?_ ?_
      | refine LeO.bind ?_ (fun _ => ?_)
set_option maxHeartbeats 8000000 in
set_option maxRecDepth 100000 in
theorem remoralaw08_DeltaComposes.calls (k : Nat) (A0 : Option Addr) (c0 : Nat) (l0 : List Int) (A1 : Option Addr) (c1 : Nat) (l1 : List (S40)) (A2 : Option Addr) (c2 : Nat) (l2 : List (S40)) (r : Bool) (w : World) (hr0 : Kd.C (Kd.int .u8) w A0 l0.length l0) (hc0 : l0.length ≤ c0) (hr1 : Kd.C k40 w A1 l1.length l1) (hc1 : l1.length ≤ c1) (hr2 : Kd.C k40 w A2 l2.length l2) (hc2 : l2.length ≤ c2) (h : remoralaw08_DeltaComposes.f k l0 l1 l2 = some r) :
    Calls Try.prog 9 #[.slice A0 l0.length c0, .slice A1 l1.length c1, .slice A2 l2.length c2] w fun e w' => e = .returned (.bool r) ∧ Below w.heap.size w w' := by
  have HR0 := Aside0.mk hr0
  have HC0 := Aside0.mk hc0
  clear hr0 hc0
  have HR1 := Aside0.mk hr1
  have HC1 := Aside0.mk hc1
  clear hr1 hc1
  have HR2 := Aside0.mk hr2
  have HC2 := Aside0.mk hc2
  clear hr2 hc2
  have HB := Aside0.mk (Below.refl w.heap.size w)
  have H : ((remoraref08_Small.f k l1).bind fun t157 => (if t157 = true then ((remoraref08_Small.f k l2).bind fun t158 => (if t158 = true then (remoralaw08_DeltaComposes.j0 k l0 l1 l2 (decide ((l0.length : Int) > 2000))) else (remoralaw08_DeltaComposes.j0 k l0 l1 l2 true))) else (remoralaw08_DeltaComposes.j0 k l0 l1 l2 true))) = some r := h
  clear h
  have HC4 := Aside0.mk H
  clear H
  go_enter Try.func9, Try.ntmps9
  go_upto_region 1 with (fail)
  go_cut [27] (fun v27 wc => ∃ (kq : Nat) (x27_3 : Bool), v27 = .bool x27_3 ∧ Aside0 (remoralaw08_DeltaComposes.j0 kq l0 l1 l2 x27_3 = some r) ∧ Aside0 (kq ≤ k) ∧ Aside0 (Below w.heap.size w wc))
  case first =>
    have H := HC4.out
    clear HC4
    replace H := Option.bind_eq_some_iff.mp H
    obtain ⟨t157, A50, H⟩ := H
    replace H : (if t157 = true then ((remoraref08_Small.f k l2).bind fun t158 => (if t158 = true then (remoralaw08_DeltaComposes.j0 k l0 l1 l2 (decide ((l0.length : Int) > 2000))) else (remoralaw08_DeltaComposes.j0 k l0 l1 l2 true))) else (remoralaw08_DeltaComposes.j0 k l0 l1 l2 true)) = some r := H
    have A5 := Aside0.mk A50
    clear A50
    by_cases c6 : t157 = true
    · subst c6
      have H1 : ((remoraref08_Small.f k l2).bind fun t158 => (if t158 = true then (remoralaw08_DeltaComposes.j0 k l0 l1 l2 (decide ((l0.length : Int) > 2000))) else (remoralaw08_DeltaComposes.j0 k l0 l1 l2 true))) = some r := by rw [if_pos rfl] at H; exact H
      clear H
      have H := H1
      clear H1
      replace H := Option.bind_eq_some_iff.mp H
      obtain ⟨t158, A70, H⟩ := H
      replace H : (if t158 = true then (remoralaw08_DeltaComposes.j0 k l0 l1 l2 (decide ((l0.length : Int) > 2000))) else (remoralaw08_DeltaComposes.j0 k l0 l1 l2 true)) = some r := H
      have A7 := Aside0.mk A70
      clear A70
      by_cases c8 : t158 = true
      · subst c8
        have H1 : (remoralaw08_DeltaComposes.j0 k l0 l1 l2 (decide ((l0.length : Int) > 2000))) = some r := by rw [if_pos rfl] at H; exact H
        clear H
        have H := H1
        clear H1
        have H' := Aside0.mk H
        clear H
        go_wp2_with (first | ((with_reducible refine gate_callee (f := 10) rfl ?_); refine goesL_ (some 16) rfl rfl Try.func10 (by kernel_rfl) rfl #[.slice A1 l1.length c1] rfl (by (try simp only [List.map_toArray, List.map_cons, List.map_nil]); first | done | rfl | (simp only [List.length_drop, List.length_take]; rfl)) ?_; (with_reducible refine (remoraref08_Small.calls k _ _ l1 true _ ?side1 ?side2 A5.out).mono ?_); (case side1 => repeat (first | exact (Kd.C_below HR1.out HB.out) | (with_reducible refine Kd.C_alloc ?_ _) | (with_reducible refine Kd.C_drewN ?_ _) | (with_reducible refine Kd.C_drew ?_))); (case side2 => exact HC1.out); rintro e w' ⟨rfl, ⟨nd, rfl⟩⟩; refine ⟨_, rfl, ?_⟩) | (go_at_call 10; (with_reducible refine (remoraref08_Small.calls k _ _ l2 true _ ?side1 ?side2 A7.out).mono ?_); (case side1 => repeat (first | exact (Kd.C_below HR2.out (by repeat (first | (with_reducible first | exact HB.out | apply below_alloc | apply pw_below_drewN | apply below_drew1) | exact HB.out))) | (with_reducible refine Kd.C_alloc ?_ _) | (with_reducible refine Kd.C_drewN ?_ _) | (with_reducible refine Kd.C_drew ?_))); (case side2 => exact HC2.out); rintro e w' ⟨rfl, ⟨nd, rfl⟩⟩))
        go_meet
        case rel => exact ⟨_, (decide ((l0.length : Int) > 2000)), (by first | rfl | (simp; done) | (simp [*]; done)), H', ⟨by first | omega | exact Nat.le_refl _⟩, ⟨by repeat (first | (with_reducible first | exact HB.out | apply below_alloc | apply pw_below_drewN | apply below_drew1) | exact HB.out)⟩⟩
      · replace c8 := Bool.eq_false_iff.mpr c8
        subst c8
        have H1 : (remoralaw08_DeltaComposes.j0 k l0 l1 l2 true) = some r := by rw [if_neg (show ¬ (false = true) by decide)] at H; exact H
        clear H
        have H := H1
        clear H1
        have H' := Aside0.mk H
        clear H
        go_wp2_with (first | ((with_reducible refine gate_callee (f := 10) rfl ?_); refine goesL_ (some 16) rfl rfl Try.func10 (by kernel_rfl) rfl #[.slice A1 l1.length c1] rfl (by (try simp only [List.map_toArray, List.map_cons, List.map_nil]); first | done | rfl | (simp only [List.length_drop, List.length_take]; rfl)) ?_; (with_reducible refine (remoraref08_Small.calls k _ _ l1 true _ ?side1 ?side2 A5.out).mono ?_); (case side1 => repeat (first | exact (Kd.C_below HR1.out HB.out) | (with_reducible refine Kd.C_alloc ?_ _) | (with_reducible refine Kd.C_drewN ?_ _) | (with_reducible refine Kd.C_drew ?_))); (case side2 => exact HC1.out); rintro e w' ⟨rfl, ⟨nd, rfl⟩⟩; refine ⟨_, rfl, ?_⟩) | (go_at_call 10; (with_reducible refine (remoraref08_Small.calls k _ _ l2 false _ ?side1 ?side2 A7.out).mono ?_); (case side1 => repeat (first | exact (Kd.C_below HR2.out (by repeat (first | (with_reducible first | exact HB.out | apply below_alloc | apply pw_below_drewN | apply below_drew1) | exact HB.out))) | (with_reducible refine Kd.C_alloc ?_ _) | (with_reducible refine Kd.C_drewN ?_ _) | (with_reducible refine Kd.C_drew ?_))); (case side2 => exact HC2.out); rintro e w' ⟨rfl, ⟨nd, rfl⟩⟩))
        go_meet
        case rel => exact ⟨_, (true), (by first | rfl | (simp; done) | (simp [*]; done)), H', ⟨by first | omega | exact Nat.le_refl _⟩, ⟨by repeat (first | (with_reducible first | exact HB.out | apply below_alloc | apply pw_below_drewN | apply below_drew1) | exact HB.out)⟩⟩
    · replace c6 := Bool.eq_false_iff.mpr c6
      subst c6
      have H1 : (remoralaw08_DeltaComposes.j0 k l0 l1 l2 true) = some r := by rw [if_neg (show ¬ (false = true) by decide)] at H; exact H
      clear H
      have H := H1
      clear H1
      have H' := Aside0.mk H
      clear H
      go_wp2_with (first | ((with_reducible refine gate_callee (f := 10) rfl ?_); refine goesL_ (some 16) rfl rfl Try.func10 (by kernel_rfl) rfl #[.slice A1 l1.length c1] rfl (by (try simp only [List.map_toArray, List.map_cons, List.map_nil]); first | done | rfl | (simp only [List.length_drop, List.length_take]; rfl)) ?_; (with_reducible refine (remoraref08_Small.calls k _ _ l1 false _ ?side1 ?side2 A5.out).mono ?_); (case side1 => repeat (first | exact (Kd.C_below HR1.out HB.out) | (with_reducible refine Kd.C_alloc ?_ _) | (with_reducible refine Kd.C_drewN ?_ _) | (with_reducible refine Kd.C_drew ?_))); (case side2 => exact HC1.out); rintro e w' ⟨rfl, ⟨nd, rfl⟩⟩; refine ⟨_, rfl, ?_⟩))
      go_meet
      case rel => exact ⟨_, (true), (by first | rfl | (simp; done) | (simp [*]; done)), H', ⟨by first | omega | exact Nat.le_refl _⟩, ⟨by repeat (first | (with_reducible first | exact HB.out | apply below_alloc | apply pw_below_drewN | apply below_drew1) | exact HB.out)⟩⟩
  case rest =>
    clear HC4
    try clear c1
    try clear c2
    try clear p2
    try clear c6
    try clear c8
    obtain ⟨kq, x27_3, rfl, HA, HJ3, HB⟩ := hcut
    cases kq with
    | zero => exact absurd HA.out (by simp [remoralaw08_DeltaComposes.j0])
    | succ kj3 =>
      have H := HA.out
      clear HA
      simp only [remoralaw08_DeltaComposes.j0] at H
      by_cases c9 : x27_3 = true
      · subst c9
        have H1 : ((remoralaw08_awake.f).bind fun t159 => (some t159)) = some r := by rw [if_pos rfl] at H; exact H
        clear H
        have H := H1
        clear H1
        replace H := Option.bind_eq_some_iff.mp H
        obtain ⟨t159, A100, H⟩ := H
        replace H : (some t159) = some r := H
        have A10 := Aside0.mk A100
        clear A100
        obtain rfl := Option.some.inj H
        go_wp2_with (first | ((with_reducible refine gate_callee (f := 11) rfl ?_); refine goesL_ (some 28) rfl rfl Try.func11 (by kernel_rfl) rfl #[] rfl (by (try simp only [List.map_toArray, List.map_cons, List.map_nil]); first | done | rfl | (simp only [List.length_drop, List.length_take]; rfl)) ?_; (with_reducible refine (remoralaw08_awake.calls  t159 _ A10.out).mono ?_); rintro e w11 ⟨rfl, hb⟩; refine ⟨_, rfl, ?_⟩; have n0_ := Aside0.mk (below_step (by repeat (first | (with_reducible first | exact HB.out | apply below_alloc | apply pw_below_drewN | apply below_drew1) | exact HB.out)) hb); clear HB; have HB := n0_; clear n0_; (try clear hb); (try clear hb2); (try clear hk); (try clear hi)))
        go_ret
        exact ⟨by first | rfl | (simp [errW_none, errW_some] <;> rfl) | (simp [*, errW_none, errW_some] <;> rfl), by repeat (first | (with_reducible first | exact HB.out | apply below_alloc | apply pw_below_drewN | apply below_drew1) | exact HB.out)⟩
      · replace c9 := Bool.eq_false_iff.mpr c9
        subst c9
        have H1 : ((delta_Apply.f kj3 l0 l1).bind fun bt160 => (if bt160.2 = 0 then ((delta_Apply.f kj3 bt160.1 l2).bind fun bt165 => ((delta_Then.f kj3 l1 l2).bind fun bt169 => (if bt165.2 = 0 then ((delta_Apply.f kj3 l0 bt169.1).bind fun bt174 => (if bt169.2 = 0 then (if bt174.2 = 0 then (if (strOfNums bt174.1).toList = (strOfNums bt165.1).toList then ((delta_Norm.f bt169.1).bind fun t178 => ((delta_Same.f kj3 t178 bt169.1).bind fun t181 => (if t181 = true then ((remoralaw08_awake.f).bind fun t182 => (some t182)) else (none)))) else (none)) else (none)) else (none))) else (if bt169.2 = bt165.2 then (if (bt169.1.length : Int) = 0 then ((remoralaw08_awake.f).bind fun t173 => (some t173)) else (none)) else (none))))) else ((remoralaw08_awake.f).bind fun t164 => (some t164)))) = some r := by rw [if_neg (show ¬ (false = true) by decide)] at H; exact H
        clear H
        have H := H1
        clear H1
        replace H := Option.bind_eq_some_iff.mp H
        obtain ⟨⟨t160, t161⟩, A120, H⟩ := H
        replace H : (if t161 = 0 then ((delta_Apply.f kj3 t160 l2).bind fun bt165 => ((delta_Then.f kj3 l1 l2).bind fun bt169 => (if bt165.2 = 0 then ((delta_Apply.f kj3 l0 bt169.1).bind fun bt174 => (if bt169.2 = 0 then (if bt174.2 = 0 then (if (strOfNums bt174.1).toList = (strOfNums bt165.1).toList then ((delta_Norm.f bt169.1).bind fun t178 => ((delta_Same.f kj3 t178 bt169.1).bind fun t181 => (if t181 = true then ((remoralaw08_awake.f).bind fun t182 => (some t182)) else (none)))) else (none)) else (none)) else (none))) else (if bt169.2 = bt165.2 then (if (bt169.1.length : Int) = 0 then ((remoralaw08_awake.f).bind fun t173 => (some t173)) else (none)) else (none))))) else ((remoralaw08_awake.f).bind fun t164 => (some t164))) = some r := H
        have A12 := Aside0.mk A120
        clear A120
        by_cases c13 : t161 = 0
        · rw [if_pos c13] at H
          have c13b0 : (t161 == 0) = true := beq_iff_eq.mpr c13
          have c13b1 : (t161 != 0) = false := bne_eq_false_iff_eq.mpr c13
          clear c13
          replace H := Option.bind_eq_some_iff.mp H
          obtain ⟨⟨t165, t166⟩, A140, H⟩ := H
          replace H : ((delta_Then.f kj3 l1 l2).bind fun bt169 => (if t166 = 0 then ((delta_Apply.f kj3 l0 bt169.1).bind fun bt174 => (if bt169.2 = 0 then (if bt174.2 = 0 then (if (strOfNums bt174.1).toList = (strOfNums t165).toList then ((delta_Norm.f bt169.1).bind fun t178 => ((delta_Same.f kj3 t178 bt169.1).bind fun t181 => (if t181 = true then ((remoralaw08_awake.f).bind fun t182 => (some t182)) else (none)))) else (none)) else (none)) else (none))) else (if bt169.2 = t166 then (if (bt169.1.length : Int) = 0 then ((remoralaw08_awake.f).bind fun t173 => (some t173)) else (none)) else (none)))) = some r := H
          have A14 := Aside0.mk A140
          clear A140
          replace H := Option.bind_eq_some_iff.mp H
          obtain ⟨⟨t169, t172⟩, A150, H⟩ := H
          replace H : (if t166 = 0 then ((delta_Apply.f kj3 l0 t169).bind fun bt174 => (if t172 = 0 then (if bt174.2 = 0 then (if (strOfNums bt174.1).toList = (strOfNums t165).toList then ((delta_Norm.f t169).bind fun t178 => ((delta_Same.f kj3 t178 t169).bind fun t181 => (if t181 = true then ((remoralaw08_awake.f).bind fun t182 => (some t182)) else (none)))) else (none)) else (none)) else (none))) else (if t172 = t166 then (if (t169.length : Int) = 0 then ((remoralaw08_awake.f).bind fun t173 => (some t173)) else (none)) else (none))) = some r := H
          have A15 := Aside0.mk A150
          clear A150
          by_cases c16 : t166 = 0
          · rw [if_pos c16] at H
            have c16b0 : (t166 == 0) = true := beq_iff_eq.mpr c16
            have c16b1 : (t166 != 0) = false := bne_eq_false_iff_eq.mpr c16
            clear c16
            replace H := Option.bind_eq_some_iff.mp H
            obtain ⟨⟨t174, t175⟩, A170, H⟩ := H
            replace H : (if t172 = 0 then (if t175 = 0 then (if (strOfNums t174).toList = (strOfNums t165).toList then ((delta_Norm.f t169).bind fun t178 => ((delta_Same.f kj3 t178 t169).bind fun t181 => (if t181 = true then ((remoralaw08_awake.f).bind fun t182 => (some t182)) else (none)))) else (none)) else (none)) else (none)) = some r := H
            have A17 := Aside0.mk A170
            clear A170
            by_cases c18 : t172 = 0
            · rw [if_pos c18] at H
              have c18b0 : (t172 == 0) = true := beq_iff_eq.mpr c18
              have c18b1 : (t172 != 0) = false := bne_eq_false_iff_eq.mpr c18
              clear c18
              by_cases c19 : t175 = 0
              · rw [if_pos c19] at H
                have c19b0 : (t175 == 0) = true := beq_iff_eq.mpr c19
                have c19b1 : (t175 != 0) = false := bne_eq_false_iff_eq.mpr c19
                clear c19
                by_cases c20 : (strOfNums t174).toList = (strOfNums t165).toList
                · rw [if_pos c20] at H
                  have c20b0 : ((strOfNums t174).toList == (strOfNums t165).toList) = true := beq_iff_eq.mpr c20
                  have c20b1 : ((strOfNums t174).toList != (strOfNums t165).toList) = false := bne_eq_false_iff_eq.mpr c20
                  clear c20
                  replace H := Option.bind_eq_some_iff.mp H
                  obtain ⟨t178, A210, H⟩ := H
                  replace H : ((delta_Same.f kj3 t178 t169).bind fun t181 => (if t181 = true then ((remoralaw08_awake.f).bind fun t182 => (some t182)) else (none))) = some r := H
                  have A21 := Aside0.mk A210
                  clear A210
                  replace H := Option.bind_eq_some_iff.mp H
                  obtain ⟨t181, A220, H⟩ := H
                  replace H : (if t181 = true then ((remoralaw08_awake.f).bind fun t182 => (some t182)) else (none)) = some r := H
                  have A22 := Aside0.mk A220
                  clear A220
                  by_cases c23 : t181 = true
                  · subst c23
                    have H1 : ((remoralaw08_awake.f).bind fun t182 => (some t182)) = some r := by rw [if_pos rfl] at H; exact H
                    clear H
                    have H := H1
                    clear H1
                    replace H := Option.bind_eq_some_iff.mp H
                    obtain ⟨t182, A240, H⟩ := H
                    replace H : (some t182) = some r := H
                    have A24 := Aside0.mk A240
                    clear A240
                    obtain rfl := Option.some.inj H
                    go_wp2_with (first | ((with_reducible refine gate_callee (f := 18) rfl ?_); refine goesL_ (some 32) rfl rfl Try.func18 (by kernel_rfl) rfl #[.slice A0 l0.length c0, .slice A1 l1.length c1] rfl (by (try simp only [List.map_toArray, List.map_cons, List.map_nil]); first | done | rfl | (simp only [List.length_drop, List.length_take]; rfl)) ?_; (with_reducible refine (delta_Apply.calls kj3 _ _ l0 _ _ l1 t160 t161 _ ?side1 ?side2 ?side3 ?side4 A12.out).mono ?_); (case side1 => repeat (first | exact (Kd.C_below HR0.out HB.out) | (with_reducible refine Kd.C_alloc ?_ _) | (with_reducible refine Kd.C_drewN ?_ _) | (with_reducible refine Kd.C_drew ?_))); (case side2 => exact HC0.out); (case side3 => repeat (first | exact (Kd.C_below HR1.out HB.out) | (with_reducible refine Kd.C_alloc ?_ _) | (with_reducible refine Kd.C_drewN ?_ _) | (with_reducible refine Kd.C_drew ?_))); (case side4 => exact HC1.out); rintro e w25 ⟨v162, rfl, ho0, hb⟩; refine ⟨_, rfl, ?_⟩; have n0_ := Aside0.mk (Kd.R_lower ho0 (below_size (by repeat (first | (with_reducible first | exact HB.out | apply below_alloc | apply pw_below_drewN | apply below_drew1) | exact HB.out)))); have n1_ := Aside0.mk (below_step (by repeat (first | (with_reducible first | exact HB.out | apply below_alloc | apply pw_below_drewN | apply below_drew1) | exact HB.out)) hb); clear HB; have HO163 := n0_; have HB := n1_; clear n0_ n1_; (try clear hb); (try clear hb2); (try clear hk); (try clear hi); (try clear ho0); obtain ⟨Ao26, co26, eo26⟩ := Kd.R_slice HO163.out; subst eo26) | ((with_reducible refine gate_callee (f := 18) rfl ?_); refine goesL_ (some 41) rfl rfl Try.func18 (by kernel_rfl) rfl #[.slice Ao26 t160.length co26, .slice A2 l2.length c2] rfl (by (try simp only [List.map_toArray, List.map_cons, List.map_nil]); first | done | rfl | (simp only [List.length_drop, List.length_take]; rfl)) ?_; (with_reducible refine (delta_Apply.calls kj3 _ _ t160 _ _ l2 t165 t166 _ ?side1 ?side2 ?side3 ?side4 A14.out).mono ?_); (case side1 => repeat (first | exact (Kd.R_reads' HO163.out).2.2 | (with_reducible refine Kd.C_alloc ?_ _) | (with_reducible refine Kd.C_drewN ?_ _) | (with_reducible refine Kd.C_drew ?_))); (case side2 => exact (Kd.R_reads' HO163.out).2.1); (case side3 => repeat (first | exact (Kd.C_below HR2.out HB.out) | (with_reducible refine Kd.C_alloc ?_ _) | (with_reducible refine Kd.C_drewN ?_ _) | (with_reducible refine Kd.C_drew ?_))); (case side4 => exact HC2.out); rintro e w27 ⟨v167, rfl, ho0, hb⟩; refine ⟨_, rfl, ?_⟩; have n0_ := Aside0.mk (Kd.R_elder' (by (with_reducible repeat (first | apply Kd.R_alloc | apply Kd.R_drewN | apply Kd.R_drew)); exact HO163.out) (Kd.R_base ho0) hb); have n1_ := Aside0.mk (Kd.R_lower (Kd.R_new' ho0 (Kd.R_lt (by (with_reducible repeat (first | apply Kd.R_alloc | apply Kd.R_drewN | apply Kd.R_drew)); exact HO163.out))) (below_size (by repeat (first | (with_reducible first | exact HB.out | apply below_alloc | apply pw_below_drewN | apply below_drew1) | exact HB.out)))); have n2_ := Aside0.mk (below_step (by repeat (first | (with_reducible first | exact HB.out | apply below_alloc | apply pw_below_drewN | apply below_drew1) | exact HB.out)) hb); clear HO163; clear HB; have HO163 := n0_; have HO168 := n1_; have HB := n2_; clear n0_ n1_ n2_; (try clear hb); (try clear hb2); (try clear hk); (try clear hi); (try clear ho0)) | ((with_reducible refine gate_callee (f := 29) rfl ?_); refine goesL_ (some 47) rfl rfl Try.func29 (by kernel_rfl) rfl #[.slice A1 l1.length c1, .slice A2 l2.length c2] rfl (by (try simp only [List.map_toArray, List.map_cons, List.map_nil]); first | done | rfl | (simp only [List.length_drop, List.length_take]; rfl)) ?_; (with_reducible refine (delta_Then.calls kj3 _ _ l1 _ _ l2 t169 t172 _ ?side1 ?side2 ?side3 ?side4 A15.out).mono ?_); (case side1 => repeat (first | exact (Kd.C_below HR1.out HB.out) | (with_reducible refine Kd.C_alloc ?_ _) | (with_reducible refine Kd.C_drewN ?_ _) | (with_reducible refine Kd.C_drew ?_))); (case side2 => exact HC1.out); (case side3 => repeat (first | exact (Kd.C_below HR2.out HB.out) | (with_reducible refine Kd.C_alloc ?_ _) | (with_reducible refine Kd.C_drewN ?_ _) | (with_reducible refine Kd.C_drew ?_))); (case side4 => exact HC2.out); rintro e w28 ⟨v170, rfl, ho0, hb⟩; refine ⟨_, rfl, ?_⟩; have n0_ := Aside0.mk (Kd.R_below (by (with_reducible repeat (first | apply Kd.R_alloc | apply Kd.R_drewN | apply Kd.R_drew)); exact HO163.out) hb); have n1_ := Aside0.mk (Kd.R_below (by (with_reducible repeat (first | apply Kd.R_alloc | apply Kd.R_drewN | apply Kd.R_drew)); exact HO168.out) hb); have n2_ := Aside0.mk (Kd.N_lower (Kd.N_mono (ok' := fun k_ => some k_ ≠ (.slice Ao26 t160.length co26 : Value).ownBlock ∧ some k_ ≠ (v167 : Value).ownBlock) ho0 (fun k_ hk_ => ⟨(Kd.fresh' (Kd.R_lt (by (with_reducible repeat (first | apply Kd.R_alloc | apply Kd.R_drewN | apply Kd.R_drew)); exact HO163.out)) k_ hk_), (Kd.fresh' (Kd.R_lt (by (with_reducible repeat (first | apply Kd.R_alloc | apply Kd.R_drewN | apply Kd.R_drew)); exact HO168.out)) k_ hk_)⟩)) (below_size (by repeat (first | (with_reducible first | exact HB.out | apply below_alloc | apply pw_below_drewN | apply below_drew1) | exact HB.out)))); have n3_ := Aside0.mk (below_step (by repeat (first | (with_reducible first | exact HB.out | apply below_alloc | apply pw_below_drewN | apply below_drew1) | exact HB.out)) hb); clear HO163; clear HO168; clear HB; have HO163 := n0_; have HO168 := n1_; have HO171 := n2_; have HB := n3_; clear n0_ n1_ n2_ n3_; (try clear hb); (try clear hb2); (try clear hk); (try clear hi); (try clear ho0); obtain ⟨Ao29, co29, eo29⟩ := Kd.N_slice HO171.out; subst eo29) | ((with_reducible refine gate_callee (f := 18) rfl ?_); refine goesL_ (some 66) rfl rfl Try.func18 (by kernel_rfl) rfl #[.slice A0 l0.length c0, .slice Ao29 t169.length co29] rfl (by (try simp only [List.map_toArray, List.map_cons, List.map_nil]); first | done | rfl | (simp only [List.length_drop, List.length_take]; rfl)) ?_; (with_reducible refine (delta_Apply.calls kj3 _ _ l0 _ _ t169 t174 t175 _ ?side1 ?side2 ?side3 ?side4 A17.out).mono ?_); (case side1 => repeat (first | exact (Kd.C_below HR0.out HB.out) | (with_reducible refine Kd.C_alloc ?_ _) | (with_reducible refine Kd.C_drewN ?_ _) | (with_reducible refine Kd.C_drew ?_))); (case side2 => exact HC0.out); (case side3 => repeat (first | exact (Kd.N_reads' HO171.out).2.2 | (with_reducible refine Kd.C_alloc ?_ _) | (with_reducible refine Kd.C_drewN ?_ _) | (with_reducible refine Kd.C_drew ?_))); (case side4 => exact (Kd.N_reads' HO171.out).2.1); rintro e w30 ⟨v176, rfl, ho0, hb⟩; refine ⟨_, rfl, ?_⟩; have n0_ := Aside0.mk (Kd.R_elder' (by (with_reducible repeat (first | apply Kd.R_alloc | apply Kd.R_drewN | apply Kd.R_drew)); exact HO163.out) (Kd.R_base ho0) hb); have n1_ := Aside0.mk (Kd.R_elder' (by (with_reducible repeat (first | apply Kd.R_alloc | apply Kd.R_drewN | apply Kd.R_drew)); exact HO168.out) (Kd.R_base ho0) hb); have n2_ := Aside0.mk (Kd.N_elder' (by (with_reducible repeat (first | apply Kd.N_alloc | apply Kd.N_drewN | apply Kd.N_drew)); exact HO171.out) (Kd.R_base ho0) hb); have n3_ := Aside0.mk (Kd.R_lower (Kd.R_new' (Kd.R_new' ho0 (Kd.R_lt (by (with_reducible repeat (first | apply Kd.R_alloc | apply Kd.R_drewN | apply Kd.R_drew)); exact HO163.out))) (Kd.R_lt (by (with_reducible repeat (first | apply Kd.R_alloc | apply Kd.R_drewN | apply Kd.R_drew)); exact HO168.out))) (below_size (by repeat (first | (with_reducible first | exact HB.out | apply below_alloc | apply pw_below_drewN | apply below_drew1) | exact HB.out)))); have n4_ := Aside0.mk (below_step (by repeat (first | (with_reducible first | exact HB.out | apply below_alloc | apply pw_below_drewN | apply below_drew1) | exact HB.out)) hb); clear HO163; clear HO168; clear HO171; clear HB; have HO163 := n0_; have HO168 := n1_; have HO171 := n2_; have HO177 := n3_; have HB := n4_; clear n0_ n1_ n2_ n3_ n4_; (try clear hb); (try clear hb2); (try clear hk); (try clear hi); (try clear ho0); have hcv31 := own_string (P := Try.prog) Try.underlying31 Try.underlying5 Try.underlying9 (Kd.own_of_R HO177.out); have hcv32 := own_string (P := Try.prog) Try.underlying31 Try.underlying5 Try.underlying9 (Kd.own_of_R HO168.out)) | (go_at_call 21; (with_reducible refine (delta_Norm.calls _ _ t169 t178 _ ?side1 ?side2 A21.out).mono ?_); (case side1 => repeat (first | exact (Kd.N_reads' HO171.out).2.2 | (with_reducible refine Kd.C_alloc ?_ _) | (with_reducible refine Kd.C_drewN ?_ _) | (with_reducible refine Kd.C_drew ?_))); (case side2 => exact (Kd.N_reads' HO171.out).2.1); rintro e w33 ⟨v179, rfl, ho0, hb⟩; have n0_ := Aside0.mk (Kd.R_below (by (with_reducible repeat (first | apply Kd.R_alloc | apply Kd.R_drewN | apply Kd.R_drew)); exact HO163.out) hb); have n1_ := Aside0.mk (Kd.R_below (by (with_reducible repeat (first | apply Kd.R_alloc | apply Kd.R_drewN | apply Kd.R_drew)); exact HO168.out) hb); have n2_ := Aside0.mk (Kd.N_elder' (by (with_reducible repeat (first | apply Kd.N_alloc | apply Kd.N_drewN | apply Kd.N_drew)); exact HO171.out) (by first | exact Kd.N_base ho0 | exact Kd.S_base ho0 | exact Kd.R_base ho0) hb); have n3_ := Aside0.mk (Kd.R_below (by (with_reducible repeat (first | apply Kd.R_alloc | apply Kd.R_drewN | apply Kd.R_drew)); exact HO177.out) hb); have n4_ := Aside0.mk (Kd.N_lower (Kd.N_mono (ok' := fun k_ => some k_ ≠ (.slice Ao26 t160.length co26 : Value).ownBlock ∧ some k_ ≠ (v167 : Value).ownBlock ∧ some k_ ≠ (.slice Ao29 t169.length co29 : Value).ownBlock ∧ some k_ ≠ (v176 : Value).ownBlock) ho0 (fun k_ hk_ => ⟨(Kd.fresh' (Kd.R_lt (by (with_reducible repeat (first | apply Kd.R_alloc | apply Kd.R_drewN | apply Kd.R_drew)); exact HO163.out)) k_ hk_), (Kd.fresh' (Kd.R_lt (by (with_reducible repeat (first | apply Kd.R_alloc | apply Kd.R_drewN | apply Kd.R_drew)); exact HO168.out)) k_ hk_), (Kd.fresh' (Kd.N_lt (by (with_reducible repeat (first | apply Kd.N_alloc | apply Kd.N_drewN | apply Kd.N_drew)); exact HO171.out)) k_ hk_), (Kd.fresh' (Kd.R_lt (by (with_reducible repeat (first | apply Kd.R_alloc | apply Kd.R_drewN | apply Kd.R_drew)); exact HO177.out)) k_ hk_)⟩)) (below_size (by repeat (first | (with_reducible first | exact HB.out | apply below_alloc | apply pw_below_drewN | apply below_drew1) | exact HB.out)))); have n5_ := Aside0.mk (below_step (by repeat (first | (with_reducible first | exact HB.out | apply below_alloc | apply pw_below_drewN | apply below_drew1) | exact HB.out)) hb); clear HO163; clear HO168; clear HO171; clear HO177; clear HB; have HO163 := n0_; have HO168 := n1_; have HO171 := n2_; have HO177 := n3_; have HO180 := n4_; have HB := n5_; clear n0_ n1_ n2_ n3_ n4_ n5_; (try clear hb); (try clear hb2); (try clear hk); (try clear hi); (try clear ho0); obtain ⟨Ao34, co34, eo34⟩ := Kd.N_slice HO180.out; subst eo34) | (go_at_call 25; (with_reducible refine (delta_Same.calls kj3 _ _ t178 _ _ t169 true _ ?side1 ?side2 ?side3 ?side4 A22.out).mono ?_); (case side1 => repeat (first | exact (Kd.N_reads' HO180.out).2.2 | (with_reducible refine Kd.C_alloc ?_ _) | (with_reducible refine Kd.C_drewN ?_ _) | (with_reducible refine Kd.C_drew ?_))); (case side2 => exact (Kd.N_reads' HO180.out).2.1); (case side3 => repeat (first | exact (Kd.N_reads' HO171.out).2.2 | (with_reducible refine Kd.C_alloc ?_ _) | (with_reducible refine Kd.C_drewN ?_ _) | (with_reducible refine Kd.C_drew ?_))); (case side4 => exact (Kd.N_reads' HO171.out).2.1); rintro e w35 ⟨rfl, hb⟩; have n0_ := Aside0.mk (Kd.R_below (by (with_reducible repeat (first | apply Kd.R_alloc | apply Kd.R_drewN | apply Kd.R_drew)); exact HO163.out) hb); have n1_ := Aside0.mk (Kd.R_below (by (with_reducible repeat (first | apply Kd.R_alloc | apply Kd.R_drewN | apply Kd.R_drew)); exact HO168.out) hb); have n2_ := Aside0.mk (Kd.N_below (by (with_reducible repeat (first | apply Kd.N_alloc | apply Kd.N_drewN | apply Kd.N_drew)); exact HO171.out) hb); have n3_ := Aside0.mk (Kd.R_below (by (with_reducible repeat (first | apply Kd.R_alloc | apply Kd.R_drewN | apply Kd.R_drew)); exact HO177.out) hb); have n4_ := Aside0.mk (Kd.N_below (by (with_reducible repeat (first | apply Kd.N_alloc | apply Kd.N_drewN | apply Kd.N_drew)); exact HO180.out) hb); have n5_ := Aside0.mk (below_step (by repeat (first | (with_reducible first | exact HB.out | apply below_alloc | apply pw_below_drewN | apply below_drew1) | exact HB.out)) hb); clear HO163; clear HO168; clear HO171; clear HO177; clear HO180; clear HB; have HO163 := n0_; have HO168 := n1_; have HO171 := n2_; have HO177 := n3_; have HO180 := n4_; have HB := n5_; clear n0_ n1_ n2_ n3_ n4_ n5_; (try clear hb); (try clear hb2); (try clear hk); (try clear hi)) | (go_at_call 11; (with_reducible refine (remoralaw08_awake.calls  t182 _ A24.out).mono ?_); rintro e w36 ⟨rfl, hb⟩; have n0_ := Aside0.mk (Kd.R_below (by (with_reducible repeat (first | apply Kd.R_alloc | apply Kd.R_drewN | apply Kd.R_drew)); exact HO163.out) hb); have n1_ := Aside0.mk (Kd.R_below (by (with_reducible repeat (first | apply Kd.R_alloc | apply Kd.R_drewN | apply Kd.R_drew)); exact HO168.out) hb); have n2_ := Aside0.mk (Kd.N_below (by (with_reducible repeat (first | apply Kd.N_alloc | apply Kd.N_drewN | apply Kd.N_drew)); exact HO171.out) hb); have n3_ := Aside0.mk (Kd.R_below (by (with_reducible repeat (first | apply Kd.R_alloc | apply Kd.R_drewN | apply Kd.R_drew)); exact HO177.out) hb); have n4_ := Aside0.mk (Kd.N_below (by (with_reducible repeat (first | apply Kd.N_alloc | apply Kd.N_drewN | apply Kd.N_drew)); exact HO180.out) hb); have n5_ := Aside0.mk (below_step (by repeat (first | (with_reducible first | exact HB.out | apply below_alloc | apply pw_below_drewN | apply below_drew1) | exact HB.out)) hb); clear HO163; clear HO168; clear HO171; clear HO177; clear HO180; clear HB; have HO163 := n0_; have HO168 := n1_; have HO171 := n2_; have HO177 := n3_; have HO180 := n4_; have HB := n5_; clear n0_ n1_ n2_ n3_ n4_ n5_; (try clear hb); (try clear hb2); (try clear hk); (try clear hi)))
                    go_ret
                    exact ⟨by first | rfl | (simp [errW_none, errW_some] <;> rfl) | (simp [*, errW_none, errW_some] <;> rfl), by repeat (first | (with_reducible first | exact HB.out | apply below_alloc | apply pw_below_drewN | apply below_drew1) | exact HB.out)⟩
                  · replace c23 := Bool.eq_false_iff.mpr c23
                    subst c23
                    have H1 : (none) = some r := by rw [if_neg (show ¬ (false = true) by decide)] at H; exact H
                    clear H
                    have H := H1
                    clear H1
                    exact absurd H (by simp)
                · rw [if_neg c20] at H
                  exact absurd H (by simp)
              · rw [if_neg c19] at H
                exact absurd H (by simp)
            · rw [if_neg c18] at H
              exact absurd H (by simp)
          · rw [if_neg c16] at H
            have c16b0 : (t166 == 0) = false := beq_eq_false_iff_ne.mpr c16
            have c16b1 : (t166 != 0) = true := bne_iff_ne.mpr c16
            by_cases c37 : t172 = t166
            · rw [if_pos c37] at H
              have c37b0 : (t172 == t166) = true := beq_iff_eq.mpr c37
              have c37b1 : (t172 != t166) = false := bne_eq_false_iff_eq.mpr c37
              clear c37
              by_cases c38 : (t169.length : Int) = 0
              · rw [if_pos c38] at H
                have c38b0 : ((t169.length : Int) == 0) = true := beq_iff_eq.mpr c38
                have c38b1 : ((t169.length : Int) != 0) = false := bne_eq_false_iff_eq.mpr c38
                clear c38
                replace H := Option.bind_eq_some_iff.mp H
                obtain ⟨t173, A390, H⟩ := H
                replace H : (some t173) = some r := H
                have A39 := Aside0.mk A390
                clear A390
                obtain rfl := Option.some.inj H
                go_wp2_with (first | ((with_reducible refine gate_callee (f := 18) rfl ?_); refine goesL_ (some 32) rfl rfl Try.func18 (by kernel_rfl) rfl #[.slice A0 l0.length c0, .slice A1 l1.length c1] rfl (by (try simp only [List.map_toArray, List.map_cons, List.map_nil]); first | done | rfl | (simp only [List.length_drop, List.length_take]; rfl)) ?_; (with_reducible refine (delta_Apply.calls kj3 _ _ l0 _ _ l1 t160 t161 _ ?side1 ?side2 ?side3 ?side4 A12.out).mono ?_); (case side1 => repeat (first | exact (Kd.C_below HR0.out HB.out) | (with_reducible refine Kd.C_alloc ?_ _) | (with_reducible refine Kd.C_drewN ?_ _) | (with_reducible refine Kd.C_drew ?_))); (case side2 => exact HC0.out); (case side3 => repeat (first | exact (Kd.C_below HR1.out HB.out) | (with_reducible refine Kd.C_alloc ?_ _) | (with_reducible refine Kd.C_drewN ?_ _) | (with_reducible refine Kd.C_drew ?_))); (case side4 => exact HC1.out); rintro e w40 ⟨v162, rfl, ho0, hb⟩; refine ⟨_, rfl, ?_⟩; have n0_ := Aside0.mk (Kd.R_lower ho0 (below_size (by repeat (first | (with_reducible first | exact HB.out | apply below_alloc | apply pw_below_drewN | apply below_drew1) | exact HB.out)))); have n1_ := Aside0.mk (below_step (by repeat (first | (with_reducible first | exact HB.out | apply below_alloc | apply pw_below_drewN | apply below_drew1) | exact HB.out)) hb); clear HB; have HO163 := n0_; have HB := n1_; clear n0_ n1_; (try clear hb); (try clear hb2); (try clear hk); (try clear hi); (try clear ho0); obtain ⟨Ao41, co41, eo41⟩ := Kd.R_slice HO163.out; subst eo41) | ((with_reducible refine gate_callee (f := 18) rfl ?_); refine goesL_ (some 41) rfl rfl Try.func18 (by kernel_rfl) rfl #[.slice Ao41 t160.length co41, .slice A2 l2.length c2] rfl (by (try simp only [List.map_toArray, List.map_cons, List.map_nil]); first | done | rfl | (simp only [List.length_drop, List.length_take]; rfl)) ?_; (with_reducible refine (delta_Apply.calls kj3 _ _ t160 _ _ l2 t165 t166 _ ?side1 ?side2 ?side3 ?side4 A14.out).mono ?_); (case side1 => repeat (first | exact (Kd.R_reads' HO163.out).2.2 | (with_reducible refine Kd.C_alloc ?_ _) | (with_reducible refine Kd.C_drewN ?_ _) | (with_reducible refine Kd.C_drew ?_))); (case side2 => exact (Kd.R_reads' HO163.out).2.1); (case side3 => repeat (first | exact (Kd.C_below HR2.out HB.out) | (with_reducible refine Kd.C_alloc ?_ _) | (with_reducible refine Kd.C_drewN ?_ _) | (with_reducible refine Kd.C_drew ?_))); (case side4 => exact HC2.out); rintro e w42 ⟨v167, rfl, ho0, hb⟩; refine ⟨_, rfl, ?_⟩; have n0_ := Aside0.mk (Kd.R_elder' (by (with_reducible repeat (first | apply Kd.R_alloc | apply Kd.R_drewN | apply Kd.R_drew)); exact HO163.out) (Kd.R_base ho0) hb); have n1_ := Aside0.mk (Kd.R_lower (Kd.R_new' ho0 (Kd.R_lt (by (with_reducible repeat (first | apply Kd.R_alloc | apply Kd.R_drewN | apply Kd.R_drew)); exact HO163.out))) (below_size (by repeat (first | (with_reducible first | exact HB.out | apply below_alloc | apply pw_below_drewN | apply below_drew1) | exact HB.out)))); have n2_ := Aside0.mk (below_step (by repeat (first | (with_reducible first | exact HB.out | apply below_alloc | apply pw_below_drewN | apply below_drew1) | exact HB.out)) hb); clear HO163; clear HB; have HO163 := n0_; have HO168 := n1_; have HB := n2_; clear n0_ n1_ n2_; (try clear hb); (try clear hb2); (try clear hk); (try clear hi); (try clear ho0)) | ((with_reducible refine gate_callee (f := 29) rfl ?_); refine goesL_ (some 47) rfl rfl Try.func29 (by kernel_rfl) rfl #[.slice A1 l1.length c1, .slice A2 l2.length c2] rfl (by (try simp only [List.map_toArray, List.map_cons, List.map_nil]); first | done | rfl | (simp only [List.length_drop, List.length_take]; rfl)) ?_; (with_reducible refine (delta_Then.calls kj3 _ _ l1 _ _ l2 t169 t172 _ ?side1 ?side2 ?side3 ?side4 A15.out).mono ?_); (case side1 => repeat (first | exact (Kd.C_below HR1.out HB.out) | (with_reducible refine Kd.C_alloc ?_ _) | (with_reducible refine Kd.C_drewN ?_ _) | (with_reducible refine Kd.C_drew ?_))); (case side2 => exact HC1.out); (case side3 => repeat (first | exact (Kd.C_below HR2.out HB.out) | (with_reducible refine Kd.C_alloc ?_ _) | (with_reducible refine Kd.C_drewN ?_ _) | (with_reducible refine Kd.C_drew ?_))); (case side4 => exact HC2.out); rintro e w43 ⟨v170, rfl, ho0, hb⟩; refine ⟨_, rfl, ?_⟩; have n0_ := Aside0.mk (Kd.R_below (by (with_reducible repeat (first | apply Kd.R_alloc | apply Kd.R_drewN | apply Kd.R_drew)); exact HO163.out) hb); have n1_ := Aside0.mk (Kd.R_below (by (with_reducible repeat (first | apply Kd.R_alloc | apply Kd.R_drewN | apply Kd.R_drew)); exact HO168.out) hb); have n2_ := Aside0.mk (Kd.N_lower (Kd.N_mono (ok' := fun k_ => some k_ ≠ (.slice Ao41 t160.length co41 : Value).ownBlock ∧ some k_ ≠ (v167 : Value).ownBlock) ho0 (fun k_ hk_ => ⟨(Kd.fresh' (Kd.R_lt (by (with_reducible repeat (first | apply Kd.R_alloc | apply Kd.R_drewN | apply Kd.R_drew)); exact HO163.out)) k_ hk_), (Kd.fresh' (Kd.R_lt (by (with_reducible repeat (first | apply Kd.R_alloc | apply Kd.R_drewN | apply Kd.R_drew)); exact HO168.out)) k_ hk_)⟩)) (below_size (by repeat (first | (with_reducible first | exact HB.out | apply below_alloc | apply pw_below_drewN | apply below_drew1) | exact HB.out)))); have n3_ := Aside0.mk (below_step (by repeat (first | (with_reducible first | exact HB.out | apply below_alloc | apply pw_below_drewN | apply below_drew1) | exact HB.out)) hb); clear HO163; clear HO168; clear HB; have HO163 := n0_; have HO168 := n1_; have HO171 := n2_; have HB := n3_; clear n0_ n1_ n2_ n3_; (try clear hb); (try clear hb2); (try clear hk); (try clear hi); (try clear ho0); obtain ⟨Ao44, co44, eo44⟩ := Kd.N_slice HO171.out; subst eo44) | (go_at_call 11; (with_reducible refine (remoralaw08_awake.calls  t173 _ A39.out).mono ?_); rintro e w45 ⟨rfl, hb⟩; have n0_ := Aside0.mk (Kd.R_below (by (with_reducible repeat (first | apply Kd.R_alloc | apply Kd.R_drewN | apply Kd.R_drew)); exact HO163.out) hb); have n1_ := Aside0.mk (Kd.R_below (by (with_reducible repeat (first | apply Kd.R_alloc | apply Kd.R_drewN | apply Kd.R_drew)); exact HO168.out) hb); have n2_ := Aside0.mk (Kd.N_below (by (with_reducible repeat (first | apply Kd.N_alloc | apply Kd.N_drewN | apply Kd.N_drew)); exact HO171.out) hb); have n3_ := Aside0.mk (below_step (by repeat (first | (with_reducible first | exact HB.out | apply below_alloc | apply pw_below_drewN | apply below_drew1) | exact HB.out)) hb); clear HO163; clear HO168; clear HO171; clear HB; have HO163 := n0_; have HO168 := n1_; have HO171 := n2_; have HB := n3_; clear n0_ n1_ n2_ n3_; (try clear hb); (try clear hb2); (try clear hk); (try clear hi)))
                go_ret
                exact ⟨by first | rfl | (simp [errW_none, errW_some] <;> rfl) | (simp [*, errW_none, errW_some] <;> rfl), by repeat (first | (with_reducible first | exact HB.out | apply below_alloc | apply pw_below_drewN | apply below_drew1) | exact HB.out)⟩
              · rw [if_neg c38] at H
                exact absurd H (by simp)
            · rw [if_neg c37] at H
              exact absurd H (by simp)
        · rw [if_neg c13] at H
          have c13b0 : (t161 == 0) = false := beq_eq_false_iff_ne.mpr c13
          have c13b1 : (t161 != 0) = true := bne_iff_ne.mpr c13
          replace H := Option.bind_eq_some_iff.mp H
          obtain ⟨t164, A460, H⟩ := H
          replace H : (some t164) = some r := H
          have A46 := Aside0.mk A460
          clear A460
          obtain rfl := Option.some.inj H
          go_wp2_with (first | ((with_reducible refine gate_callee (f := 18) rfl ?_); refine goesL_ (some 32) rfl rfl Try.func18 (by kernel_rfl) rfl #[.slice A0 l0.length c0, .slice A1 l1.length c1] rfl (by (try simp only [List.map_toArray, List.map_cons, List.map_nil]); first | done | rfl | (simp only [List.length_drop, List.length_take]; rfl)) ?_; (with_reducible refine (delta_Apply.calls kj3 _ _ l0 _ _ l1 t160 t161 _ ?side1 ?side2 ?side3 ?side4 A12.out).mono ?_); (case side1 => repeat (first | exact (Kd.C_below HR0.out HB.out) | (with_reducible refine Kd.C_alloc ?_ _) | (with_reducible refine Kd.C_drewN ?_ _) | (with_reducible refine Kd.C_drew ?_))); (case side2 => exact HC0.out); (case side3 => repeat (first | exact (Kd.C_below HR1.out HB.out) | (with_reducible refine Kd.C_alloc ?_ _) | (with_reducible refine Kd.C_drewN ?_ _) | (with_reducible refine Kd.C_drew ?_))); (case side4 => exact HC1.out); rintro e w47 ⟨v162, rfl, ho0, hb⟩; refine ⟨_, rfl, ?_⟩; have n0_ := Aside0.mk (Kd.R_lower ho0 (below_size (by repeat (first | (with_reducible first | exact HB.out | apply below_alloc | apply pw_below_drewN | apply below_drew1) | exact HB.out)))); have n1_ := Aside0.mk (below_step (by repeat (first | (with_reducible first | exact HB.out | apply below_alloc | apply pw_below_drewN | apply below_drew1) | exact HB.out)) hb); clear HB; have HO163 := n0_; have HB := n1_; clear n0_ n1_; (try clear hb); (try clear hb2); (try clear hk); (try clear hi); (try clear ho0)) | ((with_reducible refine gate_callee (f := 11) rfl ?_); refine goesL_ (some 37) rfl rfl Try.func11 (by kernel_rfl) rfl #[] rfl (by (try simp only [List.map_toArray, List.map_cons, List.map_nil]); first | done | rfl | (simp only [List.length_drop, List.length_take]; rfl)) ?_; (with_reducible refine (remoralaw08_awake.calls  t164 _ A46.out).mono ?_); rintro e w48 ⟨rfl, hb⟩; refine ⟨_, rfl, ?_⟩; have n0_ := Aside0.mk (Kd.R_below (by (with_reducible repeat (first | apply Kd.R_alloc | apply Kd.R_drewN | apply Kd.R_drew)); exact HO163.out) hb); have n1_ := Aside0.mk (below_step (by repeat (first | (with_reducible first | exact HB.out | apply below_alloc | apply pw_below_drewN | apply below_drew1) | exact HB.out)) hb); clear HO163; clear HB; have HO163 := n0_; have HB := n1_; clear n0_ n1_; (try clear hb); (try clear hb2); (try clear hk); (try clear hi)))
          go_ret
          exact ⟨by first | rfl | (simp [errW_none, errW_some] <;> rfl) | (simp [*, errW_none, errW_some] <;> rfl), by repeat (first | (with_reducible first | exact HB.out | apply below_alloc | apply pw_below_drewN | apply below_drew1) | exact HB.out)⟩


/-- THE ONE PURE STATEMENT of remoralaw08_DeltaComposes. -/
def remoralaw08_DeltaComposes.Pure : Prop := ∀ (l0 : List Int) (l1 : List (S40)) (l2 : List (S40)), (l0.length ≤ maxLen ∧ ∀ q0_ ∈ l0, (Lit.int .u8 q0_).wf = true) → l0.length * 1 ≤ 140737488351232 → (l1.length ≤ maxLen ∧ ∀ q0_ ∈ l1, ((Lit.int .i64 q0_.f0).wf = true ∧ ((Lit.int .i64 q0_.f1).wf = true ∧ (q0_.f2.length ≤ maxLen ∧ ∀ q1_ ∈ q0_.f2, (Lit.int .u8 q1_).wf = true)))) → l1.length * 40 ≤ 140737488351232 → (l2.length ≤ maxLen ∧ ∀ q0_ ∈ l2, ((Lit.int .i64 q0_.f0).wf = true ∧ ((Lit.int .i64 q0_.f1).wf = true ∧ (q0_.f2.length ≤ maxLen ∧ ∀ q1_ ∈ q0_.f2, (Lit.int .u8 q1_).wf = true)))) → l2.length * 40 ≤ 140737488351232 → ∃ k, remoralaw08_DeltaComposes.f k l0 l1 l2 = some true

end Go.Proofs.Ytifmajnhcbicnaa.PDeltaComposes
