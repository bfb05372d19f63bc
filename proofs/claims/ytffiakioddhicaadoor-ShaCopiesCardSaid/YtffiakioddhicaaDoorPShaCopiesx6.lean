-- Written by a program of this session (the kit's printer with hand-written contracts among its functions).
import Derived.Test.YtffiakioddhicaaDoorPShaCopiesx0
import Derived.Test.YtffiakioddhicaaDoorPShaCopiesx1
import Derived.Test.YtffiakioddhicaaDoorPShaCopiesx2
import Derived.Test.YtffiakioddhicaaDoorPShaCopiesx3
import Derived.Test.YtffiakioddhicaaDoorPShaCopiesx4
import Derived.Test.YtffiakioddhicaaDoorPShaCopiesx5
namespace Go.Proofs.YtffiakioddhicaaDoor.PShaCopies
open Go.RowKit Go.Proofs.YtffiakioddhicaaDoorW.PrintWords Go.Proofs.YtffiakioddhicaaDoorW.PrintLast Go.Proofs.YtffiakioddhicaaDoorW.PrintMore
attribute [local go_sem] max2_int min2_int max_two min_two max_three min_three max_four min_four   -- for this text's walks alone
set_option linter.unusedVariables false
set_option linter.unusedSimpArgs false

/-! ### sha_Text: function 23 -/
/-- The digits of the first i bytes. -/
def txtN (b : List Int) : Nat → List Int
  | 0 => []
  | i + 1 => txtN b i ++ [bt (⟨#[48, 49, 50, 51, 52, 53, 54, 55, 56, 57, 97, 98, 99, 100, 101, 102]⟩ : ByteArray) (IntKind.u8.wrap (Int.tdiv (b[i]?.getD 0) 16)), bt (⟨#[48, 49, 50, 51, 52, 53, 54, 55, 56, 57, 97, 98, 99, 100, 101, 102]⟩ : ByteArray) (Int.tmod (b[i]?.getD 0) 16)]
theorem txtN_len (b : List Int) (i : Nat) : (txtN b i).length = 2 * i := by
  induction i with
  | zero => rfl
  | succ i ih => rw [txtN, List.length_append, ih]; rfl
theorem bytesOf_len (s : ByteArray) : (bytesOf s).length = s.size := by
  simp [bytesOf]
theorem bytesOf_range (s : ByteArray) (i : Nat) : 0 ≤ (bytesOf s)[i]?.getD 0 ∧ (bytesOf s)[i]?.getD 0 ≤ 255 := by
  rcases Nat.lt_or_ge i (bytesOf s).length with h | h
  · have hm : (bytesOf s)[i] ∈ bytesOf s := List.getElem_mem h
    rw [List.getElem?_eq_getElem h, Option.getD_some]
    unfold bytesOf at hm ⊢
    obtain ⟨b, _, hb⟩ := List.mem_map.1 hm
    have := b.toNat_lt
    rw [← hb]
    omega
  · rw [List.getElem?_eq_none h]
    simp
theorem bytesRow_cell (s : ByteArray) (c j : Nat) (hj : j < s.size) : (bytesRow s c)[j]? = some (.int .u8 ((bytesOf s)[j]?.getD 0)) := by
  have hl : j < s.data.size := hj
  unfold bytesRow bytesOf
  rw [Array.getElem?_append_left (by rw [Array.size_map]; exact hl), Array.getElem?_map, Array.getElem?_eq_getElem hl, List.getElem?_map, List.getElem?_eq_getElem (by simpa using hl)]
  simp
section
variable {P : Program} {ops : Array Oper} {rest : List Oper} {o : Oper} {a : Act} {Q : Exit → Act → World → Prop}
/-- '[]byte(s)', read only. -/
theorem conv_event {W : World} (hgd : o.guard = none) (src dst e : TypeId) (x : Operand) (ho : o.op = .convert src dst x) (s : ByteArray) (hx : a.eval x = .string s) (hs : P.underlying src = some .string) (hd : P.underlying dst = some (.slice e)) (he : P.underlying e = some (.int .u8))
    (h : ∀ g c w1, W.heap.size = g → g < w1.heap.size → (∀ j, j < s.size → w1.cell? ⟨g, j, none⟩ = some (.int .u8 ((bytesOf s)[j]?.getD 0))) → Below W.heap.size W w1 → wpList P ops Q rest (a.put o.dst (.slice (some ⟨g, 0, none⟩) s.size c)) w1) : wpList P ops Q (o :: rest) a W := by
  have hr := run_bytes_of_string (P := P) W src dst e s hs hd he
  refine Kd.event_run hgd (v := .slice (some ⟨W.heap.size, 0, none⟩) s.size (grownCap W s.size 0 e)) (w1 := W.drew.alloc (.cells (bytesRow s (grownCap W s.size 0 e)) e ((bytesRow s (grownCap W s.size 0 e)).size, (bytesRow s (grownCap W s.size 0 e)).size + 1))) ?_ (h _ _ _ rfl ?_ ?_ ?_)
  · unfold execOp
    simp only [ho, hx, Sem.run_bind, Sem.run_pure, Result.andThen_ok, hr]
  · show W.heap.size < (W.heap.push _).size
    simp
  · intro j hj
    have hh : (W.drew.alloc (.cells (bytesRow s (grownCap W s.size 0 e)) e ((bytesRow s (grownCap W s.size 0 e)).size, (bytesRow s (grownCap W s.size 0 e)).size + 1))).heap[W.heap.size]? = some (.cells (bytesRow s (grownCap W s.size 0 e)) e ((bytesRow s (grownCap W s.size 0 e)).size, (bytesRow s (grownCap W s.size 0 e)).size + 1)) := by
      show (W.heap.push _)[W.heap.size]? = _
      simp
    rw [cell_of_row _ _ _ _ _ _ hh]
    exact bytesRow_cell s _ j hj
  · exact below_alloc (below_drew1 (Below.refl _ _)) _
end
def sha_Text.f (a0 : ByteArray) : Option ByteArray := if a0.size ≤ 70000000000000 then some (strOfNums (txtN (bytesOf a0) a0.size)) else none
def sha_Text.T5 : Bool × List (List Nat × List Nat) := (true, [([], []), ([], []), ([1], [1]), ([2], [2]), ([], []), ([4], [4]), ([5], [5]), ([3, 6], [3, 6]), ([0, 7], [0, 7]), ([8, 8, 0, 1, 2, 3, 4, 5, 6, 7, 8], [0, 8])])
def sha_Text.B5 : List Nat := [0, 0, 2, 6, 0, 16, 48, 126, 255, 511]
theorem sha_Text.tab5 : rtab .any (opsOf Tryd.f23 5) = sha_Text.T5 := by kernel_rfl
theorem sha_Text.bits5 : waitsOk sha_Text.T5.2 sha_Text.B5 = true := by kernel_rfl
set_option maxHeartbeats 8000000 in
set_option maxRecDepth 100000 in
theorem sha_Text.calls (a0 : ByteArray) (r : ByteArray) (w : World) (h : sha_Text.f a0 = some r) :
    Calls Tryd.prog 23 #[.string a0] w fun e w' => e = .returned (.string r) ∧ Below w.heap.size w w' := by
  unfold sha_Text.f at h
  by_cases hl : a0.size ≤ 70000000000000
  · rw [if_pos hl] at h
    obtain rfl := Option.some.inj h
    have HL := Aside0.mk hl
    obtain ⟨m, hm⟩ : ∃ m : Nat, a0.size = m := ⟨_, rfl⟩
    obtain ⟨m2, hm2⟩ : ∃ m2 : Nat, m2 = 2 * m := ⟨_, rfl⟩
    have e0 : wrap64 (2 * (m : Int)) = (m2 : Int) := by unfold wrap64; omega
    have HE := Aside0.mk e0
    have HM := Aside0.mk (And.intro hm hm2)
    clear h hl hm hm2
    go_enter Tryd.func23, Tryd.ntmps23
    go_wp2_with (first
      | ((with_reducible refine gate_dst (N := 9) rfl ?_); refine R_make0 (Kd.int .u8) w.heap.size 5 rfl (N := 9) rfl 22 _ _ rfl (m2 : Int) rfl (by show _ = Value.int .i64 (m2 : Int); rw [← HE.out, ← HM.out.1]; rfl) Tryd.underlying22 (.int .u8 0) 1 info5 rfl (by decide) (by omega) 0 (ok := fun _ => True) (okp := fun _ => True) rfl (fun _ hk => hk) trivial (by omega) (by have h1 := HM.out; have h2 := HL.out; omega) (Below.refl _ _) (Nat.le_refl _) ?_; intro v1 w5 ho hb hg hnew; have HR1 := Aside0.mk ho; have HB1 := Aside0.mk hb; clear ho hb hg hnew)
      | ((with_reducible refine gate_dst (N := 11) rfl ?_); refine conv_event rfl 9 22 5 (.tmp 10) rfl a0 rfl Tryd.underlying9 Tryd.underlying22 Tryd.underlying5 ?_; intro g c w6 hg0 hg1 hc hb6; have HG := Aside0.mk hg0; have HCC := Aside0.mk hc; have HR := Aside0.mk (Kd.R_mono (Kd.R_below (Kd.R_bound HR1.out) hb6) (ok' := fun k => k ≠ g) (fun k hk => by have := hk.2; omega)); have HB := Aside0.mk (HB1.out.trans (belowTo hb6 HB1.out.size)); have HLT := Aside0.mk hg1; clear HR1 HB1 hg0 hc hb6 hg1; rw [HM.out.1]))
    go_loopg [3, 13] (m + 1) (fun kq v3 v13 w' => ∃ i : Nat, v13 = .int .i64 (i : Int) ∧ Aside0 (i + kq = m + 1 ∧ i ≤ m) ∧ Aside0 (Kd.R (Kd.int .u8) 5 w' w.heap.size (fun k => k ≠ g) v3 (txtN (bytesOf a0) i)) ∧ Aside0 (∀ j, j < a0.size → w'.cell? ⟨g, j, none⟩ = some (.int .u8 ((bytesOf a0)[j]?.getD 0))) ∧ Aside0 (g < w'.heap.size) ∧ Aside0 (Below w.heap.size w w'))
    case atStart => exact ⟨0, rfl, ⟨by omega, by omega⟩, HR, HCC, HLT, HB⟩
    case round =>
      clear HR HCC HB HLT
      obtain ⟨i, rfl, hk, HR, HCC, HLT, HB⟩ := hrel
      by_cases hlt : i < m
      · obtain ⟨k1, rfl⟩ : ∃ k1, gk = k1 + 1 := ⟨gk - 1, by have := hk.out; omega⟩
        have HI := Aside0.mk hlt
        have d1 : decide ((i : Int) < (m : Int)) = true := decide_eq_true (by omega)
        have d2 : decide (i < m) = true := decide_eq_true hlt
        have hw : wrap64 ((i : Int) + 1) = ((i + 1 : Nat) : Int) := by have h1 := HL.out; rw [HM.out.1] at h1; unfold wrap64; omega
        have HW := Aside0.mk hw
        have p0 := eq_true (show (i : Int) < (m : Int) by omega)
        have o0 := eq_true (show (0 : Int) ≤ (i : Int) by omega)
        have hx := HCC.out i (by rw [HM.out.1]; exact hlt)
        obtain ⟨c0, hc0⟩ : ∃ c0, (bytesOf a0)[i]?.getD 0 = c0 := ⟨_, rfl⟩
        have hcr := bytesOf_range a0 i
        rw [hc0] at hcr hx
        have HC0 := Aside0.mk hc0
        obtain ⟨q1, hq1⟩ : ∃ q1, IntKind.u8.wrap (Int.tdiv c0 16) = q1 := ⟨_, rfl⟩
        obtain ⟨q2, hq2⟩ : ∃ q2, Int.tmod c0 16 = q2 := ⟨_, rfl⟩
        have hr1 : 0 ≤ q1 ∧ q1 < 16 := by rw [← hq1, Int.tdiv_eq_ediv_of_nonneg hcr.1, IntKind.wrap_u8]; omega
        have hr2 : 0 ≤ q2 ∧ q2 < 16 := by rw [← hq2, Int.tmod_eq_emod_of_nonneg hcr.1]; omega
        have HQ := Aside0.mk (And.intro hq1 hq2)
        have p1 := eq_true hr1.1
        have p2 := eq_true hr1.2
        have p3 := eq_true hr2.1
        have p4 := eq_true hr2.2
        have hx1 := bt_at (⟨#[48, 49, 50, 51, 52, 53, 54, 55, 56, 57, 97, 98, 99, 100, 101, 102]⟩ : ByteArray) q1
        have hx2 := bt_at (⟨#[48, 49, 50, 51, 52, 53, 54, 55, 56, 57, 97, 98, 99, 100, 101, 102]⟩ : ByteArray) q2
        clear hlt hw hc0 hcr hr1 hr2
        go_wp2
        refine start_ (n := 10) (S := fun w' => True) (ds := []) #[false, false, false, false, false, false, false, false, false, false] (by kernel_rfl) rfl rfl trivial (fun hHeld => ?_); refine with_tabW sha_Text.tab5 sha_Text.bits5 (fun HT_ HW_ => ?_)
        refine pure_ (i := 0) (N := some 17) (v := ?_) (a' := ?_) #[true, false, false, false, false, false, false, false, false, false] rfl rfl (any_of HT_.out (by kernel_rfl)) (fun _ _ _ h => h) (Or.inl ⟨by rfl, ?_⟩) ?_ ?_
        rotate_left
        · intro w'
          go_simp
          with_reducible rfl
        rotate_left
        · simp only [Act.put, List.setIfInBounds_toArray, List.set_cons_zero, List.set_cons_succ, i64_w, i32_w]
          rfl
        refine pure_ (i := 1) (N := some 18) (v := ?_) (a' := ?_) #[true, true, false, false, false, false, false, false, false, false] rfl rfl (any_of HT_.out (by kernel_rfl)) (fun _ _ _ h => h) (Or.inl ⟨by rfl, ?_⟩) ?_ ?_
        rotate_left
        · intro w'
          go_simp
          with_reducible rfl
        rotate_left
        · simp only [Act.put, List.setIfInBounds_toArray, List.set_cons_zero, List.set_cons_succ, i64_w, i32_w]
          rfl
        refine pure_ (i := 2) (N := some 19) (v := ?_) (a' := ?_) #[true, true, true, false, false, false, false, false, false, false] rfl rfl (any_of HT_.out (by kernel_rfl)) (fun _ _ _ h => h) (Or.inl ⟨by rfl, ?_⟩) ?_ ?_
        rotate_left
        · intro w'
          go_simp
          with_reducible rfl
        rotate_left
        · simp only [Act.put, List.setIfInBounds_toArray, List.set_cons_zero, List.set_cons_succ, i64_w, i32_w]
          rfl
        refine pure_ (i := 3) (N := some 20) (v := ?_) (a' := ?_) #[true, true, true, true, false, false, false, false, false, false] rfl rfl (any_of HT_.out (by kernel_rfl)) (fun _ _ _ h => h) (Or.inl ⟨by rfl, ?_⟩) ?_ ?_
        rotate_left
        · intro w'
          go_simp
          with_reducible rfl
        rotate_left
        · simp only [Act.put, List.setIfInBounds_toArray, List.set_cons_zero, List.set_cons_succ, i64_w, i32_w]
          rfl
        refine pure_ (i := 4) (N := some 21) (v := ?_) (a' := ?_) #[true, true, true, true, true, false, false, false, false, false] rfl rfl (any_of HT_.out (by kernel_rfl)) (fun _ _ _ h => h) (Or.inl ⟨by rfl, ?_⟩) ?_ ?_
        rotate_left
        · intro w'
          go_simp
          with_reducible rfl
        rotate_left
        · simp only [Act.put, List.setIfInBounds_toArray, List.set_cons_zero, List.set_cons_succ, i64_w, i32_w]
          rfl
        refine pure_ (i := 5) (N := some 22) (v := ?_) (a' := ?_) #[true, true, true, true, true, true, false, false, false, false] rfl rfl (any_of HT_.out (by kernel_rfl)) (fun _ _ _ h => h) (Or.inl ⟨by rfl, ?_⟩) ?_ ?_
        rotate_left
        · intro w'
          go_simp
          with_reducible rfl
        rotate_left
        · simp only [Act.put, List.setIfInBounds_toArray, List.set_cons_zero, List.set_cons_succ, i64_w, i32_w]
          rfl
        refine pure_ (i := 6) (N := some 23) (v := ?_) (a' := ?_) #[true, true, true, true, true, true, true, false, false, false] rfl rfl (any_of HT_.out (by kernel_rfl)) (fun _ _ _ h => h) (Or.inl ⟨by rfl, ?_⟩) ?_ ?_
        rotate_left
        · intro w'
          go_simp
          with_reducible rfl
        rotate_left
        · simp only [Act.put, List.setIfInBounds_toArray, List.set_cons_zero, List.set_cons_succ, i64_w, i32_w]
          rfl
        refine one_ (i := 7) (N := some 24) #[true, true, true, true, true, true, true, true, false, false] rfl rfl (one_of HT_.out (by kernel_rfl)) (by decide) (fun K hK => ?_)
        refine lit_ (k := .u8) (by rfl) rfl 5 [bt (⟨#[48, 49, 50, 51, 52, 53, 54, 55, 56, 57, 97, 98, 99, 100, 101, 102]⟩ : ByteArray) q1, bt (⟨#[48, 49, 50, 51, 52, 53, 54, 55, 56, 57, 97, 98, 99, 100, 101, 102]⟩ : ByteArray) q2] (by first | (go_simp; done) | (go_simp; rfl)) (by simp) ?_
        intro v24 w7 hR7 hb7
        obtain ⟨A24, c24, e24⟩ := Kd.R_slice hR7
        have HR7 := Aside0.mk hR7
        have HX := Aside0.mk (Kd.R_elder' (Kd.R_drew HR.out) (Kd.R_base hR7) hb7)
        have HX7 := Aside0.mk (show ∀ k, v24.ownBlock = some k → k ≠ g from fun k hk he => by have h1 := Kd.R_base hR7 k hk; have h2 : g < wr.heap.size := HLT.out; have h3 : wr.drew.heap.size = wr.heap.size := rfl; omega)
        have HB7 := Aside0.mk ((below_drew1 HB.out).trans (belowTo hb7 HB.out.size))
        have HC7 := Aside0.mk (show ∀ j, j < a0.size → w7.cell? ⟨g, j, none⟩ = some (.int .u8 ((bytesOf a0)[j]?.getD 0)) from fun j hj => pw_cell_below hb7 (HCC.out j hj))
        have HL7 := Aside0.mk (Nat.lt_of_lt_of_le HLT.out hb7.size)
        subst e24
        clear hR7 hb7 HR HB HCC HLT
        refine hK.out _ _ trivial (fun hHeld => ?_)
        clear hK K
        refine norm_ (a' := ?_) ?_ ?_
        rotate_left
        · show Act.put _ (some 24) _ = _
          simp only [Act.put, List.setIfInBounds_toArray, List.set_cons_zero, List.set_cons_succ, i64_w, i32_w]
          rfl
        refine one_ (i := 8) (N := some 25) #[true, true, true, true, true, true, true, true, true, false] rfl rfl (one_of HT_.out (by kernel_rfl)) (by decide) (fun K hK => ?_)
        refine Kd.R_append_rows_step (Kd.int .u8) (w0 := w) w.heap.size (by rfl) (.tmp 17) (.tmp 24) 22 5 (.int .u8 0) 1 rfl Tryd.underlying22 info5 rfl (by decide) (by omega) _ (txtN (bytesOf a0) i) [bt (⟨#[48, 49, 50, 51, 52, 53, 54, 55, 56, 57, 97, 98, 99, 100, 101, 102]⟩ : ByteArray) q1, bt (⟨#[48, 49, 50, 51, 52, 53, 54, 55, 56, 57, 97, 98, 99, 100, 101, 102]⟩ : ByteArray) q2] _ _ _ (fun k_ => k_ ≠ g) (fun _ => False) rfl rfl ?aO ?aR (fun _ _ h => h) (fun _ h => h.elim) ?aF ?aB ?aS ?aL ?_
        (case aR => exact (Kd.R_reads' HR7.out).2.2)
        (case aB => exact HB7.out)
        (case aF => exact fun k hk => by have := HL7.out; omega)
        (case aO => exact Kd.R_mono HX.out (fun _ hk => hk.1))
        (case aS => exact HB7.out.size)
        (case aL => rw [txtN_len]; have h1 := HL.out; have h2 := HM.out.1; have h3 := HI.out; simp only [List.length_cons, List.length_nil]; omega)
        intro v25 w8 ho hb hg hat
        have HR := Aside0.mk ho
        have HB := Aside0.mk hb
        have HAT := Aside0.mk (And.intro hg hat)
        clear ho hb hg hat
        refine hK.out _ _ trivial (fun hHeld => ?_)
        clear hK K
        refine norm_ (a' := ?_) ?_ ?_
        rotate_left
        · show Act.put _ (some 25) _ = _
          simp only [Act.put, List.setIfInBounds_toArray, List.set_cons_zero, List.set_cons_succ, i64_w, i32_w]
          rfl
        refine pure_ (i := 9) (N := some 3) (v := ?_) (a' := ?_) #[true, true, true, true, true, true, true, true, true, true] rfl rfl (any_of HT_.out (by kernel_rfl)) (fun _ _ _ h => h) (Or.inl ⟨by rfl, ?_⟩) ?_ ?_
        rotate_left
        · intro w'
          go_simp
          with_reducible rfl
        rotate_left
        · simp only [Act.put, List.setIfInBounds_toArray, List.set_cons_zero, List.set_cons_succ, i64_w, i32_w]
          rfl
        refine done_ (done_of HT_.out (by kernel_rfl)) ?_
        clear hx hx1 hx2 p0 o0 p1 p2 p3 p4 hq1 hq2 d1 d2
        try go_wp2
        go_roundg k1
        case measure => omega
        case rel =>
          refine ⟨i + 1, by rw [HW.out], ⟨by have := hk.out; omega, by have := HI.out; omega⟩, ⟨by rw [txtN, HC0.out, HQ.out.1, HQ.out.2]; exact HR.out⟩, ⟨fun j hj => HAT.out.1.cell (HC7.out j hj) (fun he => (HX.out.1 g he.symm).1 rfl)⟩, ⟨Nat.lt_of_lt_of_le HL7.out HAT.out.1.size⟩, HB⟩
      · have hie : i = m := by have := hk.out; omega
        have d1 : decide ((i : Int) < (m : Int)) = false := decide_eq_false (by omega)
        have d2 : decide (i < m) = false := decide_eq_false hlt
        rw [hie] at HR
        clear hlt hie
        have hcv := own_string (P := Tryd.prog) Tryd.underlying22 Tryd.underlying5 Tryd.underlying9 (Kd.own_of_R HR.out)
        go_wp2
        go_ret
        exact ⟨by rw [HM.out.1]; rfl, HB.out⟩
  · rw [if_neg hl] at h
    cases h


/-! ### remoralaw03_awake: function 12 -/
theorem C_alloc_lit (w : World) (k : IntKind) (e : TypeId) (fr : Nat × Nat) (xs : List Int) (C : Array Value) (hC : C.toList = xs.map (Value.int k)) (hl : xs.length ≤ 9223372036854775807) :
    (Kd.int k).C (w.alloc (.cells C e fr)) (some ⟨w.heap.size, 0, none⟩) xs.length xs := by
  refine Kd.C_of_reads (d := (0 : Int)) (h1 := fun _ => rfl) ⟨rfl, hl, fun _ => ⟨_, rfl, fun j hj => ?_⟩⟩
  have e1 : (⟨w.heap.size, 0, none⟩ : Addr).add j = ⟨w.heap.size, j, none⟩ := by
    unfold Addr.add
    by_cases h : j = 0
    · simp [h]
    · simp [h]
  rw [e1, World.cell?_alloc_mark, ← Array.getElem?_toList, hC, List.getElem?_map, List.getElem?_eq_getElem hj, List.getD_eq_getElem?_getD, List.getElem?_eq_getElem hj]
  rfl
set_option maxRecDepth 1000000 in
theorem abc_sum : sha_Sum.f [97, 98, 99] = some (⟨#[186, 120, 22, 191, 143, 1, 207, 234, 65, 65, 64, 222, 93, 174, 34, 35, 176, 3, 97, 163, 150, 23, 122, 156, 180, 16, 255, 97, 242, 0, 21, 173]⟩ : ByteArray) := by decide +kernel
set_option maxRecDepth 1000000 in
theorem abc_text : sha_Text.f (⟨#[186, 120, 22, 191, 143, 1, 207, 234, 65, 65, 64, 222, 93, 174, 34, 35, 176, 3, 97, 163, 150, 23, 122, 156, 180, 16, 255, 97, 242, 0, 21, 173]⟩ : ByteArray) = some (⟨#[98, 97, 55, 56, 49, 54, 98, 102, 56, 102, 48, 49, 99, 102, 101, 97, 52, 49, 52, 49, 52, 48, 100, 101, 53, 100, 97, 101, 50, 50, 50, 51, 98, 48, 48, 51, 54, 49, 97, 51, 57, 54, 49, 55, 55, 97, 57, 99, 98, 52, 49, 48, 102, 102, 54, 49, 102, 50, 48, 48, 49, 53, 97, 100]⟩ : ByteArray) := by decide +kernel
set_option maxRecDepth 1000000 in
theorem nil_sum : sha_Sum.f [] = some (⟨#[227, 176, 196, 66, 152, 252, 28, 20, 154, 251, 244, 200, 153, 111, 185, 36, 39, 174, 65, 228, 100, 155, 147, 76, 164, 149, 153, 27, 120, 82, 184, 85]⟩ : ByteArray) := by decide +kernel
set_option maxRecDepth 1000000 in
theorem nil_text : sha_Text.f (⟨#[227, 176, 196, 66, 152, 252, 28, 20, 154, 251, 244, 200, 153, 111, 185, 36, 39, 174, 65, 228, 100, 155, 147, 76, 164, 149, 153, 27, 120, 82, 184, 85]⟩ : ByteArray) = some (⟨#[101, 51, 98, 48, 99, 52, 52, 50, 57, 56, 102, 99, 49, 99, 49, 52, 57, 97, 102, 98, 102, 52, 99, 56, 57, 57, 54, 102, 98, 57, 50, 52, 50, 55, 97, 101, 52, 49, 101, 52, 54, 52, 57, 98, 57, 51, 52, 99, 97, 52, 57, 53, 57, 57, 49, 98, 55, 56, 53, 50, 98, 56, 53, 53]⟩ : ByteArray) := by decide +kernel
def remoralaw03_awake.f : Option Bool := some true
set_option maxHeartbeats 8000000 in
set_option maxRecDepth 100000 in
theorem remoralaw03_awake.calls (r : Bool) (w : World) (h : remoralaw03_awake.f = some r) : Calls Tryd.prog 12 #[] w fun e w' => e = .returned (.bool r) ∧ Below w.heap.size w w' := by
  obtain rfl := Option.some.inj h
  clear h
  have kc := fun (w : World) (C : Array Value) (n c : Nat) => Lib.run_convert_bytes_const (P := Tryd.prog) w 22 5 C n c Tryd.underlying22 Tryd.underlying5
  go_enter Tryd.func12, Tryd.ntmps12
  go_wp2_with fail
  clear kc
  have hB1 : Below w.heap.size w (w.alloc (.cells #[Value.int IntKind.u8 97, Value.int IntKind.u8 98, Value.int IntKind.u8 99] 5 (3, 4))) := (Below.refl _ _).alloc (Nat.le_refl _) _
  have hC1 := C_alloc_lit w .u8 5 (3, 4) [97, 98, 99] #[Value.int IntKind.u8 97, Value.int IntKind.u8 98, Value.int IntKind.u8 99] rfl (by decide)
  refine (sha_Sum.calls (some ⟨w.heap.size, 0, none⟩) 3 [97, 98, 99] _ _ hC1 (by decide) abc_sum).mono ?_
  rintro e w1 ⟨rfl, hb⟩
  have HB := Aside0.mk (below_step hB1 hb)
  clear hB1 hC1 hb
  go_wp2_with fail
  refine (sha_Text.calls _ _ _ abc_text).mono ?_
  rintro e w2 ⟨rfl, hb⟩
  replace HB := Aside0.mk (below_step HB.out hb)
  clear hb
  go_wp2_with fail
  refine (sha_Sum.calls none 0 [] _ _ (Kd.C_nil _ _) (by decide) nil_sum).mono ?_
  rintro e w3 ⟨rfl, hb⟩
  replace HB := Aside0.mk (below_step HB.out hb)
  clear hb
  go_wp2_with fail
  refine (sha_Text.calls _ _ _ nil_text).mono ?_
  rintro e w4 ⟨rfl, hb⟩
  replace HB := Aside0.mk (below_step HB.out hb)
  clear hb
  go_wp2_with fail
  go_ret
  exact ⟨rfl, HB.out⟩

-- NOT PRINTED: function 15 (sha_State_Len)

/-! ### remoralaw03_ShaCopies: function 6 -/
theorem wf8 {n : Int} (h : (Lit.int .u8 n).wf = true) : 0 ≤ n ∧ n < 256 := by
  have e0 : IntKind.u8.min = 0 := by decide
  have e1 : IntKind.u8.max = 255 := by decide
  simp [Lit.wf, e0, e1] at h
  omega
theorem byte_wf {n : Int} (h : (Lit.int .u8 n).wf = true) : 0 ≤ n ∧ n ≤ 255 := by have := wf8 h; omega
theorem f_tail (n i : Nat) (hn : n ≤ 281474976710656) (hi : i < 8) : (shr .u64 (IntKind.u64.wrap (wrap64 (8 * (n : Int)))) (IntKind.u64.wrap (wrap64 (56 - wrap64 (8 * (i : Int)))))) % 256 = (shr .u64 (IntKind.u64.wrap ((IntKind.u64.wrap ((n : Nat) : Int)) * 8)) ((56 - 8 * i : Nat) : Int)) % 256 := by
  have e1 : wrap64 (8 * (i : Int)) = 8 * (i : Int) := by unfold wrap64; omega
  have e2 : wrap64 (56 - 8 * (i : Int)) = ((56 - 8 * i : Nat) : Int) := by unfold wrap64; omega
  have e3 : IntKind.u64.wrap ((56 - 8 * i : Nat) : Int) = ((56 - 8 * i : Nat) : Int) := by rw [IntKind.wrap_u64]; omega
  have e4 : wrap64 (8 * (n : Int)) = 8 * (n : Int) := by unfold wrap64; omega
  have e5 : IntKind.u64.wrap ((IntKind.u64.wrap ((n : Nat) : Int)) * 8) = IntKind.u64.wrap (8 * (n : Int)) := by rw [IntKind.wrap_u64, IntKind.wrap_u64, IntKind.wrap_u64]; omega
  rw [e1, e2, e3, e4, e5]
theorem filled_l1 (n : Nat) (hn : n ≤ 281474976710656) (x : List Int) (hx : x.length < 100000000000) : ∀ (d i : Nat), i + d = 8 → Ev (fun k => remoraref03_filled.l1 k (x ++ shaTail n i) (IntKind.u64.wrap (wrap64 (8 * (n : Int)))) (i : Int)) (x ++ shaTail n 8)
  | 0, i, h => by
    obtain rfl : i = 8 := by omega
    refine Ev.step (f := fun _ => some (x ++ shaTail n 8)) (fun k => ?_) (Ev.now _)
    rw [remoraref03_filled.l1, if_neg (by omega)]
  | d + 1, i, h => by
    have ih := filled_l1 n hn x hx d (i + 1) (by omega)
    refine Ev.step (fun k => ?_) ih
    have e1 : wrap64 (8 * (i : Int)) = 8 * (i : Int) := by unfold wrap64; omega
    have e2 : wrap64 (56 - 8 * (i : Int)) = ((56 - 8 * i : Nat) : Int) := by unfold wrap64; omega
    have e3 : IntKind.u64.wrap ((56 - 8 * i : Nat) : Int) = ((56 - 8 * i : Nat) : Int) := by rw [IntKind.wrap_u64]; omega
    have e6 : wrap64 ((i : Int) + 1) = ((i + 1 : Nat) : Int) := by unfold wrap64; omega
    have hl : (x ++ shaTail n i).length < 140737488355328 := by rw [List.length_append, shaTail, List.length_map, List.length_range]; omega
    rw [remoraref03_filled.l1, if_pos (by omega), if_pos (by rw [e1, e2, e3]; omega), if_pos hl, f_tail n i hn (by omega), e6, List.append_assoc]
    have hs : shaTail n i ++ [(shr .u64 (IntKind.u64.wrap ((IntKind.u64.wrap ((n : Nat) : Int)) * 8)) ((56 - 8 * i : Nat) : Int)) % 256] = shaTail n (i + 1) := by
      rw [shaTail, shaTail, List.range_succ, List.map_append]
      rfl
    rw [hs]
theorem filled_l0 (l0 : List Int) (hn : l0.length ≤ 1000000000) : ∀ (z : Nat) (x : List Int), x.length < l0.length + 200 → (x.length + z) % 64 = 56 → (∀ y, y < z → (x.length + y) % 64 ≠ 56) → x.length + z < l0.length + 200 → Ev (fun k => remoraref03_filled.l0 k l0 x) ((x ++ List.replicate z 0) ++ shaTail l0.length 8)
  | 0, x, hx, hz, _, _ => by
    have h := filled_l1 l0.length (by omega) x (by omega) 8 0 (by omega)
    rw [show shaTail l0.length 0 = [] from rfl, List.append_nil] at h
    refine Ev.step (fun k => ?_) (by rw [List.replicate_zero, List.append_nil]; exact h)
    rw [remoraref03_filled.l0, if_pos (by omega)]
    rfl
  | z + 1, x, hx, hz, hy, hl => by
    have h0 := hy 0 (by omega)
    have h := filled_l0 l0 hn z (x ++ [0]) (by rw [List.length_append, List.length_singleton]; omega) (by rw [List.length_append, List.length_singleton, ← hz]; congr 1; omega)
      (fun y hy1 => by have := hy (y + 1) (by omega); rw [List.length_append, List.length_singleton, show x.length + 1 + y = x.length + (y + 1) by omega]; exact this) (by rw [List.length_append, List.length_singleton]; omega)
    rw [show x ++ [0] ++ List.replicate z 0 = x ++ List.replicate (z + 1) 0 by rw [List.append_assoc, List.replicate_succ]; rfl] at h
    refine Ev.step (fun k => ?_) h
    rw [remoraref03_filled.l0, if_neg (by omega), if_pos (by omega)]
theorem filled_of (l0 : List Int) (hn : l0.length ≤ 1000000000) : Ev (fun k => remoraref03_filled.f k l0) (l0 ++ shaEnd l0.length) := by
  have hq := Nat.mod_lt (119 - l0.length % 64) (show 0 < 64 by decide)
  have h := filled_l0 l0 hn ((119 - l0.length % 64) % 64) (l0 ++ [128]) (by rw [List.length_append, List.length_singleton]; omega) (by rw [List.length_append, List.length_singleton]; omega) (by intro y hy; rw [List.length_append, List.length_singleton]; omega) (by rw [List.length_append, List.length_singleton]; omega)
  have e1 : wrap64 ((l0.length : Int) + 72) = (l0.length : Int) + 72 := by unfold wrap64; omega
  rw [show (l0 ++ [128] ++ List.replicate ((119 - l0.length % 64) % 64) 0) ++ shaTail l0.length 8 = l0 ++ shaEnd l0.length by unfold shaEnd; simp only [List.append_assoc]] at h
  refine Ev.congr (fun k => ?_) h
  unfold remoraref03_filled.f
  rw [if_pos (by rw [e1]; omega), if_pos (by rw [e1]; omega), Option.bind_some, if_pos (by rw [List.length_replicate]; omega), Option.bind_some, List.replicate_zero, List.nil_append, if_pos (by omega)]
set_option maxRecDepth 10000 in
theorem or_add (i : Nat) (x y : Int) (h0 : 0 ≤ x) (h1 : 0 ≤ y) (h2 : y < 2 ^ i) (h3 : x * 2 ^ i + y < 4294967296) : Go.bits .or .u32 (x * 2 ^ i) y = x * 2 ^ i + y := by
  obtain ⟨a, rfl⟩ := Int.eq_ofNat_of_zero_le h0
  obtain ⟨b, rfl⟩ := Int.eq_ofNat_of_zero_le h1
  have e1 : ((a : Int) * 2 ^ i) = ((a * 2 ^ i : Nat) : Int) := by simp
  rw [e1] at h3 ⊢
  have hb : b < 2 ^ i := by exact_mod_cast h2
  obtain ⟨c, hc⟩ : ∃ c, c = a * 2 ^ i := ⟨_, rfl⟩
  have hor : c ||| b = c + b := by
    rw [hc, ← Nat.shiftLeft_eq, Nat.shiftLeft_add_eq_or_of_lt hb]
  rw [← hc] at h3 ⊢
  have hs : c + b < 4294967296 := by omega
  unfold Go.bits
  simp only [IntKind.wrap_u32]
  have e2 : IntKind.u32.bits = 32 := rfl
  have ht : (BitVec.ofInt 32 (c : Int) ||| BitVec.ofInt 32 (b : Int)).toNat = c + b := by
    rw [BitVec.toNat_or, BitVec.ofInt_natCast, BitVec.ofInt_natCast, BitVec.toNat_ofNat, BitVec.toNat_ofNat, Nat.mod_eq_of_lt (by omega), Nat.mod_eq_of_lt (by omega), hor]
  rw [e2, ht]
  omega
theorem word4 {a b c d : Int} (ha : 0 ≤ a ∧ a ≤ 255) (hb : 0 ≤ b ∧ b ≤ 255) (hc : 0 ≤ c ∧ c ≤ 255) (hd : 0 ≤ d ∧ d ≤ 255) :
    Go.bits .or .u32 (IntKind.u32.wrap (Go.bits .or .u32 (IntKind.u32.wrap (Go.bits .or .u32 (IntKind.u32.wrap (Go.bits .or .u32 (IntKind.u32.wrap (0 * 256)) (IntKind.u32.wrap a) * 256)) (IntKind.u32.wrap b) * 256)) (IntKind.u32.wrap c) * 256)) (IntKind.u32.wrap d) =
    Go.bits .or .u32 (Go.bits .or .u32 (Go.bits .or .u32 (((a % 4294967296) * 16777216) % 4294967296) (((b % 4294967296) * 65536) % 4294967296)) (((c % 4294967296) * 256) % 4294967296)) (d % 4294967296) := by
  have w : ∀ x : Int, 0 ≤ x → x < 4294967296 → IntKind.u32.wrap x = x := fun x h0 h1 => by rw [IntKind.wrap_u32]; omega
  have e1 : Go.bits .or .u32 (IntKind.u32.wrap (0 * 256)) (IntKind.u32.wrap a) = a := by
    have h := or_add 8 0 a (by omega) ha.1 (by omega) (by omega)
    rw [w _ (by omega) (by omega), w _ (by omega) (by omega), show (0 : Int) * 256 = 0 * 2 ^ 8 by omega, h]; omega
  have e2 : Go.bits .or .u32 (IntKind.u32.wrap (a * 256)) (IntKind.u32.wrap b) = a * 256 + b := by
    have h := or_add 8 a b (by omega) hb.1 (by omega) (by omega)
    rw [w _ (by omega) (by omega), w _ (by omega) (by omega), show a * 256 = a * 2 ^ 8 by omega, h]
  have e3 : Go.bits .or .u32 (IntKind.u32.wrap ((a * 256 + b) * 256)) (IntKind.u32.wrap c) = (a * 256 + b) * 256 + c := by
    have h := or_add 8 (a * 256 + b) c (by omega) hc.1 (by omega) (by omega)
    rw [w _ (by omega) (by omega), w _ (by omega) (by omega), show (a * 256 + b) * 256 = (a * 256 + b) * 2 ^ 8 by omega, h]
  have e4 : Go.bits .or .u32 (IntKind.u32.wrap (((a * 256 + b) * 256 + c) * 256)) (IntKind.u32.wrap d) = ((a * 256 + b) * 256 + c) * 256 + d := by
    have h := or_add 8 ((a * 256 + b) * 256 + c) d (by omega) hd.1 (by omega) (by omega)
    rw [w _ (by omega) (by omega), w _ (by omega) (by omega), show ((a * 256 + b) * 256 + c) * 256 = ((a * 256 + b) * 256 + c) * 2 ^ 8 by omega, h]
  have m : ∀ x : Int, 0 ≤ x → x < 4294967296 → x % 4294967296 = x := fun x h0 h1 => by omega
  rw [e1, e2, e3, e4, m a (by omega) (by omega), m b (by omega) (by omega), m c (by omega) (by omega), m d (by omega) (by omega), m (a * 16777216) (by omega) (by omega), m (b * 65536) (by omega) (by omega), m (c * 256) (by omega) (by omega)]
  have f1 : Go.bits .or .u32 (a * 16777216) (b * 65536) = (a * 256 + b) * 65536 := by
    have h := or_add 24 a (b * 65536) (by omega) (by omega) (by omega) (by omega)
    rw [show a * 16777216 = a * 2 ^ 24 by omega, h]; omega
  have f2 : Go.bits .or .u32 ((a * 256 + b) * 65536) (c * 256) = ((a * 256 + b) * 256 + c) * 256 := by
    have h := or_add 16 (a * 256 + b) (c * 256) (by omega) (by omega) (by omega) (by omega)
    rw [show (a * 256 + b) * 65536 = (a * 256 + b) * 2 ^ 16 by omega, h]; omega
  have f3 : Go.bits .or .u32 (((a * 256 + b) * 256 + c) * 256) d = ((a * 256 + b) * 256 + c) * 256 + d := by
    have h := or_add 8 ((a * 256 + b) * 256 + c) d (by omega) hd.1 (by omega) (by omega)
    rw [show ((a * 256 + b) * 256 + c) * 256 = ((a * 256 + b) * 256 + c) * 2 ^ 8 by omega, h]
  rw [f1, f2, f3]
theorem wT_zero (b : List Int) : ∀ (t j : Nat), t ≤ j → (wT b t)[j]?.getD 0 = 0
  | 0, j, _ => by
    rw [wT, List.getElem?_replicate]
    split <;> rfl
  | t + 1, j, h => by
    have hk : ∀ k, (wK b (wT b t) t k)[j]?.getD 0 = 0 := fun k => by
      induction k with
      | zero => exact wT_zero b t j (by omega)
      | succ k ih => rw [wK, List.getElem?_set_ne (by omega)]; exact ih
    exact hk 4
theorem wT_next (b : List Int) (hb : ∀ i : Nat, 0 ≤ b[i]?.getD 0 ∧ b[i]?.getD 0 ≤ 255) (t : Nat) (ht : t < 64) : wT b (t + 1) = (wT b t).set t (Go.bits .or .u32 (Go.bits .or .u32 (Go.bits .or .u32 (((b[4 * t + 0]?.getD 0 % 4294967296) * 16777216) % 4294967296) (((b[4 * t + 1]?.getD 0 % 4294967296) * 65536) % 4294967296)) (((b[4 * t + 2]?.getD 0 % 4294967296) * 256) % 4294967296)) (b[4 * t + 3]?.getD 0 % 4294967296)) := by
  have hl := wT_len b t
  obtain ⟨W, hW⟩ : ∃ W, W = wT b t := ⟨_, rfl⟩
  have h0 : W[t]?.getD 0 = 0 := by rw [hW]; exact wT_zero b t t (Nat.le_refl _)
  rw [← hW] at hl ⊢
  have hs : ∀ (V : List Int) (x : Int), V.length = 64 → (V.set t x)[t]?.getD 0 = x := fun V x hv => by
    rw [List.getElem?_set_self (by omega)]
    rfl
  rw [wT, ← hW, wK, wK, wK, wK, wK, h0]
  simp only [List.set_set, hs W _ hl]
  rw [word4 (hb _) (hb _) (hb _) (hb _)]
theorem rd_nat (l : List Int) (i : Nat) : rd l (i : Int) = l[i]?.getD 0 := by
  unfold rd
  rw [Int.toNat_natCast, List.getD_eq_getElem?_getD]
theorem words_l1 (b : List Int) : ∀ (d n : Nat), n + d = 48 → Ev (fun k => remoraref03_words.l1 k (wN b n) ((n + 16 : Nat) : Int)) (shaWords b)
  | 0, n, h => by
    obtain rfl : n = 48 := by omega
    have hs : shaWords b = wN b 48 := rfl
    rw [hs]
    refine Ev.step (f := fun _ => some (wN b 48)) (fun k => ?_) (Ev.now _)
    rw [remoraref03_words.l1, if_neg (by omega)]
  | d + 1, n, h => by
    have ih := words_l1 b d (n + 1) (by omega)
    refine Ev.step (fun k => ?_) ih
    have hl : (wN b n).length = 64 := wN_len b n
    have hN : wN b (n + 1) = (wN b n).set (n + 16) (wNext (wN b n) (n + 16)) := rfl
    rw [hN]
    clear ih hN
    obtain ⟨W, hW⟩ : ∃ W, W = wN b n := ⟨_, rfl⟩
    rw [← hW] at hl ⊢
    clear hW
    have g0 : ((n + 16 : Nat) : Int) < 64 := by omega
    have g2 : (0 : Int) ≤ ((n + 16 - 2 : Nat) : Int) ∧ ((n + 16 - 2 : Nat) : Int) < (W.length : Int) := by omega
    have g7 : (0 : Int) ≤ ((n + 16 - 7 : Nat) : Int) ∧ ((n + 16 - 7 : Nat) : Int) < (W.length : Int) := by omega
    have g15 : (0 : Int) ≤ ((n + 16 - 15 : Nat) : Int) ∧ ((n + 16 - 15 : Nat) : Int) < (W.length : Int) := by omega
    have g16 : (0 : Int) ≤ ((n + 16 - 16 : Nat) : Int) ∧ ((n + 16 - 16 : Nat) : Int) < (W.length : Int) := by omega
    have g1 : (0 : Int) ≤ ((n + 16 : Nat) : Int) ∧ ((n + 16 : Nat) : Int) < (W.length : Int) := by omega
    have e2 : wrap64 (((n + 16 : Nat) : Int) - 2) = ((n + 16 - 2 : Nat) : Int) := by unfold wrap64; omega
    have e7 : wrap64 (((n + 16 : Nat) : Int) - 7) = ((n + 16 - 7 : Nat) : Int) := by unfold wrap64; omega
    have e15 : wrap64 (((n + 16 : Nat) : Int) - 15) = ((n + 16 - 15 : Nat) : Int) := by unfold wrap64; omega
    have e16 : wrap64 (((n + 16 : Nat) : Int) - 16) = ((n + 16 - 16 : Nat) : Int) := by unfold wrap64; omega
    have e1 : wrap64 (((n + 16 : Nat) : Int) + 1) = ((n + 1 + 16 : Nat) : Int) := by unfold wrap64; omega
    rw [remoraref03_words.l1, if_pos g0, e2, e7, e15, e16, e1, if_pos g2.1, if_pos g2.2, if_pos g15.1, if_pos g15.2, rd_nat, rd_nat, rd_nat, rd_nat, rtu_at _ 17 17 rfl (by decide), rtu_at _ 19 19 rfl (by decide), Option.bind_some, Option.bind_some, if_pos g7.1, if_pos g7.2, rtu_at _ 7 7 rfl (by decide), rtu_at _ 18 18 rfl (by decide), Option.bind_some, Option.bind_some, if_pos g16.1, if_pos g16.2, if_pos g1.1, if_pos g1.2, Int.toNat_natCast]
    unfold wNext
    simp only [IntKind.wrap_u32]
theorem words_l0 (b : List Int) (h64 : b.length = 64) (hb : ∀ i : Nat, 0 ≤ b[i]?.getD 0 ∧ b[i]?.getD 0 ≤ 255) : ∀ (d t : Nat), t + d = 16 → Ev (fun k => remoraref03_words.l0 k b (wT b t) (t : Int)) (shaWords b)
  | 0, t, h => by
    obtain rfl : t = 16 := by omega
    refine Ev.step (fun k => ?_) (words_l1 b 48 0 rfl)
    rw [remoraref03_words.l0, if_neg (by omega)]
    rfl
  | d + 1, t, h => by
    have ih := words_l0 b h64 hb d (t + 1) (by omega)
    refine Ev.step (fun k => ?_) ih
    have hl : (wT b t).length = 64 := wT_len b t
    have g : (t : Int) < 16 := by omega
    have g0 : (0 : Int) ≤ ((4 * t + 0 : Nat) : Int) ∧ ((4 * t + 0 : Nat) : Int) < (b.length : Int) := by omega
    have g1 : (0 : Int) ≤ ((4 * t + 1 : Nat) : Int) ∧ ((4 * t + 1 : Nat) : Int) < (b.length : Int) := by omega
    have g2 : (0 : Int) ≤ ((4 * t + 2 : Nat) : Int) ∧ ((4 * t + 2 : Nat) : Int) < (b.length : Int) := by omega
    have g3 : (0 : Int) ≤ ((4 * t + 3 : Nat) : Int) ∧ ((4 * t + 3 : Nat) : Int) < (b.length : Int) := by omega
    have g4 : (0 : Int) ≤ (t : Int) ∧ (t : Int) < ((wT b t).length : Int) := by omega
    have hx := wT_next b hb t (by omega)
    clear ih
    have e0 : wrap64 (4 * (t : Int)) = ((4 * t + 0 : Nat) : Int) := by unfold wrap64; omega
    have e1 : wrap64 (((4 * t + 0 : Nat) : Int) + 1) = ((4 * t + 1 : Nat) : Int) := by unfold wrap64; omega
    have e2 : wrap64 (((4 * t + 0 : Nat) : Int) + 2) = ((4 * t + 2 : Nat) : Int) := by unfold wrap64; omega
    have e3 : wrap64 (((4 * t + 0 : Nat) : Int) + 3) = ((4 * t + 3 : Nat) : Int) := by unfold wrap64; omega
    have e4 : wrap64 ((t : Int) + 1) = ((t + 1 : Nat) : Int) := by unfold wrap64; omega
    rw [remoraref03_words.l0, if_pos g, e0, e1, e2, e3, e4, if_pos g0.1, if_pos g0.2, if_pos g1.1, if_pos g1.2, if_pos g2.1, if_pos g2.2, if_pos g3.1, if_pos g3.2, if_pos g4.1, if_pos g4.2, rd_nat, rd_nat, rd_nat, rd_nat, Int.toNat_natCast, hx]
theorem words_of (b : List Int) (h64 : b.length = 64) (hb : ∀ i : Nat, 0 ≤ b[i]?.getD 0 ∧ b[i]?.getD 0 ≤ 255) : Ev (fun k => remoraref03_words.f k b) (shaWords b) := by
  refine Ev.congr (fun k => ?_) (words_l0 b h64 hb 16 0 rfl)
  unfold remoraref03_words.f
  rw [if_pos (by omega)]
  rfl
theorem shr24 (x : Int) : (shr .u32 x ((24 - 8 * 0 : Nat) : Int)) % 256 = (x / 16777216) % 256 := rfl
theorem shr16 (x : Int) : (shr .u32 x ((24 - 8 * 1 : Nat) : Int)) % 256 = (x / 65536) % 256 := rfl
theorem shr8 (x : Int) : (shr .u32 x ((24 - 8 * 2 : Nat) : Int)) % 256 = (x / 256) % 256 := rfl
theorem shr0 (x : Int) : (shr .u32 x ((24 - 8 * 3 : Nat) : Int)) % 256 = x % 256 := by
  show (x / 2 ^ 0) % 256 = _
  simp
/-- The four bytes of a word. -/
def four (x : Int) : List Int := [(x / 16777216) % 256, (x / 65536) % 256, (x / 256) % 256, x % 256]
def fours (hs : List Int) : Nat → List Int
  | 0 => []
  | i + 1 => fours hs i ++ four (hs[i]?.getD 0)
theorem fours_len (hs : List Int) (i : Nat) : (fours hs i).length = 4 * i := by
  induction i with
  | zero => rfl
  | succ i ih => rw [fours, List.length_append, ih]; rfl
theorem outT_fours (hs : List Int) : ∀ i, i ≤ 8 → outT hs i = fours hs i ++ List.replicate (32 - 4 * i) 0
  | 0, _ => rfl
  | i + 1, h => by
    have ih := outT_fours hs i (by omega)
    rw [outT, ih, fours]
    obtain ⟨x, hx⟩ : ∃ x, x = hs[i]?.getD 0 := ⟨_, rfl⟩
    rw [← hx, outK, outK, outK, outK, outK, shr24, shr16, shr8, shr0]
    have hl := fours_len hs i
    obtain ⟨F, hF⟩ : ∃ F, F = fours hs i := ⟨_, rfl⟩
    rw [← hF] at hl ⊢
    have hr : List.replicate (32 - 4 * i) (0 : Int) = 0 :: 0 :: 0 :: 0 :: List.replicate (32 - 4 * (i + 1)) 0 := by
      rw [show 32 - 4 * i = (32 - 4 * (i + 1)) + 1 + 1 + 1 + 1 by omega, List.replicate_succ, List.replicate_succ, List.replicate_succ, List.replicate_succ]
    rw [hr]
    have hs1 : ∀ (k : Nat) (L : List Int) (y : Int), (F ++ L).set (4 * i + k) y = F ++ L.set k y := fun k L y => by
      rw [List.set_append_right _ _ (by omega), hl, show 4 * i + k - 4 * i = k by omega]
    rw [hs1, hs1, hs1, hs1, List.append_assoc]
    rfl
theorem sum_l1 (hs : List Int) (h8 : hs.length = 8) : ∀ (d i : Nat), i + d = 8 → Ev (fun k => remoraref03_Sum.l1 k hs (fours hs i) (i : Int)) (strOfNums (fours hs 8))
  | 0, i, h => by
    obtain rfl : i = 8 := by omega
    refine Ev.step (f := fun _ => some (strOfNums (fours hs 8))) (fun k => ?_) (Ev.now _)
    rw [remoraref03_Sum.l1, if_neg (by omega)]
  | d + 1, i, h => by
    have ih := sum_l1 hs h8 d (i + 1) (by omega)
    refine Ev.step (fun k => ?_) ih
    have hl := fours_len hs i
    have g0 : (i : Int) < 8 := by omega
    have g1 : (0 : Int) ≤ (i : Int) := by omega
    have g2 : (i : Int) < (hs.length : Int) := by omega
    have e1 : wrap64 ((i : Int) + 1) = ((i + 1 : Nat) : Int) := by unfold wrap64; omega
    rw [remoraref03_Sum.l1, if_pos g0, if_pos g1, if_pos g2, Option.bind_some, rd_nat, if_pos (by rw [hl]; simp only [List.length_cons, List.length_nil]; omega), e1]
    rfl
theorem sum_l0 (all : List Int) (hb : ∀ i : Nat, 0 ≤ all[i]?.getD 0 ∧ all[i]?.getD 0 ≤ 255) (m : Nat) (hm : all.length = 64 * m) (hM : m ≤ 1000000000) : ∀ (d j : Nat), j + d = m → Ev (fun k => remoraref03_Sum.l0 k all (shFull all j) ((64 * j : Nat) : Int)) (strOfNums (fours (shFull all m) 8))
  | 0, j, h => by
    obtain rfl : j = m := by omega
    have h1 := sum_l1 (shFull all j) (shFull_len all j) 8 0 rfl
    refine Ev.step (fun k => ?_) h1
    rw [remoraref03_Sum.l0, if_neg (by omega), if_pos (by omega)]
    rfl
  | d + 1, j, h => by
    have ih := sum_l0 all hb m hm hM d (j + 1) (by omega)
    have hw : Ev (fun k => remoraref03_words.f k ((all.drop (64 * j)).take 64)) (shaWords ((all.drop (64 * j)).take 64)) := by
      refine words_of _ (by rw [List.length_take, List.length_drop]; omega) (fun i => ?_)
      rcases Nat.lt_or_ge i 64 with h64 | h64
      · rw [List.getElem?_take, if_pos h64, List.getElem?_drop]
        exact hb _
      · rw [List.getElem?_take, if_neg (by omega)]
        simp
    have hblk : remoraref03_block.f (shFull all j) (shaWords ((all.drop (64 * j)).take 64)) = some (shFull all (j + 1)) := by
      unfold remoraref03_block.f
      rw [if_pos (shFull_len all j), if_pos (shaWords_len _)]
      rfl
    have g0 : ((64 * j : Nat) : Int) < (all.length : Int) := by omega
    have g1 : (0 : Int) ≤ ((64 * j : Nat) : Int) := by omega
    have g2 : ((64 * j : Nat) : Int) ≤ ((64 * (j + 1) : Nat) : Int) := by omega
    have g3 : ((64 * (j + 1) : Nat) : Int) ≤ (all.length : Int) := by omega
    have e1 : wrap64 (((64 * j : Nat) : Int) + 64) = ((64 * (j + 1) : Nat) : Int) := by unfold wrap64; omega
    have hcut : (all.take (64 * (j + 1))).drop (64 * j) = (all.drop (64 * j)).take 64 := by rw [List.drop_take]; congr 1; omega
    have hfin : Ev (fun k => (remoraref03_words.f k ((all.drop (64 * j)).take 64)).bind fun t153 => (remoraref03_block.f (shFull all j) t153).bind fun t156 => remoraref03_Sum.l0 k all t156 ((64 * (j + 1) : Nat) : Int)) (strOfNums (fours (shFull all m) 8)) := by
      refine Ev.bind hw ?_
      refine Ev.congr (fun k => ?_) ih
      rw [hblk, Option.bind_some]
    refine Ev.step (fun k => ?_) hfin
    rw [remoraref03_Sum.l0, if_pos g0, if_pos g1, e1, if_pos g2, if_pos g3, Int.toNat_natCast, Int.toNat_natCast, hcut]
theorem shaTail_bytes (n : Nat) : ∀ x ∈ shaTail n 8, 0 ≤ x ∧ x ≤ 255 := by
  intro x hx
  unfold shaTail at hx
  obtain ⟨i, _, rfl⟩ := List.mem_map.1 hx
  omega
theorem all_bytes (l0 : List Int) (hb : ∀ x ∈ l0, 0 ≤ x ∧ x ≤ 255) (i : Nat) : 0 ≤ (l0 ++ shaEnd l0.length)[i]?.getD 0 ∧ (l0 ++ shaEnd l0.length)[i]?.getD 0 ≤ 255 := by
  have h : ∀ x ∈ l0 ++ shaEnd l0.length, 0 ≤ x ∧ x ≤ 255 := by
    intro x hx
    rcases List.mem_append.1 hx with h1 | h1
    · exact hb x h1
    · unfold shaEnd at h1
      rcases List.mem_append.1 h1 with h2 | h2
      · rcases List.mem_append.1 h2 with h3 | h3
        · obtain rfl := List.mem_singleton.1 h3; omega
        · obtain rfl := (List.mem_replicate.1 h3).2; omega
      · exact shaTail_bytes _ x h2
  rcases Nat.lt_or_ge i (l0 ++ shaEnd l0.length).length with hi | hi
  · rw [List.getElem?_eq_getElem hi]
    exact h _ (List.getElem_mem hi)
  · rw [List.getElem?_eq_none hi]
    simp
/-- The reference's sum is the program's. -/
theorem rsum_of (l0 : List Int) (hn : l0.length ≤ 1000000000) (hb : ∀ x ∈ l0, 0 ≤ x ∧ x ≤ 255) : Ev (fun k => remoraref03_Sum.f k l0) (strOfNums (shaSum l0)) := by
  have h1 := filled_of l0 hn
  have he := shaEnd_len l0.length
  have hab := all_bytes l0 hb
  have hL : (l0 ++ shaEnd l0.length).length = l0.length + (shaEnd l0.length).length := List.length_append
  obtain ⟨all, hall⟩ : ∃ all, all = l0 ++ shaEnd l0.length := ⟨_, rfl⟩
  rw [← hall] at h1 hab hL
  have h2 := sum_l0 all hab (all.length / 64) (by omega) (by omega) (all.length / 64) 0 (by omega)
  have hs : strOfNums (fours (shFull all (all.length / 64)) 8) = strOfNums (shaSum l0) := by
    rw [shaSum, ← hall, outT_fours _ 8 (by omega)]
    simp
  rw [hs] at h2
  exact Ev.bind h1 h2
theorem sum_f (l0 : List Int) (hn : l0.length ≤ 1000000000) : sha_Sum.f l0 = some (strOfNums (shaSum l0)) := by
  unfold sha_Sum.f
  rw [if_pos (by omega)]
theorem strOfNums_size (l : List Int) : (strOfNums l).size = l.length := by
  unfold strOfNums
  show Array.size _ = _
  simp
theorem rd8_arr {w : World} {g s : Nat} {e : TypeId} {xs : List Int} (h : Arr w g e .u8 xs) (hne : g ≠ s) (o n : Nat) (hn : o + n ≤ xs.length) (A : Option Addr) (hA : 0 < n → A = some ⟨g, o, none⟩) : Rd8 w s A ((xs.drop o).take n) := fun hb => by
  have hp : 0 < n := by
    rcases Nat.eq_zero_or_pos n with h0 | h0
    · subst h0; exact absurd (List.take_zero) hb
    · exact h0
  refine ⟨_, hA hp, hne, fun j hj => ?_⟩
  have hj' : j < n := by rw [List.length_take] at hj; omega
  have ha : (⟨g, o, none⟩ : Addr).add j = ⟨g, o + j, none⟩ := by unfold Addr.add; split <;> simp_all
  rw [ha, h.cell (o + j) (by omega), List.getElem?_take, if_pos hj', List.getElem?_drop, List.getD_eq_getElem?_getD]
section
variable {P : Program} {ops : Array Oper} {rest : List Oper} {o : Oper} {a : Act} {Q : Exit → Act → World → Prop}
/-- 'make([]byte, n)'. -/
theorem make_arr {W : World} (hgd : o.guard = none) {N : Tmp} (hd : o.dst = some N) (t e : TypeId) (x y : Operand) (ho : o.op = .makeSlice t x y) (n : Nat) (hx : a.eval x = .int .i64 (n : Int)) (hy : a.eval y = .int .i64 (n : Int)) (ht : P.underlying t = some (.slice e)) (hinfo : (P.info? e).map (fun i => (i.zero, i.size, i.bytes)) = some (some (.int .u8 0), 1, 1)) (hn : n ≤ 281474976710656)
    (h : ∀ g w1, W.heap.size = g → Arr w1 g e .u8 (List.replicate n 0) → Below W.heap.size W w1 → wpList P ops Q rest (a.put o.dst (.slice (some ⟨g, 0, none⟩) n n)) w1) : wpList P ops Q (o :: rest) a W := by
  obtain ⟨i0, hi, hzz⟩ := Option.map_eq_some_iff.1 hinfo
  simp only [Prod.mk.injEq] at hzz
  obtain ⟨hz0, hz1, hz2⟩ := hzz
  have hr := run_make (P := P) W t e i0 (.int .u8 0) ht hi hz0 .i64 .i64 (n : Int) (n : Int) (by omega) (by omega)
    (by rw [hz2]; omega) (by omega)
  simp only [Int.toNat_natCast] at hr
  rw [hz1] at hr
  have hrun : (execOp a.eval o).run P W = .ok (.value (.slice (some ⟨W.heap.size, 0, none⟩) n n)) (W.alloc (.cells (madeCells (Value.int .u8 0).cells (n * 1)) e)) := by
    simp [execOp, ho, hx, hy, hr]
  refine Kd.event_run hgd hrun (h _ _ rfl ?_ (below_alloc (Below.refl _ _) _))
  have hm : madeCells (Value.int .u8 0).cells (n * 1) = ((List.replicate n (0 : Int)).map (Value.int .u8)).toArray := by
    rw [Nat.mul_one, List.map_replicate]
    refine Array.ext (by simp [madeCells]) (fun i h1 h2 => ?_)
    simp [madeCells, Value.cells, Nat.mod_one]
  rw [hm]
  exact heap_new_ _ _
end
theorem sha_Write.calls_n (g : Nat) (bs : List Int) (A : Option Addr) (c : Nat) (b : List Int) (m : Nat) (hm : b.length = m) (w : World) (hS : StN w g bs (bs.length : Int)) (hA : Rd8 w g A b) (hc : m ≤ c) (hlen : bs.length + m < 9223372036854775808) :
    Calls Tryd.prog 8 #[.pointer (some ⟨g, 0, none⟩), .slice A m c] w fun e w' => e = .returned (.tuple #[]) ∧ StN w' g (bs ++ b) ((bs ++ b).length : Int) ∧ w.grownBy w' (some g) := by
  subst hm
  exact sha_Write.calls g bs A c b w hS hA hc hlen
theorem sha_Sum.calls_n (A0 : Option Addr) (c0 : Nat) (l0 : List Int) (m : Nat) (hm : l0.length = m) (r : ByteArray) (w : World) (hr0 : Kd.C (Kd.int .u8) w A0 m l0) (hc0 : m ≤ c0) (h : sha_Sum.f l0 = some r) :
    Calls Tryd.prog 10 #[.slice A0 m c0] w fun e w' => e = .returned (.string r) ∧ Below w.heap.size w w' := by
  subst hm
  exact sha_Sum.calls A0 c0 l0 r w hr0 hc0 h
theorem arr_C {w : World} {g : Nat} {e : TypeId} {k : IntKind} {xs : List Int} (h : Arr w g e k xs) (hl : xs.length ≤ 9223372036854775807) : Kd.C (Kd.int k) w (some ⟨g, 0, none⟩) xs.length xs := Kd.C_of_reads (d := (0 : Int)) (h1 := fun _ => rfl) (arr_reads h hl)
section
variable {P : Program} {ops : Array Oper} {rest : List Oper} {o : Oper} {a : Act} {Q : Exit → Act → World → Prop}
/-- 'b[q:]' of a row from its head. -/
theorem slice_from {W : World} (hgd : o.guard = none) (t e : TypeId) (x lo : Operand) (ho : o.op = .slice t x (some lo) none none) {g n q : Nat} (hx : a.eval x = .slice (some ⟨g, 0, none⟩) n n) (hl : a.eval lo = .int .i64 (q : Int)) (ht : P.underlying t = some (.slice e)) (hs : (P.info? e).map (·.size) = some 1) (hq : q ≤ n)
    (h : ∀ A : Option Addr, (0 < n - q → A = some ⟨g, q, none⟩) → wpList P ops Q rest (a.put o.dst (.slice A (n - q) (n - q))) W) : wpList P ops Q (o :: rest) a W := by
  have hel : P.elem t = e := by simp [Program.elem, ht]
  have hu : P.underlying t = some (.slice (P.elem t)) := by rw [hel]; exact ht
  obtain ⟨i0, hi, hz⟩ := Option.map_eq_some_iff.1 hs
  have hr : (Instr.slice t (.slice (some ⟨g, 0, none⟩) n n) (some (.int .i64 (q : Int))) none none).run P W = .ok (.slice (if n = q then some ⟨g, 0, none⟩ else some ((⟨g, 0, none⟩ : Addr).add q)) (n - q) (n - q)) W := by
    rw [run_slice_l W t (some ⟨g, 0, none⟩) n n hu .i64 (q : Int) (by omega) (by omega), hel]
    simp [sizeOf, typeInfo, hi, hz, sliced, Result.andThen]
  refine Kd.event_run hgd (v := .slice (if n = q then some ⟨g, 0, none⟩ else some ((⟨g, 0, none⟩ : Addr).add q)) (n - q) (n - q)) (w1 := W) ?_ (h _ (fun hp => ?_))
  · simp [execOp, ho, hx, hl, run_sliceAt_slice W t _ _ _ _ hu, hr]
  · rw [if_neg (by omega), add_plain]
end
theorem remoraref03_Sum.calls_n (k : Nat) (A0 : Option Addr) (c0 : Nat) (l0 : List Int) (m : Nat) (hm : l0.length = m) (r : ByteArray) (w : World) (hr0 : Kd.C (Kd.int .u8) w A0 m l0) (hc0 : m ≤ c0) (h : remoraref03_Sum.f k l0 = some r) (hG : GL w) :
    Calls Tryd.prog 11 #[.slice A0 m c0] w fun e w' => e = .returned (.string r) ∧ Below w.heap.size w w' := by
  subst hm
  exact remoraref03_Sum.calls k A0 c0 l0 r w hr0 hc0 h hG
set_option maxHeartbeats 8000000 in
set_option maxRecDepth 100000 in
theorem sha_Len.calls (g : Nat) (bs : List Int) (w : World) (hS : StN w g bs (bs.length : Int)) : Calls Tryd.prog 15 #[.pointer (some ⟨g, 0, none⟩)] w fun e w' => e = .returned (.int .i64 (bs.length : Int)) ∧ Drawn0 w w' := by
  have hn := hS.n_
  obtain ⟨l, hl⟩ : ∃ l : Nat, l = bs.length := ⟨_, rfl⟩
  rw [← hl] at hn ⊢
  clear hS hl
  go_enter Tryd.func15, Tryd.ntmps15
  go_wp2
  go_ret
  exact ⟨rfl, by repeat (first | exact Drawn0.refl _ | apply Drawn0.step)⟩
set_option maxHeartbeats 8000000 in
set_option maxRecDepth 100000 in
theorem sha_Len.calls_nil (w : World) : Calls Tryd.prog 15 #[.pointer none] w fun e w' => e = .returned (.int .i64 0) ∧ Drawn0 w w' := by
  go_enter Tryd.func15, Tryd.ntmps15
  go_wp2
  go_ret
  exact ⟨rfl, by repeat (first | exact Drawn0.refl _ | apply Drawn0.step)⟩
theorem drawn_below {w w' : World} (h : Drawn0 w w') : Below w.heap.size w w' := by
  obtain ⟨n, rfl⟩ := h
  exact pw_below_drewN (Below.refl _ _) n
theorem C_rd8 {w : World} {s : Nat} {A : Option Addr} {l : List Int} (h : Kd.C (Kd.int .u8) w A l.length l) (W : World) (hb : Below w.heap.size w W) (hs : w.heap.size ≤ s) : Rd8 W s A l :=
  Rd8.of_C (Kd.C_below h hb) (fun hp ad e => by subst e; have h2 := Kd.C_lt h hp (by decide); omega)
theorem sha_Copy.calls_N (g : Nat) (bs : List Int) (N : Int) (w : World) (hS : StN w g bs N) : Calls Tryd.prog 16 #[.pointer (some ⟨g, 0, none⟩)] w fun e w' => ∃ g' : Nat, e = .returned (.pointer (some ⟨g', 0, none⟩)) ∧ w.heap.size ≤ g' ∧ StN w' g' bs N ∧ Below w.heap.size w w' := by
  obtain ⟨blk, h1, h2⟩ := hS.at_
  refine (sha_Copy.calls g _ blk _ N w h1).mono ?_
  rintro e w' ⟨g', rfl, hg, hS', hb⟩
  exact ⟨g', rfl, hg, ⟨blk, hS', h2⟩, hb⟩
theorem C_len {k : IntKind} {w : World} {A : Option Addr} {n m : Nat} {l : List Int} (h : Kd.C (Kd.int k) w A n l) (e : m = n) : Kd.C (Kd.int k) w A m l := by subst e; exact h
def remoralaw03_ShaCopies.f (l0 l1 l2 : List Int) : Option Bool := if (l0 ++ l1 ++ l2).all (fun x => decide (0 ≤ x ∧ x ≤ 255)) = true then some true else none
set_option maxHeartbeats 8000000 in
set_option maxRecDepth 100000 in
theorem remoralaw03_ShaCopies.calls (A0 : Option Addr) (c0 : Nat) (l0 : List Int) (A1 : Option Addr) (c1 : Nat) (l1 : List Int) (A2 : Option Addr) (c2 : Nat) (l2 : List Int) (r : Bool) (w : World) (hr0 : Kd.C (Kd.int .u8) w A0 l0.length l0) (hc0 : l0.length ≤ c0) (hr1 : Kd.C (Kd.int .u8) w A1 l1.length l1) (hc1 : l1.length ≤ c1) (hr2 : Kd.C (Kd.int .u8) w A2 l2.length l2) (hc2 : l2.length ≤ c2) (h : remoralaw03_ShaCopies.f l0 l1 l2 = some r) (hG : GL w) :
    Calls Tryd.prog 6 #[.slice A0 l0.length c0, .slice A1 l1.length c1, .slice A2 l2.length c2] w fun e w' => e = .returned (.bool r) ∧ Below w.heap.size w w' := by
  unfold remoralaw03_ShaCopies.f at h
  by_cases hby : (l0 ++ l1 ++ l2).all (fun x => decide (0 ≤ x ∧ x ≤ 255)) = true
  · rw [if_pos hby] at h
    obtain rfl := Option.some.inj h
    have HBY := Aside0.mk (show ∀ x ∈ l0 ++ l1 ++ l2, 0 ≤ x ∧ x ≤ 255 from fun x hx => of_decide_eq_true (List.all_eq_true.1 hby x hx))
    have HGL := Aside0.mk hG
    have HR0 := Aside0.mk hr0
    have HR1 := Aside0.mk hr1
    have HR2 := Aside0.mk hr2
    have HC := Aside0.mk (And.intro hc0 (And.intro hc1 hc2))
    obtain ⟨m0, hm0⟩ : ∃ m0 : Nat, m0 = l0.length := ⟨_, rfl⟩
    obtain ⟨m1, hm1⟩ : ∃ m1 : Nat, m1 = l1.length := ⟨_, rfl⟩
    obtain ⟨m2, hm2⟩ : ∃ m2 : Nat, m2 = l2.length := ⟨_, rfl⟩
    rw [← hm0, ← hm1, ← hm2]
    have HM := Aside0.mk (And.intro hm0 (And.intro hm1 hm2))
    clear h hby hG hr0 hr1 hr2 hc0 hc1 hc2 hm0 hm1 hm2
    by_cases hbig : m0 ≤ 1000 ∧ m1 ≤ 1000 ∧ m2 ≤ 1000
    · have d0 : decide ((m0 : Int) > 1000) = false := decide_eq_false (by omega)
      have d1 : decide ((m1 : Int) > 1000) = false := decide_eq_false (by omega)
      have d2 : decide ((m2 : Int) > 1000) = false := decide_eq_false (by omega)
      have n0 : decide (1000 < m0) = false := decide_eq_false (by omega)
      have n1 : decide (1000 < m1) = false := decide_eq_false (by omega)
      have n2 : decide (1000 < m2) = false := decide_eq_false (by omega)
      have HBIG := Aside0.mk hbig
      obtain ⟨S1, hS1⟩ : ∃ S, S = strOfNums (shaSum (l0 ++ l1)) := ⟨_, rfl⟩
      obtain ⟨S2, hS2⟩ : ∃ S, S = strOfNums (shaSum (l0 ++ l2)) := ⟨_, rfl⟩
      have hmm := HM.out
      obtain ⟨k1, hk1⟩ := (rsum_of (l0 ++ l1) (by rw [List.length_append]; omega) (fun x hx => HBY.out x (List.mem_append_left _ hx))).rounds
      obtain ⟨k2, hk2⟩ := (rsum_of (l0 ++ l2) (by rw [List.length_append]; omega) (fun x hx => HBY.out x (by rcases List.mem_append.1 hx with h1 | h1; exact List.mem_append_left _ (List.mem_append_left _ h1); exact List.mem_append_right _ h1))).rounds
      rw [← hS1] at hk1
      rw [← hS2] at hk2
      have HK1 := Aside0.mk (show remoraref03_Sum.f k1 (([] ++ l0) ++ l1) = some S1 by rw [List.nil_append]; exact hk1)
      have HK2 := Aside0.mk (show remoraref03_Sum.f k2 (([] ++ l0) ++ l2) = some S2 by rw [List.nil_append]; exact hk2)
      have HSS := Aside0.mk (And.intro hS1 hS2)
      obtain ⟨m01, hm01⟩ : ∃ m : Nat, m = (l0 ++ l1).length := ⟨_, rfl⟩
      obtain ⟨m02, hm02⟩ : ∃ m : Nat, m = (l0 ++ l2).length := ⟨_, rfl⟩
      have e01 : wrap64 ((m0 : Int) + (m1 : Int)) = (m01 : Int) := by rw [hm01, List.length_append]; unfold wrap64; omega
      have e02 : wrap64 ((m0 : Int) + (m2 : Int)) = (m02 : Int) := by rw [hm02, List.length_append]; unfold wrap64; omega
      have HM2 := Aside0.mk (And.intro hm01 hm02)
      clear hbig hS1 hS2 hk1 hk2 hmm hm01 hm02
      go_enter Tryd.func6, Tryd.ntmps6
      go_wp2_with fail
      refine (sha_New.calls _).mono ?_
      rintro e w1 ⟨s, rfl, hs, hS1, hb1⟩
      have HS1 := Aside0.mk (StN.new hS1)
      have HB1 := Aside0.mk hb1
      have HGS := Aside0.mk hs
      have hrd0 := C_rd8 HR0.out w1 hb1 hs
      clear hS1 hb1 hs
      go_wp2_with fail
      refine (sha_Write.calls_n s [] A0 c0 l0 m0 HM.out.1.symm _ HS1.out hrd0 (by rw [HM.out.1]; exact HC.out.1) (by have := HBIG.out; show 0 + m0 < _; omega)).mono ?_
      rintro e w2 ⟨rfl, hS2, hg2⟩
      rw [List.nil_append] at hS2
      have HS2 := Aside0.mk hS2
      have HB2 := Aside0.mk (belowBy HB1.out hg2 HB1.out.size (fun k hk => by have := HGS.out; have := Option.some.inj hk; omega))
      clear hS2 hg2 HS1 HB1 hrd0
      go_wp2_with fail
      refine (sha_Copy.calls_N s l0 _ _ HS2.out).mono ?_
      rintro e w3 ⟨t, rfl, ht, hT3, hb3⟩
      have HT3 := Aside0.mk hT3
      have HS3 := Aside0.mk (HS2.out.below hb3)
      have HNE := Aside0.mk (show s ≠ t ∧ w.heap.size ≤ t from ⟨by have := HS2.out.lt; omega, by have := HB2.out.size; omega⟩)
      have HB3 := Aside0.mk (HB2.out.trans (belowTo hb3 HB2.out.size))
      have hrd1 := C_rd8 HR1.out w3 HB3.out HGS.out
      clear hT3 hb3 ht HS2 HB2
      go_wp2_with fail
      refine (sha_Write.calls_n s l0 A1 c1 l1 m1 HM.out.2.1.symm _ HS3.out hrd1 (by rw [HM.out.2.1]; exact HC.out.2.1) (by have h1 := HBIG.out; have h2 := HM.out; omega)).mono ?_
      rintro e w4 ⟨rfl, hS4, hg4⟩
      have HS4 := Aside0.mk hS4
      have HT4 := Aside0.mk (HT3.out.grown hg4 (fun h => HNE.out.1 (Option.some.inj h).symm))
      have HB4 := Aside0.mk (belowBy HB3.out hg4 HB3.out.size (fun k hk => by have := HGS.out; have := Option.some.inj hk; omega))
      have hrd2 := C_rd8 HR2.out w4 HB4.out HNE.out.2
      clear hS4 hg4 HS3 HT3 HB3 hrd1
      go_wp2_with fail
      refine (sha_Write.calls_n t l0 A2 c2 l2 m2 HM.out.2.2.symm _ HT4.out hrd2 (by rw [HM.out.2.2]; exact HC.out.2.2) (by have h1 := HBIG.out; have h2 := HM.out; omega)).mono ?_
      rintro e w5 ⟨rfl, hT5, hg5⟩
      have HT5 := Aside0.mk hT5
      have HS5 := Aside0.mk (HS4.out.grown hg5 (fun h => HNE.out.1 (Option.some.inj h)))
      have HB5 := Aside0.mk (belowBy HB4.out hg5 HB4.out.size (fun k hk => by have := HNE.out.2; have := Option.some.inj hk; omega))
      clear hT5 hg5 HS4 HT4 HB4 hrd2
      go_wp2_with fail
      refine (sha_Write.calls_nil _ _).mono ?_
      rintro e w6 ⟨rfl, hd6⟩
      have HD6 := Aside0.mk (drawn_below hd6)
      clear hd6
      go_wp2_with fail
      refine (sha_StateSum.calls_nil _).mono ?_
      rintro e w7 ⟨rfl, hd7⟩
      have HD7 := Aside0.mk (HD6.out.trans (belowTo (drawn_below hd7) HD6.out.size))
      clear hd7
      go_wp2_with fail
      refine (sha_Len.calls_nil _).mono ?_
      rintro e w8 ⟨rfl, hd8⟩
      have HD8 := Aside0.mk (HD7.out.trans (belowTo (drawn_below hd8) HD7.out.size))
      clear hd8
      go_wp2_with fail
      refine (sha_Copy.calls_nil _).mono ?_
      rintro e w9 ⟨rfl, hd9⟩
      have HD9 := Aside0.mk (HD8.out.trans (belowTo (drawn_below hd9) HD8.out.size))
      have HS9 := Aside0.mk (HS5.out.below HD9.out)
      have HT9 := Aside0.mk (HT5.out.below HD9.out)
      have HB9 := Aside0.mk (HB5.out.trans (belowTo HD9.out HB5.out.size))
      clear hd9 HD6 HD7 HD8 HD9 HS5 HT5 HB5
      go_wp2_with fail
      refine (sha_StateSum.calls s (l0 ++ l1) _ HS9.out (by rw [← HM2.out.1]; have h1 := HBIG.out; have h2 := HM.out; have h3 := HM2.out.1; rw [List.length_append] at h3; omega)).mono ?_
      rintro e w10 ⟨rfl, hb10⟩
      rw [← HSS.out.1]
      have HS10 := Aside0.mk (HS9.out.below hb10)
      have HT10 := Aside0.mk (HT9.out.below hb10)
      have HBW := Aside0.mk (HB9.out.trans (belowTo hb10 HB9.out.size))
      clear hb10 HS9 HT9 HB9
      go_wp2_with (first
        | ((with_reducible refine gate_dst (N := 54) rfl ?_); refine Kd.R_lit (Kd.int .u8) w10.heap.size 5 ?hg (N := 54) ?hd (xs := ([] : List Int)) (inner := []) (ok := fun _ => True) (okp := fun _ => True) ?hr ?hp (fun _ hk => hk) trivial (Below.refl _ _) (Nat.le_refl _) (by simp) ?_; (case hd => rfl); (case hg => rfl); (case hr => first | (go_simp; done) | (go_simp; rfl)); (case hp => exact (Reps.none _ _)); intro v54 w54 ho hb hg_ hnew_; have HO54 := Aside0.mk ho; have HP54 := Aside0.mk hb; clear ho hb hg_ hnew_)
        | ((with_reducible refine gate_dst (N := 56) rfl ?_); refine Kd.R_append_row (Value.int .u8) (0 : Int) (h1 := fun _ => rfl) (w0 := w10) w10.heap.size rfl (.tmp 54) (.tmp 55) 22 5 (.int .u8 0) 1 rfl Tryd.underlying22 info5 rfl (by omega) v54 ([]) l0 A0 m0 c0 (fun _ => True) rfl rfl (fun _ _ => trivial) HO54.out (C_len (Kd.C_below (HR0).out (HBW.out.trans (belowTo HP54.out HBW.out.size))) HM.out.1) HP54.out HP54.out.size (by have h1 := HBIG.out; have h2 := HM.out; simp only [List.length_append, List.length_nil]; omega) ?_; intro v56 w56 ho hb hg hat; have HO56 := Aside0.mk ho; have HP56 := Aside0.mk hb; clear ho hb hg hat)
        | ((with_reducible refine gate_dst (N := 58) rfl ?_); refine Kd.R_append_row (Value.int .u8) (0 : Int) (h1 := fun _ => rfl) (w0 := w10) w10.heap.size rfl (.tmp 56) (.tmp 57) 22 5 (.int .u8 0) 1 rfl Tryd.underlying22 info5 rfl (by omega) v56 ([] ++ l0) l1 A1 m1 c1 (fun _ => True) rfl rfl (fun _ _ => trivial) HO56.out (C_len (Kd.C_below (HR1).out (HBW.out.trans (belowTo HP56.out HBW.out.size))) HM.out.2.1) HP56.out HP56.out.size (by have h1 := HBIG.out; have h2 := HM.out; simp only [List.length_append, List.length_nil]; omega) ?_; intro v58 w58 ho hb hg hat; have HO58 := Aside0.mk ho; have HP58 := Aside0.mk hb; clear ho hb hg hat))
      obtain ⟨A58, c58, rfl, hl58, hc58⟩ := Kd.R_reads HO58.out
      refine (remoraref03_Sum.calls k1 A58 c58 (([] ++ l0) ++ l1) S1 _ hc58 hl58 HK1.out (HGL.out.below (HBW.out.trans (belowTo HP58.out HBW.out.size)))).mono ?_
      rintro e w13 ⟨rfl, hb13⟩
      have HX := Aside0.mk (HP58.out.trans (belowTo hb13 HP58.out.size))
      have HS13 := Aside0.mk (HS10.out.below HX.out)
      have HT13 := Aside0.mk (HT10.out.below HX.out)
      have HB13 := Aside0.mk (HBW.out.trans (belowTo HX.out HBW.out.size))
      clear hb13 HX HP54 HP56 HP58 HO54 HO56 HO58 hl58 hc58 HS10 HT10 HBW
      go_wp2_with fail
      refine (sha_StateSum.calls t (l0 ++ l2) _ HT13.out (by rw [← HM2.out.2]; have h1 := HBIG.out; have h2 := HM.out; have h3 := HM2.out.2; rw [List.length_append] at h3; omega)).mono ?_
      rintro e w14 ⟨rfl, hb14⟩
      rw [← HSS.out.2]
      have HS14 := Aside0.mk (HS13.out.below hb14)
      have HT14 := Aside0.mk (HT13.out.below hb14)
      have HBW := Aside0.mk (HB13.out.trans (belowTo hb14 HB13.out.size))
      clear hb14 HS13 HT13 HB13
      go_wp2_with (first
        | ((with_reducible refine gate_dst (N := 64) rfl ?_); (try (refine gate_guard (by rfl) ?_; dsimp only)); refine Kd.R_lit (Kd.int .u8) w14.heap.size 5 ?hg (N := 64) ?hd (xs := ([] : List Int)) (inner := []) (ok := fun _ => True) (okp := fun _ => True) ?hr ?hp (fun _ hk => hk) trivial (Below.refl _ _) (Nat.le_refl _) (by simp) ?_; (case hd => rfl); (case hg => rfl); (case hr => first | (go_simp; done) | (go_simp; rfl)); (case hp => exact (Reps.none _ _)); intro v64 w64 ho hb hg_ hnew_; have HO64 := Aside0.mk ho; have HP64 := Aside0.mk hb; clear ho hb hg_ hnew_)
        | ((with_reducible refine gate_dst (N := 66) rfl ?_); (try (refine gate_guard (by rfl) ?_; dsimp only)); refine Kd.R_append_row (Value.int .u8) (0 : Int) (h1 := fun _ => rfl) (w0 := w14) w14.heap.size rfl (.tmp 64) (.tmp 65) 22 5 (.int .u8 0) 1 rfl Tryd.underlying22 info5 rfl (by omega) v64 ([]) l0 A0 m0 c0 (fun _ => True) rfl rfl (fun _ _ => trivial) HO64.out (C_len (Kd.C_below (HR0).out (HBW.out.trans (belowTo HP64.out HBW.out.size))) HM.out.1) HP64.out HP64.out.size (by have h1 := HBIG.out; have h2 := HM.out; simp only [List.length_append, List.length_nil]; omega) ?_; intro v66 w66 ho hb hg hat; have HO66 := Aside0.mk ho; have HP66 := Aside0.mk hb; clear ho hb hg hat)
        | ((with_reducible refine gate_dst (N := 68) rfl ?_); (try (refine gate_guard (by rfl) ?_; dsimp only)); refine Kd.R_append_row (Value.int .u8) (0 : Int) (h1 := fun _ => rfl) (w0 := w14) w14.heap.size rfl (.tmp 66) (.tmp 67) 22 5 (.int .u8 0) 1 rfl Tryd.underlying22 info5 rfl (by omega) v66 ([] ++ l0) l2 A2 m2 c2 (fun _ => True) rfl rfl (fun _ _ => trivial) HO66.out (C_len (Kd.C_below (HR2).out (HBW.out.trans (belowTo HP66.out HBW.out.size))) HM.out.2.2) HP66.out HP66.out.size (by have h1 := HBIG.out; have h2 := HM.out; simp only [List.length_append, List.length_nil]; omega) ?_; intro v68 w68 ho hb hg hat; have HO68 := Aside0.mk ho; have HP68 := Aside0.mk hb; clear ho hb hg hat))
      obtain ⟨A68, c68, rfl, hl68, hc68⟩ := Kd.R_reads HO68.out
      refine (remoraref03_Sum.calls k2 A68 c68 (([] ++ l0) ++ l2) S2 _ hc68 hl68 HK2.out (HGL.out.below (HBW.out.trans (belowTo HP68.out HBW.out.size)))).mono ?_
      rintro e w17 ⟨rfl, hb17⟩
      have HX := Aside0.mk (HP68.out.trans (belowTo hb17 HP68.out.size))
      have HS17 := Aside0.mk (HS14.out.below HX.out)
      have HT17 := Aside0.mk (HT14.out.below HX.out)
      have HB17 := Aside0.mk (HBW.out.trans (belowTo HX.out HBW.out.size))
      clear hb17 HX HP64 HP66 HP68 HO64 HO66 HO68 hl68 hc68 HS14 HT14 HBW
      go_wp2_with fail
      refine (sha_Len.calls s (l0 ++ l1) _ HS17.out).mono ?_
      rintro e w18 ⟨rfl, hd18⟩
      rw [← HM2.out.1]
      have HT18 := Aside0.mk (HT17.out.below (drawn_below hd18))
      have HB18 := Aside0.mk (HB17.out.trans (belowTo (drawn_below hd18) HB17.out.size))
      clear hd18 HS17 HT17 HB17
      go_wp2_with fail
      refine (sha_Len.calls t (l0 ++ l2) _ HT18.out).mono ?_
      rintro e w19 ⟨rfl, hd19⟩
      rw [← HM2.out.2]
      have HB19 := Aside0.mk (HB18.out.trans (belowTo (drawn_below hd19) HB18.out.size))
      clear hd19 HT18 HB18
      go_wp2_with fail
      refine (remoralaw03_awake.calls true _ rfl).mono ?_
      rintro e w20 ⟨rfl, hb20⟩
      have HB20 := Aside0.mk (HB19.out.trans (belowTo hb20 HB19.out.size))
      clear hb20 HB19
      go_wp2_with fail
      go_ret
      exact ⟨rfl, HB20.out⟩
    · by_cases h0 : m0 ≤ 1000
      · by_cases h1 : m1 ≤ 1000
        · have d0 : decide ((m0 : Int) > 1000) = false := decide_eq_false (by omega)
          have n0 : decide (1000 < m0) = false := decide_eq_false (by omega)
          have d1 : decide ((m1 : Int) > 1000) = false := decide_eq_false (by omega)
          have n1 : decide (1000 < m1) = false := decide_eq_false (by omega)
          have d2 : decide ((m2 : Int) > 1000) = true := decide_eq_true (by omega)
          have n2 : decide (1000 < m2) = true := decide_eq_true (by omega)
          clear hbig
          clear h0 h1
          go_enter Tryd.func6, Tryd.ntmps6
          go_wp2_with fail
          refine (remoralaw03_awake.calls true _ rfl).mono ?_
          rintro e w1 ⟨rfl, hb⟩
          have HB := Aside0.mk hb
          clear hb
          go_wp2_with fail
          go_ret
          exact ⟨rfl, HB.out⟩
        · skip
          have d0 : decide ((m0 : Int) > 1000) = false := decide_eq_false (by omega)
          have n0 : decide (1000 < m0) = false := decide_eq_false (by omega)
          have d1 : decide ((m1 : Int) > 1000) = true := decide_eq_true (by omega)
          have n1 : decide (1000 < m1) = true := decide_eq_true (by omega)
          clear hbig
          clear h0 h1
          go_enter Tryd.func6, Tryd.ntmps6
          go_wp2_with fail
          refine (remoralaw03_awake.calls true _ rfl).mono ?_
          rintro e w1 ⟨rfl, hb⟩
          have HB := Aside0.mk hb
          clear hb
          go_wp2_with fail
          go_ret
          exact ⟨rfl, HB.out⟩
      · skip
        have d0 : decide ((m0 : Int) > 1000) = true := decide_eq_true (by omega)
        have n0 : decide (1000 < m0) = true := decide_eq_true (by omega)
        clear hbig
        clear h0
        go_enter Tryd.func6, Tryd.ntmps6
        go_wp2_with fail
        refine (remoralaw03_awake.calls true _ rfl).mono ?_
        rintro e w1 ⟨rfl, hb⟩
        have HB := Aside0.mk hb
        clear hb
        go_wp2_with fail
        go_ret
        exact ⟨rfl, HB.out⟩
  · rw [if_neg hby] at h
    cases h



/-- THE ONE PURE STATEMENT of remoralaw03_ShaCopies. -/
def remoralaw03_ShaCopies.Pure : Prop := ∀ (l0 : List Int) (l1 : List Int) (l2 : List Int), (l0.length ≤ maxLen ∧ ∀ q0_ ∈ l0, (Lit.int .u8 q0_).wf = true) → l0.length * 1 ≤ 140737488351232 → (l1.length ≤ maxLen ∧ ∀ q0_ ∈ l1, (Lit.int .u8 q0_).wf = true) → l1.length * 1 ≤ 140737488351232 → (l2.length ≤ maxLen ∧ ∀ q0_ ∈ l2, (Lit.int .u8 q0_).wf = true) → l2.length * 1 ≤ 140737488351232 → remoralaw03_ShaCopies.f l0 l1 l2 = some true

end Go.Proofs.YtffiakioddhicaaDoor.PShaCopies
