-- Written by a program of this session (the kit's printer with hand-written contracts among its functions).
import Derived.Test.YtciibhdodajjaaaPBlocksCutx0
import Derived.Test.YtciibhdodajjaaaPBlocksCutx1
namespace Go.Proofs.Ytciibhdodajjaaa.PBlocksCut
open Go.RowKit Go.Proofs.YtciibhdodajjaaaW.PrintWords Go.Proofs.YtciibhdodajjaaaW.PrintLast Go.Proofs.YtciibhdodajjaaaW.PrintMore
attribute [local go_sem] max2_int min2_int max_two min_two max_three min_three max_four min_four   -- for this text's walks alone
set_option linter.unusedVariables false
set_option linter.unusedSimpArgs false

/-! ### blocks_Cut: function 23 -/
/-- A region that draws its order, in a round's frame, by the walk of the print. -/
theorem start_round {P : Program} {ops : Array Oper} {Q : Exit → Act → World → Prop} {S : World → Prop} {ds : List Nat} {id n r m : Nat} {a : Act} {w : World} (l : Array Bool) (hm : P.follows .mixedOrders = true) (hn : ops.size = n) (hl : Array.replicate n false = l)
    (hd : RdKit.calm ops = true) (hQ : ¬ LetsOut Q) (hS : S w.drew) (h : S w.drew → wpAnyLast P .any ops Q S ds n l a w.drew) : (Code.region id ops true).wpIn (Fence.wide.inRound r) m P Q a w := by
  subst hn
  subst hl
  exact RdKit.region_round_any hm hd hQ (wpAny_of_last _ _ _ _ (h hS))
/-- The bytes of block i. -/
def cutRow (l0 : List Int) (a1 : Int) (i : Nat) : List Int := (l0.take (mn (l0.length : Int) (wrap64 (wrap64 ((i : Int) + 1) * a1))).toNat).drop (wrap64 ((i : Int) * a1)).toNat
def cutNum (l0 : List Int) (a1 : Int) : Nat := (l0.length + a1.toNat - 1) / a1.toNat
def cutRows (l0 : List Int) (a1 : Int) (n : Nat) : List (List Int) := (List.range n).map (cutRow l0 a1)
def blocks_Cut.f (l0 : List Int) (a1 : Int) : Option ((List (List Int)) × Int) :=
  if 16 ≤ a1 ∧ a1 ≤ 4096 then (if l0.length ≤ 131072 then some (cutRows l0 a1 (cutNum l0 a1), 0) else some ([], 7)) else some ([], 2)
theorem cutRows_succ (l0 : List Int) (a1 : Int) (n : Nat) : cutRows l0 a1 (n + 1) = cutRows l0 a1 n ++ [cutRow l0 a1 n] := by
  unfold cutRows
  rw [List.range_succ, List.map_append]
  rfl
theorem cutRows_len (l0 : List Int) (a1 : Int) (n : Nat) : (cutRows l0 a1 n).length = n := by
  unfold cutRows
  rw [List.length_map, List.length_range]
theorem cut_facts {l0 : List Int} {a1 : Int} (h1 : 16 ≤ a1) (h2 : a1 ≤ 4096) (h3 : l0.length ≤ 131072) :
    blocks_Count.f l0.length a1 = some ((cutNum l0 a1 : Nat) : Int) ∧ cutNum l0 a1 ≤ 131072 ∧
    ∀ i : Nat, i < cutNum l0 a1 → ∃ f t : Int, blocks_Range.f l0.length a1 (i : Int) = some (f, t, true) ∧ 0 ≤ f ∧ f ≤ t ∧ t ≤ l0.length ∧ cutRow l0 a1 i = (l0.take t.toNat).drop f.toNat := by
  have hb : blocks_block.f a1 = some true := by unfold blocks_block.f; rw [if_pos h1, decide_eq_true h2]
  have hr : blocks_Right.f (l0.length : Int) a1 = some true := by unfold blocks_Right.f; rw [if_pos (by omega), if_pos (by omega), hb]; rfl
  obtain ⟨b, rfl⟩ : ∃ b : Nat, a1 = (b : Int) := ⟨a1.toNat, by omega⟩
  have hbp : 0 < b := by omega
  have hN : cutNum l0 (b : Int) ≤ 131072 := by
    unfold cutNum
    rw [Int.toNat_natCast]
    refine Nat.le_trans (Nat.div_le_div_right (c := b) (show l0.length + b - 1 ≤ 131072 * b by omega)) ?_
    rw [Nat.mul_div_cancel _ hbp]
    exact Nat.le_refl _
  have hC : blocks_Count.f (l0.length : Int) (b : Int) = some ((cutNum l0 (b : Int) : Nat) : Int) := by
    unfold blocks_Count.f
    rw [hr, Option.bind_some, if_pos rfl, if_neg (by omega)]
    have e1 : wrap64 ((l0.length : Int) + (b : Int)) = ((l0.length + b : Nat) : Int) := by unfold wrap64; omega
    rw [e1, show wrap64 (((l0.length + b : Nat) : Int) - 1) = ((l0.length + b - 1 : Nat) : Int) by unfold wrap64; omega]
    rw [show Int.tdiv ((l0.length + b - 1 : Nat) : Int) (b : Int) = (((l0.length + b - 1) / b : Nat) : Int) from rfl]
    have : (l0.length + b - 1) / b ≤ 131072 := by have := hN; unfold cutNum at this; rwa [Int.toNat_natCast] at this
    rw [show wrap64 (((l0.length + b - 1) / b : Nat) : Int) = (((l0.length + b - 1) / b : Nat) : Int) by generalize (l0.length + b - 1) / b = q at this ⊢; unfold wrap64; omega]
    unfold cutNum
    rw [Int.toNat_natCast]
  refine ⟨hC, hN, fun i hi => ?_⟩
  have hib : i * b < l0.length := by
    unfold cutNum at hi
    rw [Int.toNat_natCast] at hi
    have := (Nat.le_div_iff_mul_le hbp).1 (show i + 1 ≤ (l0.length + b - 1) / b from hi)
    rw [Nat.add_mul, Nat.one_mul] at this
    omega
  have e1 : wrap64 ((i : Int) * (b : Int)) = ((i * b : Nat) : Int) := by
    rw [show (i : Int) * (b : Int) = ((i * b : Nat) : Int) by push_cast; rfl]
    generalize i * b = q at hib ⊢
    unfold wrap64
    omega
  have e2 : wrap64 (wrap64 ((i : Int) + 1) * (b : Int)) = ((i * b + b : Nat) : Int) := by
    rw [show wrap64 ((i : Int) + 1) = ((i + 1 : Nat) : Int) by unfold wrap64; omega, show ((i + 1 : Nat) : Int) * (b : Int) = ((i * b + b : Nat) : Int) by push_cast; rw [Int.add_mul, Int.one_mul]]
    generalize i * b = q at hib ⊢
    unfold wrap64
    omega
  refine ⟨((i * b : Nat) : Int), mn (l0.length : Int) ((i * b + b : Nat) : Int), ?_, by omega, ?_, ?_, ?_⟩
  · unfold blocks_Range.f
    rw [if_neg (by omega), hC, Option.bind_some, if_neg (by omega), e1, e2]
  · unfold mn; split <;> omega
  · unfold mn; split <;> omega
  · unfold cutRow
    rw [e1, e2]
def cutr.T8 : Bool × List (List Nat × List Nat) := (true, [([], []), ([], []), ([1], [1]), ([2], [2]), ([0, 3, 2], [0, 3]), ([4, 4, 0, 1, 2, 3, 4], [4])])
def cutr.B8 : List Nat := [0, 0, 2, 6, 15, 31]
theorem cutr.tab8 : rtab .any (opsOf Try.f23 8) = cutr.T8 := by kernel_rfl
theorem cutr.bits8 : waitsOk cutr.T8.2 cutr.B8 = true := by kernel_rfl
set_option maxHeartbeats 16000000 in
set_option maxRecDepth 100000 in
theorem blocks_Cut.calls (A0 : Option Addr) (c0 : Nat) (l0 : List Int) (a1 : Int) (r1 : List (List Int)) (r2 : Int) (w : World) (hr0 : Kd.C (Kd.int .u8) w A0 l0.length l0) (hc0 : l0.length ≤ c0) (h : blocks_Cut.f l0 a1 = some (r1, r2)) :
    Calls Try.prog 23 #[.slice A0 l0.length c0, .int .i64 a1] w fun e w' => ∃ v0_ : Value, e = .returned (.tuple #[v0_, .int .i64 r2]) ∧ Kd.S (Kd.slice 5 (Kd.int .u8)) 32 w' w.heap.size (fun _ => True) v0_ r1 ∧ Below w.heap.size w w' := by
  have HR0 := Aside0.mk hr0
  have HC0 := Aside0.mk hc0
  clear hr0 hc0
  have HB := Aside0.mk (Below.refl w.heap.size w)
  unfold blocks_Cut.f at h
  by_cases h1 : 16 ≤ a1 ∧ a1 ≤ 4096
  · rw [if_pos h1] at h
    have HA := Aside0.mk (show blocks_block.f a1 = some true by unfold blocks_block.f; rw [if_pos h1.1, decide_eq_true h1.2])
    by_cases h2 : l0.length ≤ 131072
    · rw [if_pos h2] at h
      simp only [Option.some.injEq, Prod.mk.injEq] at h
      obtain ⟨rfl, rfl⟩ := h
      obtain ⟨f1, f2, f3⟩ := cut_facts h1.1 h1.2 h2
      have F1 := Aside0.mk f1
      have F2 := Aside0.mk f2
      have F3 := Aside0.mk f3
      have H2 := Aside0.mk h2
      have c1 : decide (131072 < (l0.length : Int)) = false := by simp; omega
      have c2 : decide (131072 < l0.length) = false := by simp; omega
      clear f1 f2 f3 h1 h2
      refine RdKit.calls_marks Try.func23 rfl ?_
      simp only [Try.ntmps23, List.size_toArray, List.length_cons, List.length_nil, Nat.reduceAdd, Nat.reduceSub, Array.replicate_succ, Array.replicate_zero, List.push_toArray, List.append_toArray, List.nil_append, List.cons_append]
      go_wp2_with (first | (go_at_call 25; (with_reducible refine (blocks_block.calls a1 true _ HA.out).mono ?_); rintro e w' ⟨rfl, ⟨nd, rfl⟩⟩) | (go_at_call 22; (with_reducible refine (each_calls A0 c0 l0 a1 _ ?aR).mono ?_); (case aR => repeat (first | exact HR0.out | (with_reducible refine Kd.C_alloc ?_ _) | (with_reducible refine Kd.C_drewN ?_ _) | (with_reducible refine Kd.C_drew ?_))); rintro e w2 ⟨g1, g2, rfl, hIt, hb⟩; have HI := Aside0.mk hIt; have HB2 := Aside0.mk hb; clear hIt hb))
      obtain ⟨L, hL⟩ : ∃ L, L = w2.heap.size := ⟨_, rfl⟩
      have hs0 : w.heap.size < L := by have := HB2.out.size; rw [World.size_alloc] at this; have e : (w.drewN nd).heap.size = w.heap.size := rfl; omega
      have HLG := Aside0.mk hs0
      have hg0 : w2.heap[w.heap.size]? = some (.cells #[.slice none 0 0] 33 (0, 0)) := (HB2.out.block w.heap.size (by rw [World.size_alloc]; exact Nat.lt_succ_self _)).trans (World.alloc_heap_new (w.drewN nd) _)
      have hb0 : Below w.heap.size w w2 := (below_alloc (pw_below_drewN (Below.refl _ w) nd) _).trans (HB2.out.mono (by rw [World.size_alloc]; exact Nat.le_succ _))
      refine RdKit.wp_range_rd (gf := 27) rfl (fun args w => enters_ Try.func27 (by kernel_rfl) rfl args w) (each_iter g1 g2 A0 c0 l0 a1 (cutNum l0 a1) (cutRow l0 a1) HC0.out H2.out F1.out F2.out F3.out)
        (fun i args W hr => by obtain ⟨A, c, rfl, _⟩ := hr; rfl)
        (fun i args W r o hr hl => hr.put hl) (fun W r o hi hl => hi.put hl) (fun W W' hi hb => hi.below hb)
        (fun i W => ∃ v, W.heap[w.heap.size]? = some (.cells #[v] 33 (0, 0)) ∧ Kd.S (Kd.slice 5 (Kd.int .u8)) 32 W (L + 2) (fun _ => True) v (cutRows l0 a1 i) ∧ Below w.heap.size w W)
        (fun _ _ => False) ?hIb ?hIp (fun _ _ _ _ h _ => h) ⟨_, hg0, Kd.S_nil _ _ _ _ _, hb0⟩ HI.out
        (fun args => { tmps := #[.slice A0 l0.length c0, .int .i64 a1, undef, undef, .slice none 0 0, .int .i64 0, .pointer (some ⟨w.heap.size, 0, none⟩), undef, args.getD 1 undef, .int .i64 a1, .bool true, .bool false, .slice A0 l0.length c0, .int .i64 l0.length, .bool false, .slice A0 l0.length c0, .int .i64 a1, .func (.func 27) #[] #[.pointer (some ⟨g1, 0, none⟩), .pointer (some ⟨g2, 0, none⟩)], args.getD 0 undef, args.getD 1 undef, undef, undef, undef, undef, undef, undef], defers := [] }) ?hassign ?hbody ?hdone (fun _ _ h _ => h.elim)
      case hIb =>
        rintro i W W' ⟨v, h1, h2, h3⟩ hb
        exact ⟨v, (hb.block _ (Array.getElem?_eq_some_iff.1 h1).1).trans h1, Kd.S_below h2 hb, below_step h3 hb⟩
      case hIp =>
        rintro i W r o ⟨v, h1, h2, h3⟩ hl
        refine ⟨v, (World.putObj_heap_other (by omega)).trans h1, Kd.S_mono (Kd.S_move (Kd.S_bound h2) (fun k hk => World.putObj_heap_other (by have := hk.2.1; omega))) (fun _ _ => trivial), h3.trans (RdKit.putObj_below (by omega))⟩
      case hassign =>
        rintro i args W K ⟨A, c, rfl, _, _⟩ hK
        refine RdKit.region_round (l := [_]) (by kernel_rfl) (fun ⟨_, _, h⟩ => h) ?_
        go_wp2
        exact hK
      case hbody =>
        rintro i args W hi ⟨v, hgb, hS, hbw⟩ hIt ⟨A, c, rfl, hC, hcc⟩ ⟨r, hlr⟩ hD
        rw [← hL] at hlr hD
        have HIN := Aside0.mk hi
        have HGB := Aside0.mk hgb
        have HBw := Aside0.mk hbw
        have HIt := Aside0.mk hIt
        have HLR := Aside0.mk hlr
        have HD := Aside0.mk hD
        have HCC := Aside0.mk hcc
        have HLW := Aside0.mk (show L + 2 ≤ W.heap.size from (Array.getElem?_eq_some_iff.1 hlr).1)
        have hb := below_drew (Below.refl W.heap.size W)
        have HC1 := Aside0.mk (Kd.C_below hC hb)
        have HS1 := Aside0.mk (Kd.S_below hS hb)
        have HBW := Aside0.mk (hb.mono HLW.out)
        have hsz9 : L + 2 ≤ W.drew.heap.size := HLW.out
        have HCL := Aside0.mk (show W.cell? ⟨w.heap.size, 0, none⟩ = some v from (blk_cell hgb 0).trans rfl)
        have hcell : W.drew.cell? ⟨w.heap.size, 0, none⟩ = some v := HCL.out
        have HRL := Aside0.mk (show (cutRow l0 a1 i).length ≤ 131072 by unfold cutRow; rw [List.length_drop, List.length_take]; exact Nat.le_trans (Nat.le_trans (Nat.sub_le _ _) (Nat.min_le_right _ _)) H2.out)
        clear hi hgb hbw hIt hlr hD hcc hb hC hS
        refine wpIn_block ?_
        refine start_round (n := 6) (S := fun W_ => W_.cell? ⟨w.heap.size, 0, none⟩ = some v) (ds := [5]) #[false, false, false, false, false, false] (by kernel_rfl) rfl rfl (by kernel_rfl) (fun ⟨_, _, h⟩ => h) hcell (fun hHeld => ?_)
        refine with_tabW cutr.tab8 cutr.bits8 (fun HT_ HW_ => ?_)
        generalize W.drew = w9 at HC1 HS1 HBW hsz9 hHeld ⊢
        clear hcell
        refine take_ (i := 0) (N := some 20) (v := ?_) (a' := ?_) #[true, false, false, false, false, false] rfl rfl (take_ofW HT_.out HW_.out (by kernel_rfl)) (fun _ _ _ h => h) (Or.inl ⟨by rfl, ?_⟩) hHeld ?_ ?_
        rotate_left
        · rintro w' s0
          go_simp
          with_reducible rfl
        rotate_left
        · simp only [Act.put, List.setIfInBounds_toArray, List.set_cons_zero, List.set_cons_succ, i64_w, i32_w]
          rfl
        refine pure_ (i := 1) (N := some 21) (v := ?_) (a' := ?_) #[true, true, false, false, false, false] rfl rfl (any_of HT_.out (by kernel_rfl)) (fun _ _ _ h => h) (Or.inl ⟨by rfl, ?_⟩) ?_ ?_
        rotate_left
        · intro w'
          go_simp
          with_reducible rfl
        rotate_left
        · simp only [Act.put, List.setIfInBounds_toArray, List.set_cons_zero, List.set_cons_succ, i64_w, i32_w]
          rfl
        refine one_ (i := 2) (N := some 22) #[true, true, true, false, false, false] rfl rfl (one_of HT_.out (by kernel_rfl)) (by decide) (fun K hK => ?_)
        refine Kd.R_append_rows_step (Kd.int .u8) (w0 := W) (L + 2) (by rfl) (.const (.slice none 0 0)) (.tmp 21) 32 5 (.int .u8 0) 1 rfl Try.underlying32 info5 rfl (by decide) (by omega) (.slice none 0 0) ([] : List Int) (cutRow l0 a1 i) A (cutRow l0 a1 i).length c (fun _ => True) (fun _ => False) rfl rfl (Kd.R_nil _ _ _ _ _) HC1.out (fun _ _ h => h) (fun _ h => h.elim) (fun _ _ => trivial) HBW.out hsz9 (by rw [Nat.mul_one, List.length_nil, Nat.zero_add]; exact Nat.le_trans HRL.out (by decide)) ?_
        intro v1 w10 ho hb hg hat
        rw [List.nil_append] at ho
        have HS2 := Aside0.mk (Kd.S_after (ok := fun _ => True) (Kd.S_apart_nil HS1.out) hg hat)
        have HO2 := Aside0.mk ho
        have HB3 := Aside0.mk hb
        have hsz10 : L + 2 ≤ w10.heap.size := Nat.le_trans HLW.out hb.size
        have hcell10 : w10.cell? ⟨w.heap.size, 0, none⟩ = some v := (hb.cell (p := ⟨w.heap.size, 0, none⟩) (show w.heap.size < L + 2 by have := HLG.out; omega)).trans HCL.out
        clear ho hb hg hat HC1 HS1 HBW
        obtain ⟨A2, c2, e2⟩ := Kd.R_slice HO2.out
        subst e2
        refine hK.out _ _ hcell10 (fun hHeld => ?_)
        clear hK K
        refine norm_ (a' := ?_) ?_ ?_
        rotate_left
        · show Act.put _ (some 22) _ = _
          simp only [Act.put, List.setIfInBounds_toArray, List.set_cons_zero, List.set_cons_succ, i64_w, i32_w]
          rfl
        refine one_ (i := 3) (N := some 23) #[true, true, true, true, false, false] rfl rfl (one_of HT_.out (by kernel_rfl)) (by decide) (fun K hK => ?_)
        go_simp
        refine hK.out _ _ (show (w10.alloc _).cell? ⟨w.heap.size, 0, none⟩ = some v from (Below.cell (below_alloc (Below.refl _ _) _) (p := ⟨w.heap.size, 0, none⟩) (show w.heap.size < w10.heap.size by have := HLG.out; omega)).trans hcell10) (fun hHeld => ?_)
        clear hK K
        refine one_ (i := 4) (N := some 24) #[true, true, true, true, true, false] rfl rfl (one_of HT_.out (by kernel_rfl)) (by decide) (fun K hK => ?_)
        refine Kd.S_append_step (Kd.slice 5 (Kd.int .u8)) (w0 := W) (L + 2) (by rfl) (.tmp 20) (.tmp 23) 33 32 (.slice none 0 0) 24 rfl Try.underlying33 info32 rfl (by decide) (by omega) v (cutRows l0 a1 i) (cutRow l0 a1 i) [.slice A2 (cutRow l0 a1 i).length c2] (fun _ => True) (fun k_ => some k_ = (.slice A2 (cutRow l0 a1 i).length c2 : Value).ownBlock) rfl rfl (Kd.M_row (Kd.R_mono (Kd.R_tight rfl HO2.out) (fun _ h_ => h_))) (fun k_ hk_ => ((Kd.R_apart' HO2.out (Kd.S_typed HS2.out) (by decide)).1 k_ hk_.symm)) (fun _ _ => trivial) (Kd.S_mono HS2.out (fun k_ hk => ⟨trivial, fun e_ => hk.2 e_⟩)) HB3.out hsz10 (by rw [cutRows_len]; have := HIN.out; have := F2.out; omega) ?_
        intro v2 w11 ho hb hg hat
        rw [← cutRows_succ] at ho
        have HS4 := Aside0.mk ho
        have HB4 := Aside0.mk hb
        have hcell11 : w11.cell? ⟨w.heap.size, 0, none⟩ = some v := (hb.cell (p := ⟨w.heap.size, 0, none⟩) (show w.heap.size < L + 2 by have := HLG.out; omega)).trans HCL.out
        have hblk11 := (hb.block w.heap.size (by have := HLG.out; omega)).trans HGB.out
        obtain ⟨A4, c4, e4⟩ := Kd.R_slice (Kd.S_R HS4.out)
        subst e4
        clear ho hb hg hat HS2 HO2 HB3 hcell10
        refine hK.out _ _ hcell11 (fun hHeld => ?_)
        clear hK K
        refine norm_ (a' := ?_) ?_ ?_
        rotate_left
        · show Act.put _ (some 24) _ = _
          simp only [Act.put, List.setIfInBounds_toArray, List.set_cons_zero, List.set_cons_succ, i64_w, i32_w]
          rfl
        refine last_ (i := 5) (N := none) #[true, true, true, true, true, true] rfl rfl (one_of HT_.out (by kernel_rfl)) (by decide) (fun K hK => ?_)
        have hfz : w11.frozen? ⟨w.heap.size, 0, none⟩ = false := by simp [World.frozen?, hblk11]
        go_simp
        refine hK.out _ _ ?_
        refine done_ (done_of HT_.out (by kernel_rfl)) ?_
        clear hK K HT_ HW_
        have hlt1 : L + 1 < L + 2 := by omega
        have hlt0 : L < L + 2 := by omega
        have hbe := HB4.out
        have hgne : w.heap.size ≠ L + 1 := by have := HLG.out; omega
        have hgne0 : w.heap.size ≠ L := by have := HLG.out; omega
        have hbase : Below w.heap.size w (w11.setCell ⟨w.heap.size, 0, none⟩ (.slice A4 (cutRows l0 a1 (i + 1)).length c4)) := (HBw.out.trans (hbe.mono (by have := HLG.out; omega))).setCell (Nat.le_refl _) _
        refine ⟨?_, ?_, ⟨_, blk_put hblk11 0 _ rfl, ?_, hbase⟩, ?_⟩
        · rw [← hL]
          exact (Below.heap_setCell _ _ _ _ (Ne.symm hgne)).trans (hbe.block _ hlt1)
        · rw [← hL]
          exact (Below.heap_setCell _ _ _ _ (Ne.symm hgne0)).trans (hbe.block _ hlt0)
        · exact Kd.S_mono (Kd.S_move (Kd.S_bound HS4.out) (fun k hk => Below.heap_setCell _ _ _ _ (by have := hk.2.1; have := HLG.out; show k ≠ w.heap.size; omega))) (fun _ _ => trivial)
        · refine ⟨?_, ?_, Kd.C_below HR0.out hbase⟩
          · refine (Below.heap_setCell _ _ _ _ (fun e => ?_)).trans ((hbe.block _ (by have := (Array.getElem?_eq_some_iff.1 HI.out.1).1; omega)).trans HIt.out.1)
            have e' : g1 = w.heap.size := e
            have := HIt.out.1
            rw [e', HGB.out] at this
            injection this with this
            injection this with _ this
            exact absurd this (by decide)
          · refine (Below.heap_setCell _ _ _ _ (fun e => ?_)).trans ((hbe.block _ (by have := (Array.getElem?_eq_some_iff.1 HI.out.2.1).1; omega)).trans HIt.out.2.1)
            have e' : g2 = w.heap.size := e
            have := HIt.out.2.1
            rw [e', HGB.out] at this
            injection this with this
            injection this with _ this
            exact absurd this (by decide)
      case hdone =>
        rintro W ⟨v, hgb, hS, hbw⟩ hD
        rw [← hL] at hD
        have hc : W.cell? ⟨w.heap.size, 0, none⟩ = some v := (blk_cell hgb 0).trans rfl
        have HS := Aside0.mk hS
        have HBw := Aside0.mk hbw
        have HD := Aside0.mk hD
        clear hgb hS hbw hD
        go_wp2
        rw [← hL]
        refine RdKit.marks_ret1 HD.out ⟨_, results_tmp2 rfl _ _ _, ?_⟩
        refine ⟨_, rfl, Kd.S_lower (Kd.S_mono (Kd.S_move (Kd.S_bound HS.out) (fun k hk => World.putObj_heap_other (by have := hk.2.1; omega))) (fun _ _ => trivial)) (by have := HLG.out; omega), HBw.out.trans (RdKit.putObj_below (by have := HLG.out; omega))⟩
    · rw [if_neg h2] at h
      simp only [Option.some.injEq, Prod.mk.injEq] at h
      obtain ⟨rfl, rfl⟩ := h
      have c1 : decide (131072 < (l0.length : Int)) = true := by simp; omega
      have c2 : decide (131072 < l0.length) = true := by simp; omega
      clear h1 h2
      refine RdKit.calls_marks Try.func23 rfl ?_
      simp only [Try.ntmps23, List.size_toArray, List.length_cons, List.length_nil, Nat.reduceAdd, Nat.reduceSub, Array.replicate_succ, Array.replicate_zero, List.push_toArray, List.append_toArray, List.nil_append, List.cons_append]
      go_wp2_with (first | (go_at_call 25; (with_reducible refine (blocks_block.calls a1 true _ HA.out).mono ?_); rintro e w' ⟨rfl, ⟨nd, rfl⟩⟩))
      refine RdKit.marks_ret ⟨_, results_tmp2 rfl _ _ _, ?_⟩
      exact ⟨_, rfl, Kd.S_nil _ _ _ _ _, pw_below_drewN (Below.refl _ _) _⟩
  · rw [if_neg h1] at h
    simp only [Option.some.injEq, Prod.mk.injEq] at h
    obtain ⟨rfl, rfl⟩ := h
    have hA : blocks_block.f a1 = some false := by
      unfold blocks_block.f
      by_cases h2 : a1 ≥ 16
      · rw [if_pos h2, decide_eq_false (fun h3 => h1 ⟨h2, h3⟩)]
      · rw [if_neg h2]
    have HA := Aside0.mk hA
    clear hA
    clear h1
    refine RdKit.calls_marks Try.func23 rfl ?_
    simp only [Try.ntmps23, List.size_toArray, List.length_cons, List.length_nil, Nat.reduceAdd, Nat.reduceSub, Array.replicate_succ, Array.replicate_zero, List.push_toArray, List.append_toArray, List.nil_append, List.cons_append]
    go_wp2_with (first | (go_at_call 25; (with_reducible refine (blocks_block.calls a1 false _ HA.out).mono ?_); rintro e w' ⟨rfl, ⟨nd, rfl⟩⟩))
    refine RdKit.marks_ret ⟨_, results_tmp2 rfl _ _ _, ?_⟩
    exact ⟨_, rfl, Kd.S_nil _ _ _ _ _, pw_below_drewN (Below.refl _ _) _⟩

/-! ### remoraref05_Same: function 24 -/
def remoraref05_Same.l0 : Nat → List (List Int) → List (List Int) → Int → Option (Bool)
  | 0, _, _, _ => none
  | k + 1, x0, x1, x5 => if x5 < (x0.length : Int) then (if 0 ≤ x5 then (if x5 < (x1.length : Int) then (if (strOfNums (rd_L1 x0 x5)).toList = (strOfNums (rd_L1 x1 x5)).toList then (remoraref05_Same.l0 k x0 x1 (wrap64 (x5 + 1))) else (some false)) else (none)) else (none)) else (some true)
def remoraref05_Same.f (k : Nat) (l0 : List (List Int)) (l1 : List (List Int)) : Option (Bool) := if (l0.length : Int) = (l1.length : Int) then (remoraref05_Same.l0 k l0 l1 0) else (some false)
theorem remoraref05_Same.mono_l : ∀ k, (∀ y0 y1 y2, LeO (remoraref05_Same.l0 k y0 y1 y2) (remoraref05_Same.l0 (k + 1) y0 y1 y2))
  | 0 => fun _ _ _ r h => by simp [remoraref05_Same.l0] at h
  | k + 1 => by
    have ih0 := remoraref05_Same.mono_l k
    · intro y0 y1 y2
      unfold remoraref05_Same.l0
      repeat' first
      | (with_reducible exact ih0 _ _ _)
      | (with_reducible exact LeO.refl _)
      | (with_reducible exact LeO.none _)
      | (with_reducible refine LeO.ite ?_ ?_)
      | (with_reducible refine LeO.bind ?_ (fun _ => ?_))
      | exact ih0 _ _ _
      | exact LeO.none _
      | refine LeO.ite ?_ ?_
      | refine LeO.bind ?_ (fun _ => ?_)
theorem remoraref05_Same.mono : ∀ a0 a1 k, LeO (remoraref05_Same.f k a0 a1) (remoraref05_Same.f (k + 1) a0 a1) := by
  intro a0 a1 k
  have ih0 := remoraref05_Same.mono_l k
  unfold remoraref05_Same.f
  repeat' first
      | (with_reducible exact ih0 _ _ _)
      | (with_reducible exact LeO.refl _)
      | (with_reducible exact LeO.none _)
      | (with_reducible refine LeO.ite ?_ ?_)
      | (with_reducible refine LeO.bind ?_ (fun _ => ?_))
      | exact ih0 _ _ _
      | exact LeO.none _
      | refine LeO.ite ?_ ?_
      | refine LeO.bind ?_ (fun _ => ?_)
set_option maxHeartbeats 8000000 in
set_option maxRecDepth 100000 in
theorem remoraref05_Same.calls (k : Nat) (A0 : Option Addr) (c0 : Nat) (l0 : List (List Int)) (A1 : Option Addr) (c1 : Nat) (l1 : List (List Int)) (r : Bool) (w : World) (hr0 : Kd.C (Kd.slice 5 (Kd.int .u8)) w A0 l0.length l0) (hc0 : l0.length ≤ c0) (hr1 : Kd.C (Kd.slice 5 (Kd.int .u8)) w A1 l1.length l1) (hc1 : l1.length ≤ c1) (h : remoraref05_Same.f k l0 l1 = some r) :
    Calls Try.prog 24 #[.slice A0 l0.length c0, .slice A1 l1.length c1] w fun e w' => e = .returned (.bool r) ∧ Drawn0 w w' := by
  have HR0 := Aside0.mk hr0
  have HC0 := Aside0.mk hc0
  clear hr0 hc0
  have HR1 := Aside0.mk hr1
  have HC1 := Aside0.mk hc1
  clear hr1 hc1
  have H : (if (l0.length : Int) = (l1.length : Int) then (remoraref05_Same.l0 k l0 l1 0) else (some false)) = some r := h
  clear h
  by_cases c3 : (l0.length : Int) = (l1.length : Int)
  · rw [if_pos c3] at H
    have c3b0 : ((l0.length : Int) == (l1.length : Int)) = true := beq_iff_eq.mpr c3
    have c3b1 : ((l0.length : Int) != (l1.length : Int)) = false := bne_eq_false_iff_eq.mpr c3
    have c3b2 : (l0.length == l1.length) = true := by first | simpa using c3 | (simp at c3 ⊢; omega)
    clear c3
    have H' := Aside0.mk H
    clear H
    go_enter Try.func24, Try.ntmps24
    go_wp2
    have hwi_ : ∀ n : Int, IntKind.i64.wrap n = wrap64 n := i64_w
    repeat (go_quiet (fail); try go_wp2)
    clear hwi_
    go_loopg [5] k (fun kq v5 w' => ∃ (x5_1 : Int), v5 = .int .i64 x5_1 ∧ Aside0 (remoraref05_Same.l0 kq l0 l1 x5_1 = some r) ∧ Aside0 (kq ≤ k) ∧ Drawn0 w w')
    case atStart => exact ⟨(0), (by first | rfl | (simp; done) | (simp [*]; done)), H', ⟨Nat.le_refl _⟩, by repeat (first | exact Drawn0.refl _ | apply Drawn0.step)⟩
    case round =>
      clear H'
      try clear c1
      try clear c2
      try clear p2
      try clear c3
      try clear c3b0
      try clear c3b1
      try clear c3b2
      obtain ⟨x5_1, rfl, HA, HK1, ⟨m1, rfl⟩⟩ := hrel
      cases gk with
      | zero => exact absurd HA.out (by simp [remoraref05_Same.l0])
      | succ k1 =>
        have H := HA.out
        clear HA
        simp only [remoraref05_Same.l0] at H
        by_cases c4 : x5_1 < (l0.length : Int)
        · rw [if_pos c4] at H
          have c4b0 : decide (x5_1 < (l0.length : Int)) = true := decide_eq_true c4
          clear c4
          by_cases c5 : 0 ≤ x5_1
          · rw [if_pos c5] at H
            have c5b0 : decide (0 ≤ x5_1) = true := decide_eq_true c5
            clear c5
            by_cases c6 : x5_1 < (l1.length : Int)
            · rw [if_pos c6] at H
              have c6b0 : decide (x5_1 < (l1.length : Int)) = true := decide_eq_true c6
              clear c6
              by_cases c7 : (strOfNums (rd_L1 l0 x5_1)).toList = (strOfNums (rd_L1 l1 x5_1)).toList
              · rw [if_pos c7] at H
                have c7b0 : ((strOfNums (rd_L1 l0 x5_1)).toList == (strOfNums (rd_L1 l1 x5_1)).toList) = true := beq_iff_eq.mpr c7
                have c7b1 : ((strOfNums (rd_L1 l0 x5_1)).toList != (strOfNums (rd_L1 l1 x5_1)).toList) = false := bne_eq_false_iff_eq.mpr c7
                clear c7
                have H' := Aside0.mk H
                clear H
                have p124 : 0 ≤ (x5_1 : Int) := of_decide_eq_true (by first | (with_reducible assumption) | assumption)
                have q124 : x5_1 < (l0.length : Int) := of_decide_eq_true (by first | (with_reducible assumption) | assumption)
                obtain ⟨ad124, A124_0, c124_0, e124, hx124_0, hl124_0, hi124_0⟩ := at_L1 HR0.out x5_1 p124 q124
                cases e124
                have HR124_0 := Aside0.mk hi124_0
                have HC124_0 := Aside0.mk hl124_0
                clear hi124_0 hl124_0
                replace p124 := eq_true p124
                replace q124 := eq_true q124
                have hcv8 := Kd.C_string (P := Try.prog) (A := A124_0) (c := c124_0) Try.underlying32 Try.underlying5 Try.underlying9 HR124_0.out
                have hcv8d := fun (n_ : Nat) => Kd.C_string (P := Try.prog) (A := A124_0) (c := c124_0) Try.underlying32 Try.underlying5 Try.underlying9 (Kd.C_drewN HR124_0.out n_)
                have p125 : 0 ≤ (x5_1 : Int) := of_decide_eq_true (by first | (with_reducible assumption) | assumption)
                have q125 : x5_1 < (l1.length : Int) := of_decide_eq_true (by first | (with_reducible assumption) | assumption)
                obtain ⟨ad125, A125_0, c125_0, e125, hx125_0, hl125_0, hi125_0⟩ := at_L1 HR1.out x5_1 p125 q125
                cases e125
                have HR125_0 := Aside0.mk hi125_0
                have HC125_0 := Aside0.mk hl125_0
                clear hi125_0 hl125_0
                replace p125 := eq_true p125
                replace q125 := eq_true q125
                have hcv9 := Kd.C_string (P := Try.prog) (A := A125_0) (c := c125_0) Try.underlying32 Try.underlying5 Try.underlying9 HR125_0.out
                have hcv9d := fun (n_ : Nat) => Kd.C_string (P := Try.prog) (A := A125_0) (c := c125_0) Try.underlying32 Try.underlying5 Try.underlying9 (Kd.C_drewN HR125_0.out n_)
                go_wp2
                have hwi_ : ∀ n : Int, IntKind.i64.wrap n = wrap64 n := i64_w
                repeat (go_quiet (fail); try go_wp2)
                clear hwi_
                go_roundg k1
                case measure => have := HK1.out; omega
                case rel => exact ⟨(wrap64 (x5_1 + 1)), (by first | rfl | (simp; done) | (simp [*]; done)), H', ⟨by have := HK1.out; omega⟩, by repeat (first | exact Drawn0.refl _ | apply Drawn0.step)⟩
              · rw [if_neg c7] at H
                have c7b0 : ((strOfNums (rd_L1 l0 x5_1)).toList == (strOfNums (rd_L1 l1 x5_1)).toList) = false := beq_eq_false_iff_ne.mpr c7
                have c7b1 : ((strOfNums (rd_L1 l0 x5_1)).toList != (strOfNums (rd_L1 l1 x5_1)).toList) = true := bne_iff_ne.mpr c7
                obtain rfl := Option.some.inj H
                have p124 : 0 ≤ (x5_1 : Int) := of_decide_eq_true (by first | (with_reducible assumption) | assumption)
                have q124 : x5_1 < (l0.length : Int) := of_decide_eq_true (by first | (with_reducible assumption) | assumption)
                obtain ⟨ad124, A124_0, c124_0, e124, hx124_0, hl124_0, hi124_0⟩ := at_L1 HR0.out x5_1 p124 q124
                cases e124
                have HR124_0 := Aside0.mk hi124_0
                have HC124_0 := Aside0.mk hl124_0
                clear hi124_0 hl124_0
                replace p124 := eq_true p124
                replace q124 := eq_true q124
                have hcv10 := Kd.C_string (P := Try.prog) (A := A124_0) (c := c124_0) Try.underlying32 Try.underlying5 Try.underlying9 HR124_0.out
                have hcv10d := fun (n_ : Nat) => Kd.C_string (P := Try.prog) (A := A124_0) (c := c124_0) Try.underlying32 Try.underlying5 Try.underlying9 (Kd.C_drewN HR124_0.out n_)
                have p125 : 0 ≤ (x5_1 : Int) := of_decide_eq_true (by first | (with_reducible assumption) | assumption)
                have q125 : x5_1 < (l1.length : Int) := of_decide_eq_true (by first | (with_reducible assumption) | assumption)
                obtain ⟨ad125, A125_0, c125_0, e125, hx125_0, hl125_0, hi125_0⟩ := at_L1 HR1.out x5_1 p125 q125
                cases e125
                have HR125_0 := Aside0.mk hi125_0
                have HC125_0 := Aside0.mk hl125_0
                clear hi125_0 hl125_0
                replace p125 := eq_true p125
                replace q125 := eq_true q125
                have hcv11 := Kd.C_string (P := Try.prog) (A := A125_0) (c := c125_0) Try.underlying32 Try.underlying5 Try.underlying9 HR125_0.out
                have hcv11d := fun (n_ : Nat) => Kd.C_string (P := Try.prog) (A := A125_0) (c := c125_0) Try.underlying32 Try.underlying5 Try.underlying9 (Kd.C_drewN HR125_0.out n_)
                go_wp2
                have hwi_ : ∀ n : Int, IntKind.i64.wrap n = wrap64 n := i64_w
                repeat (go_quiet (fail); try go_wp2)
                clear hwi_
                go_ret
                exact ⟨by first | rfl | (simp; done) | (simp [*]; done), by repeat (first | exact Drawn0.refl _ | apply Drawn0.step)⟩
            · rw [if_neg c6] at H
              exact absurd H (by simp)
          · rw [if_neg c5] at H
            exact absurd H (by simp)
        · rw [if_neg c4] at H
          have c4b0 : decide (x5_1 < (l0.length : Int)) = false := decide_eq_false c4
          clear c4
          obtain rfl := Option.some.inj H
          go_wp2
          have hwi_ : ∀ n : Int, IntKind.i64.wrap n = wrap64 n := i64_w
          repeat (go_quiet (fail); try go_wp2)
          clear hwi_
          go_ret
          exact ⟨by first | rfl | (simp; done) | (simp [*]; done), by repeat (first | exact Drawn0.refl _ | apply Drawn0.step)⟩
  · rw [if_neg c3] at H
    have c3b0 : ((l0.length : Int) == (l1.length : Int)) = false := beq_eq_false_iff_ne.mpr c3
    have c3b1 : ((l0.length : Int) != (l1.length : Int)) = true := bne_iff_ne.mpr c3
    have c3b2 : (l0.length == l1.length) = false := by first | simpa using c3 | (simp at c3 ⊢; omega)
    obtain rfl := Option.some.inj H
    go_enter Try.func24, Try.ntmps24
    go_wp2
    have hwi_ : ∀ n : Int, IntKind.i64.wrap n = wrap64 n := i64_w
    repeat (go_quiet (fail); try go_wp2)
    clear hwi_
    go_ret
    exact ⟨by first | rfl | (simp; done) | (simp [*]; done), by repeat (first | exact Drawn0.refl _ | apply Drawn0.step)⟩

end Go.Proofs.Ytciibhdodajjaaa.PBlocksCut
