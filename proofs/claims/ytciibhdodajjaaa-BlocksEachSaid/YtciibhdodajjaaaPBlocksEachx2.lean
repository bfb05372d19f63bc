-- Written by a program of this session (the kit's printer with hand-written contracts among its functions).
import Derived.Test.YtciibhdodajjaaaPBlocksEachx0
import Derived.Test.YtciibhdodajjaaaPBlocksEachx1
namespace Go.Proofs.Ytciibhdodajjaaa.PBlocksEach
open Go.RowKit Go.Proofs.YtciibhdodajjaaaW.PrintWords Go.Proofs.YtciibhdodajjaaaW.PrintLast Go.Proofs.YtciibhdodajjaaaW.PrintMore
attribute [local go_sem] max2_int min2_int max_two min_two max_three min_three max_four min_four   -- for this text's walks alone
set_option linter.unusedVariables false
set_option linter.unusedSimpArgs false

/-! ### remoralaw05_BlocksEach: function 7 -/
/-- A region that draws its order and only reads, in a round's frame. -/
theorem region_round_quiet {P : Program} {Q : Exit → Act → World → Prop} {id r n : Nat} {a : Act} {w : World} {l : List Oper} (hm : P.follows .mixedOrders = true) (hB : Region.lexB .any l.toArray = true) (hd : RdKit.calm l.toArray = true) (hQ : ¬ LetsOut Q)
    (h : wpQuiet P l.toArray (fun w' => ∃ n, w' = w.drewN n) (fun a' => ∀ w', (∃ n, w' = w.drewN n) → Q .normal a' w') l a) : (Code.region id l.toArray true).wpIn (Fence.wide.inRound r) n P Q a w := by
  refine RdKit.region_round_any hm hd hQ ?_
  simp only [Region.lexB, Bool.and_eq_true] at hB
  refine wpAny_of_quiet (C := fun w' => ∃ n, w' = w.drewN n) (Q := fun a' => ∀ w', (∃ n, w' = w.drewN n) → Q .normal a' w') (fun _ w' hw' h => h w' hw') _ _ _ _ ⟨1, rfl⟩ ?_
  have := wpAnyQ_lex (C := fun w' => ∃ n, w' = w.drewN n) (md := .any) hB.1 l 0 (Array.replicate l.length false) a (by simp) (by simpa using hB.2) (by simpa using h)
  simpa using this
theorem marks_two {P : Program} {fn : Func} {R : Ending → World → Prop} {w : World} {tmps : Array Value} {D1 D2 : Nat} (h2 : w.heap[D2]? = some (.deferred (some []))) (h1 : w.heap[D1]? = some (.deferred (some []))) (hne : D1 ≠ D2)
    (h : ∃ v, (results fn tmps).run P ((w.putObj D2 (.deferred none)).putObj D1 (.deferred none)) = .ok v ((w.putObj D2 (.deferred none)).putObj D1 (.deferred none)) ∧ R (.returned v) ((w.putObj D2 (.deferred none)).putObj D1 (.deferred none))) :
    bodyPostM Fence.wide 0 P fn R .ret { tmps, defers := [{ target := .collected D2, args := #[] }, { target := .collected D1, args := #[] }] } w :=
  ⟨by simp, .inl ⟨_, _, rfl, run_takeDeferred h2, by simp, .inl ⟨_, _, rfl, run_takeDeferred ((World.putObj_heap_other hne).trans h1), h⟩⟩⟩
theorem results_one {P : Program} {fn : Func} {p : Tmp} {ty : TypeId} {tmps : Array Value} {w : World} {a : Addr} {v : Value} (h : fn.results = #[.cell p ty]) (hp : tmps.getD p undef = .pointer (some a)) (hl : (loadVar ty a).run P w = .ok v w) : (results fn tmps).run P w = .ok v w := by
  have hp' : tmps[p]?.getD undef = .pointer (some a) := by simpa using hp
  simp [results, h, hp', asAddr, hl]
/-- A function value that is one is not nil. -/
theorem run_eql_func_nil {P : Program} (w : World) (t : TypeId) (f : Fn) (a c : Array Value) (h : (match P.underlying t with | some (.func ..) => true | _ => false) = true) : (binOp .eql t (.func f a c) .nilFunc).run P w = .ok (.bool false) w := by
  obtain ⟨ps, rs, vd, h⟩ : ∃ ps rs vd, P.underlying t = some (.func ps rs vd) := by
    revert h
    split
    · exact fun _ => ⟨_, _, _, ‹_›⟩
    · exact fun h => by cases h
  have e0 : ∀ d, (Op.equalIn (d + 1) t (.func f a c) .nilFunc).run P w = .ok false w := fun d => by simp [Op.equalIn, run_underlying h]
  have e : (Op.equal t (.func f a c) .nilFunc).run P w = .ok false w := e0 9999
  simp only [binOp]
  simp [e]
/-- A range over a function value whose two loop variables go into slots of their own. -/
theorem wp_range_rd2 {P : Program} {g : Operand} {p1 p2 x1 x2 : Tmp} {assign body : Code} {Q : Exit → Act → World → Prop} {tmps : Array Value} {ds : List Deferred} {w : World} {gf : Nat} {lb : Array Value}
    (hg : ({ tmps, defers := ds } : Act).eval g = .func (.func gf) #[] lb) (eg : ∀ args w, (callFunc gf args).run P w = .ok (.enter gf args) w)
    {Rd : Nat → Array Value → World → Prop} {N : Nat} {It : World → Prop} (hseq : RdKit.IterC P gf lb Rd N It)
    (hps : ∀ i args W, Rd i args W → ∃ u v, args = #[u, v])
    (hRd : ∀ i args W r o, Rd i args W → W.heap[w.heap.size + 1]? = some (.loop r) → Rd i args (W.putObj (w.heap.size + 1) o))
    (hItp : ∀ W r o, It W → W.heap[w.heap.size + 1]? = some (.loop r) → It (W.putObj (w.heap.size + 1) o))
    (hItb : ∀ W W', It W → Below W.heap.size W W' → It W')
    (I : Nat → World → Prop) (id : Nat) (X : World → Prop)
    (hIb : ∀ i W W', I i W → Below W.heap.size W W' → I i W')
    (hIp : ∀ i W r o, I i W → W.heap[w.heap.size + 1]? = some (.loop r) → I i (W.putObj (w.heap.size + 1) o))
    (hXp : ∀ W r o, X W → W.heap[w.heap.size + 1]? = some (.loop r) → X (W.putObj (w.heap.size + 1) o))
    (h0 : I 0 w) (hIt0 : It w)
    (hassign : ∀ (u v : Value) (W : World) (K : Act → World → Prop), K { tmps := (((tmps.setIfInBounds p1 u).setIfInBounds p2 v).setIfInBounds x1 u).setIfInBounds x2 v, defers := [] } W →
      assign.wpIn (Fence.wide.inRound (w.heap.size + 1)) 0 P (Exit.then K (fun _ _ _ => False)) { tmps := (tmps.setIfInBounds p1 u).setIfInBounds p2 v, defers := [] } W)
    (hbody : ∀ (i : Nat) (u v : Value) (W : World), i < N → I i W → It W → Rd i #[u, v] W → (∃ r, W.heap[w.heap.size + 1]? = some (.loop r)) → W.heap[w.heap.size]? = some (.deferred (some [])) →
      body.wpIn (Fence.wide.inRound (w.heap.size + 1)) 0 P (RdKit.rdPost I It (fun c W => c = .exit id ∧ X W) (w.heap.size + 1) w.heap.size i W) { tmps := (((tmps.setIfInBounds p1 u).setIfInBounds p2 v).setIfInBounds x1 u).setIfInBounds x2 v, defers := [] } W)
    (hQx : ∀ a W, Q .normal a W → Q (.exit id) a W)
    (hfin : ∀ (W : World), I N W ∨ X W → W.heap[w.heap.size]? = some (.deferred (some [])) → Q .normal { tmps, defers := { target := .collected w.heap.size, args := #[] } :: ds } W) :
    (Code.rangeFunc g #[p1, p2] assign body).wp P Q { tmps, defers := ds } w := by
  refine RdKit.wp_range_rd (gf := gf) (lb := lb) hg eg hseq (fun i args W h => by obtain ⟨u, v, rfl⟩ := hps i args W h; rfl) hRd hItp hItb I (fun c W => c = .exit id ∧ X W) hIb hIp (fun c W r o h hl => ⟨h.1, hXp W r o h.2 hl⟩) h0 hIt0
    (fun args => { tmps := (((tmps.setIfInBounds p1 (args.getD 0 undef)).setIfInBounds p2 (args.getD 1 undef)).setIfInBounds x1 (args.getD 0 undef)).setIfInBounds x2 (args.getD 1 undef), defers := [] }) ?_ ?_ (fun W h hD => hfin W (.inl h) hD) (fun c W h hD => by obtain ⟨rfl, hx⟩ := h; exact wp_exit (hQx _ _ (hfin W (.inr hx) hD)))
  · intro i args W K h hK
    obtain ⟨u, v, rfl⟩ := hps i args W h
    have e : (#[p1, p2].zip #[u, v]).foldl (fun t (x : Tmp × Value) => t.setIfInBounds x.1 x.2) tmps = (tmps.setIfInBounds p1 u).setIfInBounds p2 v := by simp
    have := hassign u v W K hK
    rw [← e] at this
    exact this
  · intro i args W hi h1 h2 h3 h4 h5
    obtain ⟨u, v, rfl⟩ := hps i args W h3
    exact hbody i u v W hi h1 h2 h3 h4 h5
/-- The blocks of a text, none where the length may not be. -/
def eachRows (l0 : List Int) (a1 : Int) : List (List Int) := if 16 ≤ a1 ∧ a1 ≤ 4096 then cutRows l0 a1 (cutNum l0 a1) else []
theorem each_facts (l0 : List Int) (a1 : Int) (hl : l0.length ≤ 131072) : blocks_Count.f l0.length a1 = some (((eachRows l0 a1).length : Nat) : Int) ∧ (eachRows l0 a1).length ≤ 131072 ∧
    (∀ i : Nat, i < (eachRows l0 a1).length → ∃ f t : Int, blocks_Range.f l0.length a1 (i : Int) = some (f, t, true) ∧ 0 ≤ f ∧ f ≤ t ∧ t ≤ l0.length ∧ cutRow l0 a1 i = (l0.take t.toNat).drop f.toNat) ∧
    (∀ i : Nat, i < (eachRows l0 a1).length → rd_L1 (eachRows l0 a1) (i : Int) = cutRow l0 a1 i) := by
  unfold eachRows
  by_cases h : 16 ≤ a1 ∧ a1 ≤ 4096
  · rw [if_pos h]
    obtain ⟨h1, h2, h3⟩ := cut_facts h.1 h.2 hl
    rw [cutRows_len]
    refine ⟨h1, h2, h3, fun i hi => ?_⟩
    unfold rd_L1 cutRows
    rw [Int.toNat_natCast, List.getD_eq_getElem?_getD, List.getElem?_map, List.getElem?_range hi, Option.map_some, Option.getD_some]
  · rw [if_neg h]
    refine ⟨?_, by simp, fun i hi => by simp at hi, fun i hi => by simp at hi⟩
    unfold blocks_Count.f blocks_Right.f blocks_block.f
    by_cases h1 : a1 ≥ 16
    · have h2 : ¬ a1 ≤ 4096 := fun h2 => h ⟨h1, h2⟩
      rw [if_pos (by omega), if_pos (by omega), if_pos h1, Option.bind_some, Option.bind_some, decide_eq_false h2, if_neg (by simp)]
      rfl
    · rw [if_pos (by omega), if_pos (by omega), if_neg h1, Option.bind_some, Option.bind_some, if_neg (by simp)]
      rfl
def remoralaw05_BlocksEach.f (k : Nat) (l0 : List Int) (a1 : Int) (a2 : Int) : Option Bool :=
  if (l0.length : Int) > 3000 then remoralaw05_awake.f k else (remoraref05_Cut.f k l0 a1).bind fun bt => if bt.1 = eachRows l0 a1 then remoralaw05_awake.f k else none
set_option maxHeartbeats 16000000 in
set_option maxRecDepth 100000 in
theorem remoralaw05_BlocksEach.calls (k : Nat) (A0 : Option Addr) (c0 : Nat) (l0 : List Int) (a1 a2 : Int) (r : Bool) (w : World) (hr0 : Kd.C (Kd.int .u8) w A0 l0.length l0) (hc0 : l0.length ≤ c0) (h : remoralaw05_BlocksEach.f k l0 a1 a2 = some r) :
    Calls Try.prog 7 #[.slice A0 l0.length c0, .int .i64 a1, .int .i64 a2] w fun e w' => e = .returned (.bool r) ∧ Below w.heap.size w w' := by
  have HR0 := Aside0.mk hr0
  have HC0 := Aside0.mk hc0
  clear hr0 hc0
  unfold remoralaw05_BlocksEach.f at h
  refine RdKit.calls_marks Try.func7 rfl ?_
  simp only [Try.ntmps7, List.size_toArray, List.length_cons, List.length_nil, Nat.reduceAdd, Nat.reduceSub, Array.replicate_succ, Array.replicate_zero, List.push_toArray, List.append_toArray, List.nil_append, List.cons_append]
  by_cases h1 : (l0.length : Int) > 3000
  · rw [if_pos h1] at h
    have HA := Aside0.mk h
    have c1 : decide ((l0.length : Int) > 3000) = true := decide_eq_true h1
    have c2 : decide (3000 < (l0.length : Int)) = true := decide_eq_true h1
    have c3 : decide (3000 < l0.length) = true := decide_eq_true (by omega)
    clear h h1
    go_wp2_with (first | (go_at_call 16; (with_reducible refine (remoralaw05_awake.calls k r _ HA.out).mono ?_); rintro e w1 ⟨rfl, hb⟩; have HB1 := Aside0.mk hb; have HG1 := Aside0.mk ((hb.block w.heap.size (by simp)).trans (World.alloc_heap_new w _)); have hfz := blk_frozen HG1.out 0; have hcl := (blk_cell HG1.out 0); clear hb))
    have hb : Below w.heap.size w (w1.setCell ⟨w.heap.size, 0, none⟩ (.bool r)) := ((below_alloc (Below.refl _ w) _).trans (HB1.out.mono (by simp))).setCell (Nat.le_refl _) _
    refine RdKit.marks_ret ⟨_, results_one rfl rfl ?_, rfl, hb⟩
    have hc := blk_cell (blk_set HG1.out 0 (.bool r)) 0
    simp [loadVar, go_sem, hc]
  · rw [if_neg h1] at h
    obtain ⟨⟨y, e⟩, hy, h⟩ := Option.bind_eq_some_iff.1 h
    by_cases h2 : y = eachRows l0 a1
    · rw [if_pos h2] at h
      obtain ⟨f1, f2, f3, f4⟩ := each_facts l0 a1 (by omega)
      rw [← h2] at f1 f2 f3 f4
      have HY := Aside0.mk hy
      have HA := Aside0.mk h
      have F1 := Aside0.mk f1
      have F2 := Aside0.mk f2
      have F3 := Aside0.mk f3
      have F4 := Aside0.mk f4
      have HL := Aside0.mk (show l0.length ≤ 131072 by omega)
      have c1 : decide ((l0.length : Int) > 3000) = false := decide_eq_false h1
      have c2 : decide (3000 < (l0.length : Int)) = false := decide_eq_false h1
      have c3 : decide (3000 < l0.length) = false := decide_eq_false (by omega)
      clear h h1 h2 hy f1 f2 f3 f4
      go_upto_region 5 with (first | (go_at_call 21; (with_reducible refine (remoraref05_Cut.calls k A0 c0 l0 a1 y e _ ?aR HC0.out HY.out).mono ?_); (case aR => repeat (first | exact HR0.out | (with_reducible refine Kd.C_alloc ?_ _))); rintro e w2 ⟨v0_, rfl, hS, hb⟩; obtain ⟨Ay, cy, ey⟩ := Kd.S_slice hS; subst ey; have HS2 := Aside0.mk hS; have HB2 := Aside0.mk hb; clear hS hb))
      have hmx : 1 ≤ (if a2 < 1 then (1 : Int) else a2) := by split <;> omega
      generalize (if a2 < 1 then (1 : Int) else a2) = mx1 at hmx ⊢
      obtain ⟨m, hm⟩ : ∃ m : Nat, (if (y.length : Int) < mx1 then (y.length : Int) else mx1) = (m : Int) := ⟨_, (Int.toNat_of_nonneg (by split <;> omega)).symm⟩
      have hm1 : m ≤ y.length := by revert hm; split <;> omega
      have hm2 : 0 < y.length → 0 < m := by revert hm; split <;> omega
      clear hmx
      rw [hm]
      have HM1 := Aside0.mk hm1
      have HM2 := Aside0.mk hm2
      clear hm hm1 hm2
      have hlt2 : w.heap.size < w2.heap.size := by have := HB2.out.size; rw [World.size_alloc] at this; omega
      obtain ⟨W4, hW4⟩ : ∃ W4, (w2.alloc (Obj.cells #[Value.slice Ay y.length cy] 33)).alloc (Obj.cells #[Value.int IntKind.i64 (m : Int)] 3) = W4 := ⟨_, rfl⟩
      have hbw2 : Below w2.heap.size w2 W4 := by rw [← hW4]; exact below_alloc (below_alloc (Below.refl _ _) _) _
      have HG6 := Aside0.mk ((hbw2.block w.heap.size hlt2).trans ((HB2.out.block w.heap.size (by simp)).trans (World.alloc_heap_new w _)))
      have HG7 := Aside0.mk (show W4.heap[w2.heap.size]? = some (.cells #[Value.slice Ay y.length cy] 33 (0, 0)) by rw [← hW4]; exact (Below.heap_alloc _ _ _ (by simp)).trans (World.alloc_heap_new w2 _))
      have HG9 := Aside0.mk (show W4.heap[w2.heap.size + 1]? = some (.cells #[Value.int IntKind.i64 (m : Int)] 3 (0, 0)) by rw [← hW4]; have := World.alloc_heap_new (w2.alloc (Obj.cells #[Value.slice Ay y.length cy] 33)) (Obj.cells #[Value.int IntKind.i64 (m : Int)] 3); rwa [World.size_alloc] at this)
      have HBw := Aside0.mk (show Below w.heap.size w W4 from ((below_alloc (Below.refl _ w) _).trans (HB2.out.mono (by rw [World.size_alloc]; exact Nat.le_succ _))).trans (hbw2.mono (Nat.le_of_lt hlt2)))
      have HY4 := Aside0.mk (Kd.C_below (Kd.S_reads' HS2.out).2.2 hbw2)
      have HC4 := Aside0.mk (Kd.C_below HR0.out HBw.out)
      have HS4 := Aside0.mk (show w2.heap.size + 2 ≤ W4.heap.size by rw [← hW4]; simp)
      have HLT2 := Aside0.mk hlt2
      rw [hW4]
      clear hW4 hbw2 hlt2 HS2 HB2 HR0
      generalize w2.heap.size = g7 at HG7 HG9 HS4 HLT2 ⊢
      go_wp2
      refine wp_loop_rounds 3 ?_
      rw [rounds_succ]
      have hfn := fun (w_ : World) (f : Fn) (a c : Array Value) => run_eql_func_nil (P := Try.prog) w_ 38 f a c (by kernel_rfl)
      go_wp2_with (first | (go_at_call 22; (with_reducible refine (each_calls A0 c0 l0 a1 _ ?aR).mono ?_); (case aR => repeat (first | exact HC4.out | (with_reducible refine Kd.C_alloc ?_ _) | exact HC4.out)); rintro e w1_ ⟨g1_1, g2_1, rfl, hIt, hb, hg1, hg2⟩; have HI1 := Aside0.mk hIt; have HB1_ := Aside0.mk hb; have HN1_1 := Aside0.mk hg1; have HN2_1 := Aside0.mk hg2; clear hIt hb hg1 hg2))
      obtain ⟨L, hL⟩ : ∃ L, L = w1_.heap.size := ⟨_, rfl⟩
      obtain ⟨G11, hG11⟩ : ∃ G, G = W4.heap.size := ⟨_, rfl⟩
      have hg0 : w1_.heap[G11]? = some (.cells #[.int .i64 ((0 : Nat) : Int)] 3 (0, 0)) := by rw [hG11]; exact (HB1_.out.block W4.heap.size (by simp)).trans (World.alloc_heap_new W4 _)
      have hbb : Below W4.heap.size W4 w1_ := (below_alloc (Below.refl _ W4) _).trans (HB1_.out.mono (by rw [World.size_alloc]; exact Nat.le_succ _))
      have HGL := Aside0.mk (show G11 < L by rw [hG11, hL]; have := HB1_.out.size; rw [World.size_alloc] at this; omega)
      have HG4 := Aside0.mk (show W4.heap.size ≤ G11 by rw [hG11]; exact Nat.le_refl _)
      rw [← hG11]
      have HN1 := Aside0.mk (show G11 ≠ g1_1 by have := HN1_1.out; rw [World.size_alloc, ← hG11] at this; omega)
      have HN2 := Aside0.mk (show G11 ≠ g2_1 by have := HN2_1.out; rw [World.size_alloc, ← hG11] at this; omega)
      have HLE := Aside0.mk hL
      have HGE := Aside0.mk hG11
      clear hL hG11
      refine wp_range_rd2 (x1 := 13) (x2 := 14) (gf := 27) (by rfl) (fun args w => enters_ Try.func27 (by kernel_rfl) rfl args w) (each_iter g1_1 g2_1 A0 c0 l0 a1 y.length (cutRow l0 a1) HC0.out HL.out F1.out F2.out F3.out)
        (fun i args W hr => by obtain ⟨A, c, rfl, _⟩ := hr; exact ⟨_, _, rfl⟩)
        (fun i args W r o hr hl => hr.put hl) (fun W r o hi hl => hi.put hl) (fun W W' hi hb => hi.below hb)
        (fun i W => W.heap[G11]? = some (.cells #[.int .i64 (i : Int)] 3 (0, 0)) ∧ (i < m ∨ y.length = 0) ∧ Below W4.heap.size W4 W)
        2 (fun W => W.heap[G11]? = some (.cells #[.int .i64 (m : Int)] 3 (0, 0)) ∧ Below W4.heap.size W4 W)
        ?hIb ?hIp ?hXp ⟨hg0, by have := HM2.out; omega, hbb⟩ HI1.out ?hassign ?hbody (fun _ _ h => h) ?hfin
      case hIb =>
        rintro i W W' ⟨h1, h2, h3⟩ hb
        exact ⟨(hb.block _ (Array.getElem?_eq_some_iff.1 h1).1).trans h1, h2, below_step h3 hb⟩
      case hIp =>
        rintro i W r o ⟨h1, h2, h3⟩ hl
        have := HGL.out
        have := HLE.out
        have := HG4.out
        exact ⟨(World.putObj_heap_other (by omega)).trans h1, h2, h3.trans (RdKit.putObj_below (by omega))⟩
      case hXp =>
        rintro W r o ⟨h1, h3⟩ hl
        have := HGL.out
        have := HLE.out
        have := HG4.out
        exact ⟨(World.putObj_heap_other (by omega)).trans h1, h3.trans (RdKit.putObj_below (by omega))⟩
      case hassign =>
        intro u v W K hK
        refine wpIn_seq_k (fun K2 hK2 => ?_)
        refine RdKit.region_round (l := [_]) (by kernel_rfl) (fun ⟨_, _, h⟩ => h) ?_
        go_wp2
        refine RdKit.region_round (l := [_]) (by kernel_rfl) (fun ⟨_, _, h⟩ => h) ?_
        go_wp2
        simp only [List.setIfInBounds_toArray, List.set_cons_zero, List.set_cons_succ] at hK
        exact hK
      case hbody =>
        rintro i u v W hi ⟨hg, hm, hbw⟩ hIt ⟨A, c, eargs, hC, hcc⟩ ⟨r, hlr⟩ hD
        rw [← HLE.out] at hlr hD
        obtain ⟨rfl, rfl⟩ : u = .int .i64 (i : Int) ∧ v = .slice A (cutRow l0 a1 i).length c := by simpa using eargs
        have him : i < m := by rcases hm with h | h <;> omega
        have hY := Kd.C_below HY4.out hbw
        obtain ⟨ad, A', c', eAy, hx, hl', hi'⟩ := at_L1 hY (i : Int) (by omega) (by omega)
        subst eAy
        rw [Int.toNat_natCast] at hx
        rw [F4.out i hi] at hx hl' hi'
        have q11 : W.cell? ⟨G11, 0, none⟩ = some (.int .i64 (i : Int)) := blk_cell hg 0
        have hfz : W.frozen? ⟨G11, 0, none⟩ = false := blk_frozen hg 0
        have q9 : W.cell? ⟨g7 + 1, 0, none⟩ = some (.int .i64 (m : Int)) := blk_cell ((hbw.block (g7 + 1) (by have := HS4.out; omega)).trans HG9.out) 0
        have q7 : W.cell? ⟨g7, 0, none⟩ = some (.slice (some ad) y.length cy) := blk_cell ((hbw.block g7 (by have := HS4.out; omega)).trans HG7.out) 0
        have hcv1 := fun (n_ : Nat) => Kd.C_string (P := Try.prog) (A := A) (c := c) Try.underlying32 Try.underlying5 Try.underlying9 (Kd.C_drewN hC n_)
        have hcv2 := fun (n_ : Nat) => Kd.C_string (P := Try.prog) (A := A') (c := c') Try.underlying32 Try.underlying5 Try.underlying9 (Kd.C_drewN hi' n_)
        have t1 : decide ((m : Int) ≤ (i : Int)) = false := decide_eq_false (by omega)
        have t2 : decide (m ≤ i) = false := decide_eq_false (by omega)
        have p1 := eq_true (show (i : Int) < (y.length : Int) by omega)
        have p2 := eq_true hi
        have p3 := eq_true (show (0 : Int) ≤ (i : Int) by omega)
        have HGW := Aside0.mk hg
        have HBW := Aside0.mk hbw
        have HIW := Aside0.mk hIt
        have HLR := Aside0.mk hlr
        have HDD := Aside0.mk hD
        have HIM := Aside0.mk him
        clear hg hm hbw hIt hC hcc hlr hD him hY hl' hi' eargs hi
        simp only [List.setIfInBounds_toArray, List.set_cons_zero, List.set_cons_succ]
        refine wpIn_block ?_
        refine wpIn_seq_k (fun K1 hK1 => ?_)
        refine wpIn_seq_k (fun K2 hK2 => ?_)
        refine region_round_quiet (by kernel_rfl) (by kernel_rfl) (by kernel_rfl) (fun ⟨_, _, h⟩ => h) ?_
        repeat (quiet_step (fail))
        refine wpQuiet_nil ?_
        intro _ hw'
        obtain ⟨nq, hw''⟩ := hw'
        subst hw''
        clear hcv1 hcv2 t1 t2 p1 p2 p3
        refine hK2 _ _ ?_
        refine wpIn_cond_false rfl ?_
        refine wpIn_skip ?_
        refine hK1 _ _ ?_
        refine wpIn_seq_k (fun K3 hK3 => ?_)
        refine RdKit.region_round (by kernel_rfl) (fun ⟨_, _, h⟩ => h) ?_
        go_wp2
        clear q11 hfz q9 q7
        have hg := HGW.out
        have hbw := HBW.out
        have hG4 := HG4.out
        have hGL := HGL.out
        have hS4 := HS4.out
        have hF2 := F2.out
        have hwr : wrap64 ((i : Int) + 1) = ((i + 1 : Nat) : Int) := by have := HIM.out; have := HM1.out; unfold wrap64; omega
        rw [hwr]
        clear hwr
        obtain ⟨W9, hW9⟩ : ∃ W9, (W.drewN nq).setCell ⟨G11, 0, none⟩ (.int .i64 ((i + 1 : Nat) : Int)) = W9 := ⟨_, rfl⟩
        have hk1 : ∀ b, b ≠ G11 → W9.heap[b]? = W.heap[b]? := fun b hb => by rw [← hW9]; exact Below.heap_setCell _ _ _ _ hb
        have hk2 : W9.heap[G11]? = some (.cells #[.int .i64 ((i + 1 : Nat) : Int)] 3 (0, 0)) := by rw [← hW9]; exact blk_set (w := W.drewN nq) hg 0 _
        have hk3 : Below W4.heap.size W4 W9 := by rw [← hW9]; exact (pw_below_drewN hbw nq).setCell hG4 _
        rw [hW9]
        clear hW9
        have HK1 := Aside0.mk hk1
        have HK2 := Aside0.mk hk2
        have HK3 := Aside0.mk hk3
        have q11 : W9.cell? ⟨G11, 0, none⟩ = some (.int .i64 ((i + 1 : Nat) : Int)) := blk_cell hk2 0
        have q9 : W9.cell? ⟨g7 + 1, 0, none⟩ = some (.int .i64 (m : Int)) := blk_cell ((hk3.block (g7 + 1) (by omega)).trans HG9.out) 0
        have hIt9 : EachIt g1_1 g2_1 A0 c0 l0 a1 W9 := ⟨(hk1 _ (Ne.symm HN1.out)).trans HIW.out.1, (hk1 _ (Ne.symm HN2.out)).trans HIW.out.2.1, Kd.C_below HC4.out hk3⟩
        have HIT9 := Aside0.mk hIt9
        have e1 := hk1 L (by omega)
        have e2 := hk1 (L + 1) (by omega)
        have E1 := Aside0.mk e1
        have E2 := Aside0.mk e2
        clear hg hbw hG4 hGL hS4 hF2 hk1 hk2 hk3 hIt9 e1 e2
        by_cases hend : i + 1 = m
        · have d1 : (((i + 1 : Nat) : Int) == (m : Int)) = true := by simp; omega
          have d2 : ((i : Int) + 1 == (m : Int)) = true := by simp; omega
          have d3 := eq_true (show (i : Int) + 1 = (m : Int) by omega)
          have HE := Aside0.mk hend
          clear hend
          refine wpIn_seq_k (fun K4 hK4 => ?_)
          refine RdKit.region_round (by kernel_rfl) (fun ⟨_, _, h⟩ => h) ?_
          go_wp2
          refine wpIn_cond_true rfl ?_
          refine wpIn_exit ?_
          rw [← HLE.out]
          exact ⟨E2.out, E1.out, rfl, by rw [← HE.out]; exact HK2.out, HK3.out⟩
        · have d1 : (((i + 1 : Nat) : Int) == (m : Int)) = false := by simp; omega
          have d2 : ((i : Int) + 1 == (m : Int)) = false := by simp; omega
          have d3 := eq_false (show ¬ (i : Int) + 1 = (m : Int) by omega)
          have HE := Aside0.mk hend
          clear hend
          refine wpIn_seq_k (fun K4 hK4 => ?_)
          refine RdKit.region_round (by kernel_rfl) (fun ⟨_, _, h⟩ => h) ?_
          go_wp2
          refine wpIn_cond_false rfl ?_
          refine wpIn_skip ?_
          rw [← HLE.out]
          exact ⟨E2.out, E1.out, ⟨HK2.out, .inl (by have := HE.out; have := HIM.out; omega), HK3.out⟩, HIT9.out⟩
      case hfin =>
        intro W5 hx hD
        have hk : W5.heap[G11]? = some (.cells #[.int .i64 (m : Int)] 3 (0, 0)) ∧ Below W4.heap.size W4 W5 := by
          rcases hx with ⟨h1, h2, h3⟩ | ⟨h1, h3⟩
          · have := HM1.out
            rw [show m = y.length by omega]
            exact ⟨h1, h3⟩
          · exact ⟨h1, h3⟩
        have HKW := Aside0.mk hk.2
        rw [← HLE.out] at hD
        have HD1 := Aside0.mk hD
        have q11 : W5.cell? ⟨G11, 0, none⟩ = some (.int .i64 (m : Int)) := blk_cell hk.1 0
        have q9 : W5.cell? ⟨g7 + 1, 0, none⟩ = some (.int .i64 (m : Int)) := blk_cell ((hk.2.block (g7 + 1) (by have := HS4.out; omega)).trans HG9.out) 0
        have HL61 := Aside0.mk (show g7 + 2 ≤ L by have := HGL.out; have := HG4.out; have := HS4.out; omega)
        have HL1 := Aside0.mk (show L < W5.heap.size from (Array.getElem?_eq_some_iff.1 hD).1)
        have hb1 := hk.2
        have hs4 := HS4.out
        have n6 := (hb1.block w.heap.size (by have := HLT2.out; omega)).trans HG6.out
        have n7 := (hb1.block g7 (by omega)).trans HG7.out
        have n9 := (hb1.block (g7 + 1) (by omega)).trans HG9.out
        have nY := Kd.C_below HY4.out hb1
        have nC := Kd.C_below HC4.out hb1
        have nw := HBw.out.trans (hb1.mono (by have := HLT2.out; omega))
        have nS : g7 + 2 ≤ W5.heap.size := Nat.le_trans hs4 hb1.size
        clear HG6 HG7 HG9 HY4 HC4 HBw HS4
        have HG6 := Aside0.mk n6
        have HG7 := Aside0.mk n7
        have HG9 := Aside0.mk n9
        have HY4 := Aside0.mk nY
        have HC4 := Aside0.mk nC
        have HBw := Aside0.mk nw
        have HS4 := Aside0.mk nS
        rw [← HLE.out]
        clear hx hD hk hb1 hs4 n6 n7 n9 nY nC nw nS hg0 hbb hfn
        clear HKW HLE HGE HGL HG4 HN1 HN2 HI1 HB1_ HN1_1 HN2_1
        generalize L = L1 at *
        go_wp2
        clear q11 q9
        rw [rounds_succ]
        have hfn := fun (w_ : World) (f : Fn) (a c : Array Value) => run_eql_func_nil (P := Try.prog) w_ 38 f a c (by kernel_rfl)
        go_wp2_with (first | (go_at_call 22; (with_reducible refine (each_calls A0 c0 l0 a1 _ ?aR).mono ?_); (case aR => repeat (first | exact HC4.out | (with_reducible refine Kd.C_alloc ?_ _) | exact HC4.out)); rintro e w2_ ⟨g1_2, g2_2, rfl, hIt, hb, hg1, hg2⟩; have HI2 := Aside0.mk hIt; have HB2_ := Aside0.mk hb; have HN1_2 := Aside0.mk hg1; have HN2_2 := Aside0.mk hg2; clear hIt hb hg1 hg2))
        obtain ⟨L, hL⟩ : ∃ L, L = w2_.heap.size := ⟨_, rfl⟩
        obtain ⟨G11, hG11⟩ : ∃ G, G = W5.heap.size := ⟨_, rfl⟩
        have hg0 : w2_.heap[G11]? = some (.cells #[.int .i64 ((0 : Nat) : Int)] 3 (0, 0)) := by rw [hG11]; exact (HB2_.out.block W5.heap.size (by simp)).trans (World.alloc_heap_new W5 _)
        have hbb : Below W5.heap.size W5 w2_ := (below_alloc (Below.refl _ W5) _).trans (HB2_.out.mono (by rw [World.size_alloc]; exact Nat.le_succ _))
        have HGL := Aside0.mk (show G11 < L by rw [hG11, hL]; have := HB2_.out.size; rw [World.size_alloc] at this; omega)
        have HG4 := Aside0.mk (show W5.heap.size ≤ G11 by rw [hG11]; exact Nat.le_refl _)
        rw [← hG11]
        have HN1 := Aside0.mk (show G11 ≠ g1_2 by have := HN1_2.out; rw [World.size_alloc, ← hG11] at this; omega)
        have HN2 := Aside0.mk (show G11 ≠ g2_2 by have := HN2_2.out; rw [World.size_alloc, ← hG11] at this; omega)
        have HLE := Aside0.mk hL
        have HGE := Aside0.mk hG11
        clear hL hG11
        refine wp_range_rd2 (x1 := 13) (x2 := 14) (gf := 27) (by rfl) (fun args w => enters_ Try.func27 (by kernel_rfl) rfl args w) (each_iter g1_2 g2_2 A0 c0 l0 a1 y.length (cutRow l0 a1) HC0.out HL.out F1.out F2.out F3.out)
          (fun i args W hr => by obtain ⟨A, c, rfl, _⟩ := hr; exact ⟨_, _, rfl⟩)
          (fun i args W r o hr hl => hr.put hl) (fun W r o hi hl => hi.put hl) (fun W W' hi hb => hi.below hb)
          (fun i W => W.heap[G11]? = some (.cells #[.int .i64 (i : Int)] 3 (0, 0)) ∧ (i < m ∨ y.length = 0) ∧ Below W5.heap.size W5 W)
          2 (fun W => W.heap[G11]? = some (.cells #[.int .i64 (m : Int)] 3 (0, 0)) ∧ Below W5.heap.size W5 W)
          ?hIb ?hIp ?hXp ⟨hg0, by have := HM2.out; omega, hbb⟩ HI2.out ?hassign ?hbody (fun _ _ h => h) ?hfin
        case hIb =>
          rintro i W W' ⟨h1, h2, h3⟩ hb
          exact ⟨(hb.block _ (Array.getElem?_eq_some_iff.1 h1).1).trans h1, h2, below_step h3 hb⟩
        case hIp =>
          rintro i W r o ⟨h1, h2, h3⟩ hl
          have := HGL.out
          have := HLE.out
          have := HG4.out
          exact ⟨(World.putObj_heap_other (by omega)).trans h1, h2, h3.trans (RdKit.putObj_below (by omega))⟩
        case hXp =>
          rintro W r o ⟨h1, h3⟩ hl
          have := HGL.out
          have := HLE.out
          have := HG4.out
          exact ⟨(World.putObj_heap_other (by omega)).trans h1, h3.trans (RdKit.putObj_below (by omega))⟩
        case hassign =>
          intro u v W K hK
          refine wpIn_seq_k (fun K2 hK2 => ?_)
          refine RdKit.region_round (l := [_]) (by kernel_rfl) (fun ⟨_, _, h⟩ => h) ?_
          go_wp2
          refine RdKit.region_round (l := [_]) (by kernel_rfl) (fun ⟨_, _, h⟩ => h) ?_
          go_wp2
          simp only [List.setIfInBounds_toArray, List.set_cons_zero, List.set_cons_succ] at hK
          exact hK
        case hbody =>
          rintro i u v W hi ⟨hg, hm, hbw⟩ hIt ⟨A, c, eargs, hC, hcc⟩ ⟨r, hlr⟩ hD
          rw [← HLE.out] at hlr hD
          obtain ⟨rfl, rfl⟩ : u = .int .i64 (i : Int) ∧ v = .slice A (cutRow l0 a1 i).length c := by simpa using eargs
          have him : i < m := by rcases hm with h | h <;> omega
          have hY := Kd.C_below HY4.out hbw
          obtain ⟨ad, A', c', eAy, hx, hl', hi'⟩ := at_L1 hY (i : Int) (by omega) (by omega)
          subst eAy
          rw [Int.toNat_natCast] at hx
          rw [F4.out i hi] at hx hl' hi'
          have q11 : W.cell? ⟨G11, 0, none⟩ = some (.int .i64 (i : Int)) := blk_cell hg 0
          have hfz : W.frozen? ⟨G11, 0, none⟩ = false := blk_frozen hg 0
          have q9 : W.cell? ⟨g7 + 1, 0, none⟩ = some (.int .i64 (m : Int)) := blk_cell ((hbw.block (g7 + 1) (by have := HS4.out; omega)).trans HG9.out) 0
          have q7 : W.cell? ⟨g7, 0, none⟩ = some (.slice (some ad) y.length cy) := blk_cell ((hbw.block g7 (by have := HS4.out; omega)).trans HG7.out) 0
          have hcv1 := fun (n_ : Nat) => Kd.C_string (P := Try.prog) (A := A) (c := c) Try.underlying32 Try.underlying5 Try.underlying9 (Kd.C_drewN hC n_)
          have hcv2 := fun (n_ : Nat) => Kd.C_string (P := Try.prog) (A := A') (c := c') Try.underlying32 Try.underlying5 Try.underlying9 (Kd.C_drewN hi' n_)
          have t1 : decide ((m : Int) ≤ (i : Int)) = false := decide_eq_false (by omega)
          have t2 : decide (m ≤ i) = false := decide_eq_false (by omega)
          have p1 := eq_true (show (i : Int) < (y.length : Int) by omega)
          have p2 := eq_true hi
          have p3 := eq_true (show (0 : Int) ≤ (i : Int) by omega)
          have HGW := Aside0.mk hg
          have HBW := Aside0.mk hbw
          have HIW := Aside0.mk hIt
          have HLR := Aside0.mk hlr
          have HDD := Aside0.mk hD
          have HIM := Aside0.mk him
          clear hg hm hbw hIt hC hcc hlr hD him hY hl' hi' eargs hi
          simp only [List.setIfInBounds_toArray, List.set_cons_zero, List.set_cons_succ]
          refine wpIn_block ?_
          refine wpIn_seq_k (fun K1 hK1 => ?_)
          refine wpIn_seq_k (fun K2 hK2 => ?_)
          refine region_round_quiet (by kernel_rfl) (by kernel_rfl) (by kernel_rfl) (fun ⟨_, _, h⟩ => h) ?_
          repeat (quiet_step (fail))
          refine wpQuiet_nil ?_
          intro _ hw'
          obtain ⟨nq, hw''⟩ := hw'
          subst hw''
          clear hcv1 hcv2 t1 t2 p1 p2 p3
          refine hK2 _ _ ?_
          refine wpIn_cond_false rfl ?_
          refine wpIn_skip ?_
          refine hK1 _ _ ?_
          refine wpIn_seq_k (fun K3 hK3 => ?_)
          refine RdKit.region_round (by kernel_rfl) (fun ⟨_, _, h⟩ => h) ?_
          go_wp2
          clear q11 hfz q9 q7
          have hg := HGW.out
          have hbw := HBW.out
          have hG4 := HG4.out
          have hGL := HGL.out
          have hS4 := HS4.out
          have hF2 := F2.out
          have hwr : wrap64 ((i : Int) + 1) = ((i + 1 : Nat) : Int) := by have := HIM.out; have := HM1.out; unfold wrap64; omega
          rw [hwr]
          clear hwr
          obtain ⟨W9, hW9⟩ : ∃ W9, (W.drewN nq).setCell ⟨G11, 0, none⟩ (.int .i64 ((i + 1 : Nat) : Int)) = W9 := ⟨_, rfl⟩
          have hk1 : ∀ b, b ≠ G11 → W9.heap[b]? = W.heap[b]? := fun b hb => by rw [← hW9]; exact Below.heap_setCell _ _ _ _ hb
          have hk2 : W9.heap[G11]? = some (.cells #[.int .i64 ((i + 1 : Nat) : Int)] 3 (0, 0)) := by rw [← hW9]; exact blk_set (w := W.drewN nq) hg 0 _
          have hk3 : Below W5.heap.size W5 W9 := by rw [← hW9]; exact (pw_below_drewN hbw nq).setCell hG4 _
          rw [hW9]
          clear hW9
          have HK1 := Aside0.mk hk1
          have HK2 := Aside0.mk hk2
          have HK3 := Aside0.mk hk3
          have q11 : W9.cell? ⟨G11, 0, none⟩ = some (.int .i64 ((i + 1 : Nat) : Int)) := blk_cell hk2 0
          have q9 : W9.cell? ⟨g7 + 1, 0, none⟩ = some (.int .i64 (m : Int)) := blk_cell ((hk3.block (g7 + 1) (by omega)).trans HG9.out) 0
          have hIt9 : EachIt g1_2 g2_2 A0 c0 l0 a1 W9 := ⟨(hk1 _ (Ne.symm HN1.out)).trans HIW.out.1, (hk1 _ (Ne.symm HN2.out)).trans HIW.out.2.1, Kd.C_below HC4.out hk3⟩
          have HIT9 := Aside0.mk hIt9
          have e1 := hk1 L (by omega)
          have e2 := hk1 (L + 1) (by omega)
          have E1 := Aside0.mk e1
          have E2 := Aside0.mk e2
          clear hg hbw hG4 hGL hS4 hF2 hk1 hk2 hk3 hIt9 e1 e2
          by_cases hend : i + 1 = m
          · have d1 : (((i + 1 : Nat) : Int) == (m : Int)) = true := by simp; omega
            have d2 : ((i : Int) + 1 == (m : Int)) = true := by simp; omega
            have d3 := eq_true (show (i : Int) + 1 = (m : Int) by omega)
            have HE := Aside0.mk hend
            clear hend
            refine wpIn_seq_k (fun K4 hK4 => ?_)
            refine RdKit.region_round (by kernel_rfl) (fun ⟨_, _, h⟩ => h) ?_
            go_wp2
            refine wpIn_cond_true rfl ?_
            refine wpIn_exit ?_
            rw [← HLE.out]
            exact ⟨E2.out, E1.out, rfl, by rw [← HE.out]; exact HK2.out, HK3.out⟩
          · have d1 : (((i + 1 : Nat) : Int) == (m : Int)) = false := by simp; omega
            have d2 : ((i : Int) + 1 == (m : Int)) = false := by simp; omega
            have d3 := eq_false (show ¬ (i : Int) + 1 = (m : Int) by omega)
            have HE := Aside0.mk hend
            clear hend
            refine wpIn_seq_k (fun K4 hK4 => ?_)
            refine RdKit.region_round (by kernel_rfl) (fun ⟨_, _, h⟩ => h) ?_
            go_wp2
            refine wpIn_cond_false rfl ?_
            refine wpIn_skip ?_
            rw [← HLE.out]
            exact ⟨E2.out, E1.out, ⟨HK2.out, .inl (by have := HE.out; have := HIM.out; omega), HK3.out⟩, HIT9.out⟩
        case hfin =>
          intro W6 hx hD
          have hk : W6.heap[G11]? = some (.cells #[.int .i64 (m : Int)] 3 (0, 0)) ∧ Below W5.heap.size W5 W6 := by
            rcases hx with ⟨h1, h2, h3⟩ | ⟨h1, h3⟩
            · have := HM1.out
              rw [show m = y.length by omega]
              exact ⟨h1, h3⟩
            · exact ⟨h1, h3⟩
          have HKW := Aside0.mk hk.2
          rw [← HLE.out] at hD
          have HD2 := Aside0.mk hD
          have q11 : W6.cell? ⟨G11, 0, none⟩ = some (.int .i64 (m : Int)) := blk_cell hk.1 0
          have q9 : W6.cell? ⟨g7 + 1, 0, none⟩ = some (.int .i64 (m : Int)) := blk_cell ((hk.2.block (g7 + 1) (by have := HS4.out; omega)).trans HG9.out) 0
          have HL62 := Aside0.mk (show g7 + 2 ≤ L by have := HGL.out; have := HG4.out; have := HS4.out; omega)
          have HL2 := Aside0.mk (show L < W6.heap.size from (Array.getElem?_eq_some_iff.1 hD).1)
          have hb1 := hk.2
          have hs4 := HS4.out
          have n6 := (hb1.block w.heap.size (by have := HLT2.out; omega)).trans HG6.out
          have n7 := (hb1.block g7 (by omega)).trans HG7.out
          have n9 := (hb1.block (g7 + 1) (by omega)).trans HG9.out
          have nY := Kd.C_below HY4.out hb1
          have nC := Kd.C_below HC4.out hb1
          have nw := HBw.out.trans (hb1.mono (by have := HLT2.out; omega))
          have nS : g7 + 2 ≤ W6.heap.size := Nat.le_trans hs4 hb1.size
          have hd1 := (hb1.block L1 HL1.out).trans HD1.out
          have HN12 := Aside0.mk (show L1 < L by have := HGL.out; have := HG4.out; have := HL1.out; omega)
          clear HD1
          have HD1 := Aside0.mk hd1
          clear hd1
          clear HG6 HG7 HG9 HY4 HC4 HBw HS4
          have HG6 := Aside0.mk n6
          have HG7 := Aside0.mk n7
          have HG9 := Aside0.mk n9
          have HY4 := Aside0.mk nY
          have HC4 := Aside0.mk nC
          have HBw := Aside0.mk nw
          have HS4 := Aside0.mk nS
          rw [← HLE.out]
          clear hx hD hk hb1 hs4 n6 n7 n9 nY nC nw nS hg0 hbb hfn
          clear HKW HLE HGE HGL HG4 HN1 HN2 HI2 HB2_ HN1_2 HN2_2
          generalize L = L2 at *
          go_wp2
          clear q11 q9
          rw [rounds_succ]
          go_wp2_with (first | (go_at_call 16; (with_reducible refine (remoralaw05_awake.calls k r _ HA.out).mono ?_); rintro e w9 ⟨rfl, hb⟩; have HB9 := Aside0.mk hb; have HG := Aside0.mk ((hb.block w.heap.size (by have := HLT2.out; have := HS4.out; omega)).trans HG6.out); have HD1' := Aside0.mk ((hb.block L1 (by have := HN12.out; have := HL2.out; omega)).trans HD1.out); have HD2' := Aside0.mk ((hb.block L2 HL2.out).trans HD2.out); have hfz := blk_frozen HG.out 0; have hcl := (blk_cell HG.out 0); clear hb))
          have hne6 : w.heap.size < L1 := by have := HLT2.out; have := HL61.out; omega
          have hlt12 := HN12.out
          have hb : Below w.heap.size w (((w9.setCell ⟨w.heap.size, 0, none⟩ (.bool r)).putObj L2 (.deferred none)).putObj L1 (.deferred none)) :=
            ((((HBw.out.trans (HB9.out.mono (by have := HLT2.out; have := HS4.out; omega))).setCell (Nat.le_refl _) _).trans (RdKit.putObj_below (by omega))).trans (RdKit.putObj_below (by omega)))
          refine marks_two ((Below.heap_setCell _ _ _ _ (by simp; omega)).trans HD2'.out) ((Below.heap_setCell _ _ _ _ (by simp; omega)).trans HD1'.out) (by omega) ⟨_, results_one rfl rfl ?_, rfl, hb⟩
          have hc : (((w9.setCell ⟨w.heap.size, 0, none⟩ (.bool r)).putObj L2 (.deferred none)).putObj L1 (.deferred none)).cell? ⟨w.heap.size, 0, none⟩ = some (.bool r) :=
            blk_cell ((World.putObj_heap_other (by omega)).trans ((World.putObj_heap_other (by omega)).trans (blk_set HG.out 0 (.bool r)))) 0
          simp [loadVar, go_sem, hc]
    · rw [if_neg h2] at h
      cases h



/-- THE ONE PURE STATEMENT of remoralaw05_BlocksEach. -/
def remoralaw05_BlocksEach.Pure : Prop := ∀ (l0 : List Int) (a1 : Int) (a2 : Int), (l0.length ≤ maxLen ∧ ∀ q0_ ∈ l0, (Lit.int .u8 q0_).wf = true) → l0.length * 1 ≤ 140737488351232 → (Lit.int .i64 a1).wf = true → (Lit.int .i64 a2).wf = true → ∃ k, remoralaw05_BlocksEach.f k l0 a1 a2 = some true

end Go.Proofs.Ytciibhdodajjaaa.PBlocksEach
