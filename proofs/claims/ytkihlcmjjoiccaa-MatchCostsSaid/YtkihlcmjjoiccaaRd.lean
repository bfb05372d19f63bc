/- What this text brings: a range over a function value whose iterator yields what it has just made (a reading condition Rd stands in each round's premise), and regions in a round's frame by the plain laws. -/
import Derived.RangeFuncStops
import Derived.RangeFuncRecord
import Derived.RangeFuncLeaves
import Derived.OrdersHeld
import Derived.Tactics
import Derived.TacticsIn
import Derived.Below
import Derived.Deep.RegionHeld
namespace Go.RdKit
open Go Go.RowKit

def calmOp (o : Oper) : Bool := match o.op with | .defer _ => false | _ => true
def calm (ops : Array Oper) : Bool := ops.all calmOp
theorem calmOp_ne {o : Oper} (h : calmOp o = true) : ∀ c, o.op ≠ .defer c := by
  intro c e
  unfold calmOp at h
  rw [e] at h
  cases h
theorem calm_at {ops : Array Oper} (h : calm ops = true) {i : Nat} {o : Oper} (ho : ops[i]? = some o) : calmOp o = true := by
  unfold calm at h
  rw [Array.all_eq_true] at h
  obtain ⟨hi, rfl⟩ := Array.getElem?_eq_some_iff.1 ho
  exact h i hi

section
variable {P : Program} {ops : Array Oper} {Q : Exit → Act → World → Prop} {a : Act} {w : World} {o : Oper} {rest : List Oper}

theorem callsIn_round {r n : Nat} {f : FuncId} {args : Array Value} {R : Ending → World → Prop} (h : Calls P f args w R) : CallsIn (Fence.wide.inRound r) n P f args w R :=
  show CallsIn Fence.wide n P f args w R from callsIn_wide.2 h

theorem oper_wpIn (F : Fence) (hF : F = Fence.wide ∨ ∃ r, F = Fence.wide.inRound r) (n : Nat) {K : Act → World → Prop} (hd : calmOp o = true) (h : Oper.wp P o a w K Q) : Oper.wpIn F n P o a w K Q := by
  have hfn : ∀ f, F.fn f := by rcases hF with rfl | ⟨r, rfl⟩ <;> exact fun _ => trivial
  have hdep : F.depth = none := by rcases hF with rfl | ⟨r, rfl⟩ <;> rfl
  have hcall : ∀ {f args w' R}, Calls P f args w' R → CallsIn F (n - 1) P f args w' R := by
    rcases hF with rfl | ⟨r, rfl⟩
    · exact fun h => callsIn_wide.2 h
    · exact fun h => callsIn_round h
  have hrow : ∀ {row args w' R}, Rows P row args w' R → RowsIn F (n - 1) P row args w' R := by
    intro row args w' R h c cs _
    obtain ⟨v, w'', hr, hs⟩ := h c cs
    refine ⟨v, w'', hr, ?_⟩
    rcases hF with rfl | ⟨r, rfl⟩
    · exact stepsIn_wide.2 hs
    · rw [fenced_inRound]; exact stepsIn_wide.2 hs
  have hroom : F.depth.isSome = true → 1 ≤ n := by rw [hdep]; intro h; cases h
  refine ⟨fun f _ => hfn f, ?_⟩
  rw [Oper.semAt_eq _ _ _ (calmOp_ne hd)]
  unfold Oper.wp at h
  generalize (execOp a.eval o).run P w = R at h ⊢
  cases R with
  | ok nx w' =>
    cases nx with
    | value v => exact h
    | skip => exact h
    | defer d => exact h
    | enter f args => exact ⟨hroom, hcall (Calls.mono h (fun e w'' he => by cases e <;> exact he))⟩
    | row row args => exact ⟨hroom, hrow h⟩
    | _ => exact False.elim h
  | halt x w' => cases x <;> exact h

theorem wpOpsIn_of (F : Fence) (hF : F = Fence.wide ∨ ∃ r, F = Fence.wide.inRound r) (n : Nat) (hd : calm ops = true) (hQ : ¬ LetsOut Q) : ∀ (l : List Nat) (a : Act) (w : World), wpOps P ops Q l a w → wpOpsIn F n P ops Q l a w
  | [], _, _, h => h
  | i :: rest, a, w, h => by
    have hfn : ∀ f, F.fn f := by rcases hF with rfl | ⟨r, rfl⟩ <;> exact fun _ => trivial
    have ih := wpOpsIn_of F hF n hd hQ rest
    unfold wpOps at h
    unfold wpOpsIn
    cases ho : ops[i]? with
    | none => simp only [ho] at h ⊢; exact ih a w h
    | some o =>
      simp only [ho] at h ⊢
      by_cases hw : Region.wanted o (yielded ops a.tmps) = true
      · simp only [hw, if_true] at h ⊢
        rcases h with h | ⟨_, h⟩
        · exact oper_wpIn F hF n (calm_at hd ho) (Oper.wp_mono ih h)
        · exact absurd h hQ
      · simp only [hw, Bool.false_eq_true, if_false] at h ⊢
        exact ⟨fun f _ => hfn f, ih _ _ h⟩

theorem region_round {id r n : Nat} {l : List Oper} (hd : calm l.toArray = true) (hQ : ¬ LetsOut Q) (h : wpList P l.toArray Q l a w) : (Code.region id l.toArray false).wpIn (Fence.wide.inRound r) n P Q a w := by
  refine wpIn_region (wpOpsIn_of _ (.inr ⟨r, rfl⟩) n hd hQ _ _ _ ?_)
  rw [List.range_eq_range', ← Array.length_toList, wpOps_eq_wpList l.toArray.toList 0 (by simp)]
  simpa using h

theorem region_round_any {id r n : Nat} (hm : P.follows .mixedOrders = true) (hd : calm ops = true) (hQ : ¬ LetsOut Q)
    (h : wpAny P .any ops Q ops.size (Array.replicate ops.size false) a w.drew) : (Code.region id ops true).wpIn (Fence.wide.inRound r) n P Q a w := by
  refine wpIn_region_draw (fun t => wpOpsIn_of _ (.inr ⟨r, rfl⟩) n hd hQ _ _ _ ?_)
  simp only [Region.schedule, hm, Bool.true_or, if_true]
  exact wpAny_sound ops.size t _ a _ h

theorem calls_marks {f : FuncId} {fn : Func} {c : Code} {args : Array Value} {w : World} {R : Ending → World → Prop} (hf : P.funcs[f]? = some fn) (hb : fn.body = some c)
    (h : c.wp P (bodyPostM Fence.wide 0 P fn R) { tmps := args ++ Array.replicate (fn.ntmps - args.size) undef, defers := [] } w) : Calls P f args w R :=
  callsIn_wide.1 (callsIn_of_wp_marks (n := 0) hf hb trivial (wpIn_wide.2 h) rfl)
theorem marks_ret {fn : Func} {tmps : Array Value} {R : Ending → World → Prop} (h : ∃ v, (results fn tmps).run P w = .ok v w ∧ R (.returned v) w) : bodyPostM Fence.wide 0 P fn R .ret { tmps, defers := [] } w := h
theorem marks_ret1 {fn : Func} {tmps : Array Value} {D : Nat} {R : Ending → World → Prop} (hk : w.heap[D]? = some (.deferred (some [])))
    (h : ∃ v, (results fn tmps).run P (w.putObj D (.deferred none)) = .ok v (w.putObj D (.deferred none)) ∧ R (.returned v) (w.putObj D (.deferred none))) :
    bodyPostM Fence.wide 0 P fn R .ret { tmps, defers := [{ target := .collected D, args := #[] }] } w := ⟨by simp, .inl ⟨_, _, rfl, run_takeDeferred hk, h⟩⟩

theorem listIn_via {n : Nat} (hd : calmOp o = true)
    (h : ∀ K : Act → World → Prop, (∀ a w, wpListIn Fence.wide n P ops Q rest a w → K a w) → if Region.wanted o (yielded ops a.tmps) = true then Oper.wp P o a w K Q else K (a.put o.dst undef) w) :
    wpListIn Fence.wide n P ops Q (o :: rest) a w := by
  refine wpListIn_step (fun K hK => ?_)
  have h1 := h K hK
  by_cases hw : Region.wanted o (yielded ops a.tmps) = true
  · rw [if_pos hw] at h1
    rw [if_pos hw]
    exact oper_wpIn _ (.inl rfl) n hd h1
  · rw [if_neg hw] at h1
    rw [if_neg hw]
    exact ⟨fun _ _ => trivial, h1⟩
theorem listIn_app {n : Nat} (hout : ¬ LetsOut Q) : ∀ (l rest : List Oper) (a : Act) (w : World), (l.all calmOp) = true →
    wpList P ops (Exit.then (wpListIn Fence.wide n P ops Q rest) Q) l a w → wpListIn Fence.wide n P ops Q (l ++ rest) a w
  | [], _, _, _, _, h => h
  | o :: l, rest, a, w, hd, h => by
    simp only [List.all_cons, Bool.and_eq_true] at hd
    have hex : ¬ LetsOut (Exit.then (wpListIn Fence.wide n P ops Q rest) Q) := fun h => hout h
    refine listIn_via hd.1 (fun K hK => ?_)
    unfold wpList at h
    by_cases hw : Region.wanted o (yielded ops a.tmps) = true
    · rw [if_pos hw] at h ⊢
      rcases h with h | ⟨_, h⟩
      · have h1 := Oper.wp_mono (K' := K) (fun a w hk => hK a w (listIn_app hout l rest a w hd.2 hk)) h
        revert h1
        unfold Oper.wp
        generalize (execOp a.eval o).run P w = R
        intro h1
        cases R with
        | ok nx w' =>
          cases nx with
          | enter f args => exact Calls.mono h1 (fun e w'' he => by cases e <;> exact he)
          | _ => exact h1
        | halt x w' => cases x <;> exact h1
      · exact absurd h hex
    · rw [if_neg hw] at h ⊢
      exact hK _ _ (listIn_app hout l rest _ _ hd.2 h)
theorem listIn_take {n k : Nat} {l : List Oper} (hout : ¬ LetsOut Q) (hd : ((l.take k).all calmOp) = true) (h : wpList P ops (Exit.then (wpListIn Fence.wide n P ops Q (l.drop k)) Q) (l.take k) a w) : wpListIn Fence.wide n P ops Q l a w := by
  have := listIn_app (n := n) hout (l.take k) (l.drop k) a w hd h
  rwa [List.take_append_drop] at this
theorem cell_putObj {W : World} {l : Nat} {r : Loop} {o : Obj} {p : Addr} {u : Value} (h : W.cell? p = some u) (hl : W.heap[l]? = some (.loop r)) : (W.putObj l o).cell? p = some u := by
  have hne : l ≠ p.block := fun e => by
    unfold World.cell? at h
    rw [← e, hl] at h
    simp at h
  unfold World.cell? at h ⊢
  rw [World.putObj_heap_other (Ne.symm hne)]
  exact h
end

def IterC (P : Program) (gf : Nat) (lb : Array Value) (Rd : Nat → Array Value → World → Prop) (N : Nat) (It : World → Prop) : Prop :=
  ∀ (l : Nat) (J : Nat → World → Prop) (Jx : World → Prop) (W : World), It W → J 0 W →
    (∀ i W1 W2, J i W1 → Below W1.heap.size W1 W2 → J i W2) →
    (∀ i args W1, i < N → J i W1 → It W1 → Rd i args W1 → YieldAt Fence.wide 0 P l args W1 fun e W2 =>
      (e = .returned (.bool true) ∧ J (i + 1) W2 ∧ It W2) ∨ (e = .returned (.bool false) ∧ Jx W2)) →
    CallsIn Fence.wide 0 P gf (#[.func (.yield l) #[] #[]] ++ lb) W fun e W' => (∃ v, e = .returned v) ∧ (J N W' ∨ Jx W')

def rdPost (I : Nat → World → Prop) (It : World → Prop) (Ix : Code → World → Prop) (l D i : Nat) (W : World) : Exit → Act → World → Prop
  | .normal, _, W' => W'.heap[l]? = W.heap[l]? ∧ W'.heap[D]? = W.heap[D]? ∧ I (i + 1) W' ∧ It W'
  | .ret, _, W' => W'.heap[l]? = W.heap[l]? ∧ W'.heap[D]? = W.heap[D]? ∧ Ix .ret W'
  | .exit id, _, W' => W'.heap[l]? = W.heap[l]? ∧ W'.heap[D]? = W.heap[D]? ∧ Ix (.exit id) W'
  | _, _, _ => False
theorem putObj_below {W : World} {l n : Nat} {o : Obj} (h : n ≤ l) : Below n W (W.putObj l o) :=
  ⟨rfl, rfl, rfl, by rw [World.putObj_size]; exact Nat.le_refl _, fun k hk => World.putObj_heap_other (by omega)⟩

theorem wp_range_rd {P : Program} {g : Operand} {ps : Array Tmp} {assign body : Code} {Q : Exit → Act → World → Prop} {a : Act} {w : World} {gf : Nat} {lb : Array Value}
    (hg : a.eval g = .func (.func gf) #[] lb) (eg : ∀ args w, (callFunc gf args).run P w = .ok (.enter gf args) w)
    {Rd : Nat → Array Value → World → Prop} {N : Nat} {It : World → Prop} (hseq : IterC P gf lb Rd N It)
    (hps : ∀ i args W, Rd i args W → args.size = ps.size)
    (hRd : ∀ i args W r o, Rd i args W → W.heap[w.heap.size + 1]? = some (.loop r) → Rd i args (W.putObj (w.heap.size + 1) o))
    (hItp : ∀ W r o, It W → W.heap[w.heap.size + 1]? = some (.loop r) → It (W.putObj (w.heap.size + 1) o))
    (hItb : ∀ W W', It W → Below W.heap.size W W' → It W')
    (I : Nat → World → Prop) (Ix : Code → World → Prop)
    (hIb : ∀ i W W', I i W → Below W.heap.size W W' → I i W')
    (hIp : ∀ i W r o, I i W → W.heap[w.heap.size + 1]? = some (.loop r) → I i (W.putObj (w.heap.size + 1) o))
    (hXp : ∀ c W r o, Ix c W → W.heap[w.heap.size + 1]? = some (.loop r) → Ix c (W.putObj (w.heap.size + 1) o))
    (h0 : I 0 w) (hIt0 : It w) (a₁ : Array Value → Act)
    (hassign : ∀ (i : Nat) (args : Array Value) (W : World) (K : Act → World → Prop), Rd i args W → K (a₁ args) W →
      assign.wpIn (Fence.wide.inRound (w.heap.size + 1)) 0 P (Exit.then K (fun _ _ _ => False)) { tmps := (ps.zip args).foldl (fun t (p, v) => t.setIfInBounds p v) a.tmps, defers := [] } W)
    (hbody : ∀ (i : Nat) (args : Array Value) (W : World), i < N → I i W → It W → Rd i args W → (∃ r, W.heap[w.heap.size + 1]? = some (.loop r)) → W.heap[w.heap.size]? = some (.deferred (some [])) →
      body.wpIn (Fence.wide.inRound (w.heap.size + 1)) 0 P (rdPost I It Ix (w.heap.size + 1) w.heap.size i W) (a₁ args) W)
    (hdone : ∀ (W : World), I N W → W.heap[w.heap.size]? = some (.deferred (some [])) → Q .normal { a with defers := { target := .collected w.heap.size, args := #[] } :: a.defers } W)
    (hstop : ∀ (c : Code) (W : World), Ix c W → W.heap[w.heap.size]? = some (.deferred (some [])) → c.wp P Q { a with defers := { target := .collected w.heap.size, args := #[] } :: a.defers } W) :
    (Code.rangeFunc g ps assign body).wp P Q a w := by
  refine (wpIn_wide (n := 0)).1 (wpIn_rangeFunc ?_)
  intro fn hfn
  rw [Fence.wide_round]
  obtain ⟨rec, hrec⟩ : ∃ rec : LoopState → Option Code → Loop, rec = fun st pe => { state := st, pending := pe, fn, tmps := a.tmps, params := ps, assign, body, defers := w.heap.size } := ⟨_, rfl⟩
  obtain ⟨W1, hW1⟩ : ∃ W1, (w.alloc (.deferred (some []))).alloc (.loop (rec .ready none)) = W1 := ⟨_, rfl⟩
  have hL1 : W1.heap[w.heap.size + 1]? = some (.loop (rec .ready none)) := by
    rw [← hW1]; have := World.alloc_heap_new (w.alloc (.deferred (some []))) (.loop (rec .ready none)); rwa [World.size_alloc] at this
  have hK1 : W1.heap[w.heap.size]? = some (.deferred (some [])) := by
    rw [← hW1]; exact (Below.heap_alloc _ _ _ (by simp)).trans (World.alloc_heap_new w _)
  have hb1 : Below w.heap.size w W1 := by
    rw [← hW1]; exact ((Below.refl _ w).alloc (Nat.le_refl _) _).alloc (by simp) _
  refine ⟨w.heap.size + 1, [{ target := .collected w.heap.size, args := #[] }], W1, { target := .fn (.func gf) lb, args := #[.func (.yield (w.heap.size + 1)) #[] #[]] }, W1, gf,
    #[.func (.yield (w.heap.size + 1)) #[] #[]] ++ lb, W1, ?_, ?_, fun _ _ => trivial, ?_, (fun h => by cases h), ?_⟩
  · rw [← hW1, hrec]; exact run_enterLoop_outer _ _ _ _ _
  · simp only [resolve, hg]
    simp [go_sem]
  · simp [invoke, go_sem, eg]
  · refine (hseq (w.heap.size + 1)
      (fun i W => I i W ∧ W.heap[w.heap.size + 1]? = some (.loop (rec .ready none)) ∧ W.heap[w.heap.size]? = some (.deferred (some [])))
      (fun W => ∃ c, Ix c W ∧ W.heap[w.heap.size + 1]? = some (.loop (rec .done (some c))) ∧ W.heap[w.heap.size]? = some (.deferred (some [])))
      W1 (hItb _ _ hIt0 hb1) ⟨hIb _ _ _ h0 hb1, hL1, hK1⟩ ?_ ?_).mono ?_
    · rintro i A B ⟨h1, h2, h3⟩ hb
      exact ⟨hIb _ _ _ h1 hb, (hb.block _ (Array.getElem?_eq_some_iff.1 h2).1).trans h2, (hb.block _ (Array.getElem?_eq_some_iff.1 h3).1).trans h3⟩
    · rintro i args W hi ⟨hi1, hl, hk⟩ hIt hrd
      have hlt : w.heap.size + 1 < W.heap.size := (Array.getElem?_eq_some_iff.1 hl).1
      have hy := run_yield (P := P) (args := args) hl (by rw [hrec]; exact hps i args W hrd)
      rw [hrec] at hy
      refine ⟨fn, _, assign, body, hy, roundIn_of_wpIn hfn (hassign i args W _ hrd ⟨_, run_beginRound hl (by rw [hrec]), ?_⟩)⟩
      obtain ⟨W2, hW2⟩ : ∃ W2, W.putObj (w.heap.size + 1) (.loop { rec .ready none with state := .busy }) = W2 := ⟨_, rfl⟩
      rw [hW2]
      have hl2 : W2.heap[w.heap.size + 1]? = some (.loop { rec .ready none with state := .busy }) := by rw [← hW2]; exact World.putObj_heap_same hlt
      have hk2 : W2.heap[w.heap.size]? = some (.deferred (some [])) := by rw [← hW2]; exact (World.putObj_heap_other (by omega)).trans hk
      have hI2 : I i W2 := by rw [← hW2]; exact hIp _ _ _ _ hi1 hl
      have hIt2 : It W2 := by rw [← hW2]; exact hItp _ _ _ hIt hl
      have hrd2 : Rd i args W2 := by rw [← hW2]; exact hRd _ _ _ _ _ hrd hl
      clear hW2
      refine wpIn_mono (hbody i args W2 hi hI2 hIt2 hrd2 ⟨_, hl2⟩ hk2) ?_
      have fin : ∀ (jump : Option Code) (W3 : World), W3.heap[w.heap.size + 1]? = W2.heap[w.heap.size + 1]? → W3.heap[w.heap.size]? = W2.heap[w.heap.size]? →
          (Instr.endRound (w.heap.size + 1) jump).run P W3 = .ok (.bool jump.isNone) (W3.putObj (w.heap.size + 1) (.loop (rec (if jump.isNone then .ready else .done) jump))) ∧
          W3.heap[w.heap.size + 1]? = some (.loop { rec .ready none with state := .busy }) ∧
          (W3.putObj (w.heap.size + 1) (.loop (rec (if jump.isNone then .ready else .done) jump))).heap[w.heap.size + 1]? = some (.loop (rec (if jump.isNone then .ready else .done) jump)) ∧
          (W3.putObj (w.heap.size + 1) (.loop (rec (if jump.isNone then .ready else .done) jump))).heap[w.heap.size]? = some (.deferred (some [])) := fun jump W3 e1 e2 => by
        have hl3 := e1.trans hl2
        have := run_endRound (P := P) jump hl3
        rw [hrec] at this ⊢
        exact ⟨this, by rw [hrec] at hl3; exact hl3, World.putObj_heap_same (Array.getElem?_eq_some_iff.1 hl3).1, (World.putObj_heap_other (by omega)).trans (e2.trans hk2)⟩
      rintro e a3 W3 hp
      cases e with
      | normal =>
        obtain ⟨e1, e2, hi3, hit3⟩ := hp
        obtain ⟨hr, hl3, hl4, hk4⟩ := fin none W3 e1 e2
        exact ⟨_, _, hr, .inl ⟨rfl, ⟨hIp _ _ _ _ hi3 hl3, hl4, hk4⟩, hItp _ _ _ hit3 hl3⟩⟩
      | ret =>
        obtain ⟨e1, e2, hi3⟩ := hp
        obtain ⟨hr, hl3, hl4, hk4⟩ := fin (some .ret) W3 e1 e2
        exact ⟨_, _, hr, .inr ⟨rfl, .ret, hXp _ _ _ _ hi3 hl3, hl4, hk4⟩⟩
      | exit id =>
        obtain ⟨e1, e2, hi3⟩ := hp
        obtain ⟨hr, hl3, hl4, hk4⟩ := fin (some (.exit id)) W3 e1 e2
        exact ⟨_, _, hr, .inr ⟨rfl, .exit id, hXp _ _ _ _ hi3 hl3, hl4, hk4⟩⟩
      | goto t => exact hp.elim
      | panic ch => exact hp.elim
      | outgrown => exact hp.elim
    · rintro e W2 ⟨⟨v, rfl⟩, (⟨hi, hl, hk⟩ | ⟨c, hi, hl, hk⟩)⟩
      · exact ⟨none, _, by have := run_endLoop (P := P) hl (by rw [hrec]; simp); rw [hrec] at this; exact this, hdone _ (hIp _ _ _ _ hi hl) ((World.putObj_heap_other (by omega)).trans hk)⟩
      · exact ⟨some c, _, by have := run_endLoop (P := P) hl (by rw [hrec]; simp); rw [hrec] at this; exact this, wpIn_wide.2 (hstop c _ (hXp _ _ _ _ hi hl) ((World.putObj_heap_other (by omega)).trans hk))⟩
end Go.RdKit
