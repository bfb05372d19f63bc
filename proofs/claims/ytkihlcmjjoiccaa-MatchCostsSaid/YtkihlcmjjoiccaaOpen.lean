/- What a type's cells read as, kind by kind: the arguments of a row, opened for the printed contracts. Conditions: none. -/
import Derived.Test.YtkihlcmjjoiccaaWWords
import Derived.Test.YtkihlcmjjoiccaaWLast
import Derived.WalkKit
import Derived.ProofKit
import Derived.OpenShut
import Derived.ChangeArms
import Derived.ChangeOld
import Derived.Deep.Slices
import Derived.Below
import Derived.LaidMore
import Derived.SizedLaws
namespace Go.Proofs.Ytkihlcmjjoiccaa.Opening
open Go.RowKit Go.Proofs.YtkihlcmjjoiccaaW.PrintWords Go.Proofs.YtkihlcmjjoiccaaW.PrintLast
open Go.ChangeShapes Go.WideShapes

theorem list_of {α : Type} {p : Nat → α → Prop} : ∀ n, (∀ i, i < n → ∃ x, p i x) → ∃ xs : List α, xs.length = n ∧ ∀ i x, xs[i]? = some x → p i x
  | 0, _ => ⟨[], rfl, fun i x h => by simp at h⟩
  | n + 1, h => by
    obtain ⟨xs, hl, hx⟩ := list_of n (fun i hi => h i (by omega))
    obtain ⟨x, hp⟩ := h n (by omega)
    refine ⟨xs ++ [x], by simp [hl], fun i y hy => ?_⟩
    rcases Nat.lt_or_ge i xs.length with hi | hi
    · rw [List.getElem?_append_left hi] at hy; exact hx i y hy
    · rw [List.getElem?_append_right hi] at hy
      have hi0 : i - xs.length = 0 := by
        rcases Nat.eq_zero_or_pos (i - xs.length) with h0 | h0
        · exact h0
        · rw [List.getElem?_eq_none (by simp; omega)] at hy; cases hy
      rw [hi0] at hy
      simp at hy
      subst hy
      rw [show i = n by omega]
      exact hp

def Opens {α : Type} (P : Program) (t : TypeId) (d : Kd α) (ok : α → Prop) : Prop :=
  ∀ (H : Type) (enc : TypeId × Value → H) (w : World) (fuel : Nat) (cs : List Value) (y : DataW H × List MemPlace),
    DataW.trod enc P w 0 (fun _ => true) true fuel t cs = some y → ∃ x, d.K w x cs ∧ ok x

section
variable {P : Program} {t e : TypeId}
theorem Opens.int {k : IntKind} (ht : P.underlying t = some (.int k)) : Opens P t (Kd.int k) (fun n => (Lit.int k n).wf = true) := by
  intro H enc w fuel cs y h
  obtain ⟨n, rfl, _, hw⟩ := DataW.trod_int ht h
  exact ⟨n, rfl, hw⟩
theorem Opens.bool (ht : P.underlying t = some .bool) : Opens P t Kd.bool (fun _ => True) := by
  intro H enc w fuel cs y h
  obtain ⟨b, rfl, _⟩ := DataW.trod_bool ht h
  exact ⟨b, rfl, trivial⟩
theorem Opens.string (ht : P.underlying t = some .string) : Opens P t Kd.string (fun s => s.size ≤ maxLen) := by
  intro H enc w fuel cs y h
  obtain ⟨s, rfl, _, hs⟩ := DataW.trod_string ht h
  exact ⟨s, rfl, hs⟩
theorem Opens.slice {α : Type} {d : Kd α} {ok : α → Prop} (ht : P.underlying t = some (.slice e)) (he : Opens P e d ok) (hc : P.cellsOf e = d.sz) : Opens P t (Kd.slice e d) (fun xs => xs.length ≤ maxLen ∧ ∀ x ∈ xs, ok x) := by
  intro H enc w fuel cs y h
  rcases Go.Deep.open_slice ht h with ⟨rfl, _⟩ | ⟨a, len, cap, m, n, D, Pl, rfl, _, hl, hm, hmm, _, hx⟩
  · exact ⟨[], ⟨none, 0, rfl, Nat.le_refl _, rfl, by simp, fun h => absurd h (by simp)⟩, by unfold maxLen; simp⟩
  · obtain ⟨xs, hxl, hxs⟩ := list_of (p := fun i x => (∃ cs', w.cells? 0 (a.add (i * d.sz)) d.sz = some cs' ∧ d.K w x cs') ∧ ok x) len (fun i hi => by
      obtain ⟨cs', h1, h2⟩ := hx i (by rw [hmm]; simp; omega)
      obtain ⟨x, hK, ho⟩ := he H enc w n cs' _ h2
      exact ⟨x, ⟨cs', by rw [← hc]; exact h1, hK⟩, ho⟩)
    refine ⟨xs, ⟨some a, cap, by rw [hxl], by omega, rfl, by unfold maxLen at hm; omega, fun _ => ⟨a, rfl, fun j p hj => ?_⟩⟩, by omega, fun x hxm => ?_⟩
    · obtain ⟨⟨cs', h1, hK⟩, _⟩ := hxs j p hj
      obtain ⟨_, hlen, hcell⟩ := World.cells?_some h1
      refine ⟨cs', hlen, hK, fun i u hu => ?_⟩
      have hi : i < d.sz := by have := (List.getElem?_eq_some_iff.1 hu).1; omega
      have := hcell i hi
      rw [hu] at this
      rw [← this]
      congr 1
      unfold Addr.add
      by_cases h0 : j * d.sz = 0
      · simp [h0]
      · by_cases h1 : i = 0
        · simp [h0, h1]
        · simp [h0, h1, Nat.add_assoc]
    · obtain ⟨i, hi⟩ := List.getElem?_of_mem hxm
      exact (hxs i x hi).2
theorem Opens.mono {α : Type} {d : Kd α} {ok ok' : α → Prop} (h : Opens P t d ok) (hm : ∀ x, ok x → ok' x) : Opens P t d ok' := by
  intro H enc w fuel cs y hy
  obtain ⟨x, h1, h2⟩ := h H enc w fuel cs y hy
  exact ⟨x, h1, hm x h2⟩
def OpensF {α : Type} (P : Program) (fs : List Field) (off : Nat) (d : Kd α) (ok : α → Prop) : Prop :=
  ∀ (H : Type) (enc : TypeId × Value → H) (w : World) (cs : List Value), cs.length = off + d.sz →
    (∀ f ∈ fs, ∃ n y, DataW.trod enc P w 0 (fun _ => true) true n f.type ((cs.drop f.offset).take (P.cellsOf f.type)) = some y) → ∃ x, d.K w x (cs.drop off) ∧ ok x
theorem OpensF.one {α : Type} {f : Field} {off : Nat} {d : Kd α} {ok : α → Prop} (h : Opens P f.type d ok) (ho : f.offset = off) (hc : P.cellsOf f.type = d.sz) : OpensF P [f] off d ok := by
  intro H enc w cs hl hf
  obtain ⟨n, y, hy⟩ := hf f (by simp)
  obtain ⟨x, hx, hok⟩ := h H enc w n _ y hy
  rw [ho, hc, List.take_of_length_le (by simp; omega)] at hx
  exact ⟨x, hx, hok⟩
theorem OpensF.cons {α β : Type} {f : Field} {fs : List Field} {off : Nat} {d : Kd α} {d' : Kd β} {ok : α → Prop} {ok' : β → Prop} (h : Opens P f.type d ok) (ho : f.offset = off) (hc : P.cellsOf f.type = d.sz)
    (hr : OpensF P fs (off + d.sz) d' ok') : OpensF P (f :: fs) off (Kd.pair d d') (fun x => ok x.1 ∧ ok' x.2) := by
  intro H enc w cs hl hf
  have hl' : cs.length = off + (d.sz + d'.sz) := hl
  obtain ⟨n, y, hy⟩ := hf f (by simp)
  obtain ⟨x, hx, hok⟩ := h H enc w n _ y hy
  obtain ⟨x', hx', hok'⟩ := hr H enc w cs (by omega) (fun g hg => hf g (by simp [hg]))
  rw [ho, hc] at hx
  refine ⟨(x, x'), ⟨_, _, ?_, hx, hx'⟩, hok, hok'⟩
  rw [← List.drop_drop, List.take_append_drop]
theorem Opens.struct {α β : Type} {fs : Array Field} {d : Kd α} {ok : α → Prop} (ht : P.underlying t = some (.struct fs)) (hf : OpensF P fs.toList 0 d ok) (hc : P.cellsOf t = d.sz) (f : β → α) (g : α → β) (hg : ∀ y, f (g y) = y) : Opens P t (Kd.iso d f) (fun x => ok (f x)) := by
  intro H enc w fuel cs y h
  obtain ⟨xs, n, _, _, hl, hlen, hfs⟩ := DataW.trod_struct ht h
  obtain ⟨x, hx, hok⟩ := hf H enc w cs (by omega) (fun q hq => by
    obtain ⟨i, hi⟩ := List.getElem?_of_mem hq
    have hi' : fs[i]? = some q := by rw [← Array.getElem?_toList]; exact hi
    have hlt : i < xs.length := by rw [hlen]; exact (Array.getElem?_eq_some_iff.1 hi').1
    have := hfs i q hi'
    rw [List.getElem?_eq_getElem hlt] at this
    exact ⟨n, _, this⟩)
  rw [List.drop_zero] at hx
  exact ⟨g x, by show d.K w (f (g x)) cs; rw [hg]; exact hx, by show ok (f (g x)); rw [hg]; exact hok⟩
theorem one_cell {α : Type} {enc : α → Value} {h1 : ∀ x, (enc x).oneCell' = true} {w : World} {x : α} {cs : List Value} (h : (Kd.scalar enc h1).K w x cs) : cs = [enc x] := h
theorem slice_cell {α : Type} {d : Kd α} {w : World} {xs : List α} {cs : List Value} (h : (Kd.slice e d).K w xs cs) : ∃ A c, cs = [.slice A xs.length c] ∧ d.C w A xs.length xs ∧ xs.length ≤ c := by
  obtain ⟨A, c, h0, h1, h2⟩ := h
  exact ⟨A, c, h0, h2, h1⟩
theorem opening_row {α : Type} {d : Kd α} {ok : List α → Prop} {H : Type} {enc : TypeId × Value → H} {w : World} {r : Reach} {b0 : Nat} {v : Value} {dd : DataW H} {ps : List MemPlace} (ht : P.underlying t = some (.slice e)) (ho : Opens P t (Kd.slice e d) ok)
    (hv : Value.okWide P w r b0 t v) (h : DataW.Trod enc P w 0 (fun _ => true) true t v dd ps) : ∃ A c xs, v = .slice A xs.length c ∧ d.C w A xs.length xs ∧ xs.length ≤ c ∧ ok xs := by
  obtain ⟨a, len, cap, rfl⟩ := okWide_slice ht hv
  obtain ⟨fuel, hf⟩ := h
  obtain ⟨xs, hK, hok⟩ := ho H enc w fuel _ _ hf
  obtain ⟨A, c, he, hC, hl⟩ := slice_cell hK
  simp [Value.cells] at he
  obtain ⟨rfl, rfl, rfl⟩ := he
  exact ⟨a, cap, xs, rfl, hC, hl, hok⟩
def OpensW {α : Type} (P : Program) (t : TypeId) (d : Kd α) (ok : α → Prop) : Prop :=
  ∀ (H : Type) (enc : TypeId × Value → H) (w : World) (fuel : Nat) (cs : List Value) (y : DataW H × List MemPlace),
    DataW.trod enc P w 0 (fun _ => true) true fuel t cs = some y → (∀ n ∈ y.1.weights P t, n ≤ reachBytes) → ∃ x, d.K w x cs ∧ ok x
theorem OpensW.of {α : Type} {d : Kd α} {ok : α → Prop} (h : Opens P t d ok) : OpensW P t d ok := fun H enc w fuel cs y hy _ => h H enc w fuel cs y hy
theorem weights_mem_all {H : Type} : ∀ {ds : List (DataW H)} {d : DataW H}, d ∈ ds → ∀ n ∈ d.weights P e, n ∈ DataW.weightsAll P e ds
  | d0 :: ds, d, hd, n, hn => by
    simp only [DataW.weightsAll, List.mem_append]
    rcases List.mem_cons.1 hd with rfl | hd
    · exact Or.inl hn
    · exact Or.inr (weights_mem_all hd n hn)
theorem OpensW.slice {α : Type} {d : Kd α} {ok : α → Prop} {B : Nat} (ht : P.underlying t = some (.slice e)) (he : OpensW P e d ok) (hc : P.cellsOf e = d.sz) (hB : P.bytesOf e = B) : OpensW P t (Kd.slice e d) (fun xs => (xs.length ≤ maxLen ∧ ∀ x ∈ xs, ok x) ∧ xs.length * B ≤ 140737488351232) := by
  intro H enc w fuel cs y h hW
  rcases Go.Deep.open_slice ht h with ⟨rfl, _⟩ | ⟨a, len, cap, m, n, D, Pl, rfl, _, hl, hm, hmm, rfl, hx⟩
  · exact ⟨[], ⟨none, 0, rfl, Nat.le_refl _, rfl, by simp, fun h => absurd h (by simp)⟩, ⟨by unfold maxLen; simp, by simp⟩⟩
  · have hw0 : (len + (m - len)) * P.bytesOf e ≤ reachBytes := hW _ (by simp [DataW.weights, ht])
    have hwi : ∀ i, i < len → ∀ q ∈ (D i).weights P e, q ≤ reachBytes := fun i hi q hq => hW q (by
      simp only [DataW.weights, ht, List.mem_cons, List.mem_append]
      exact Or.inr (Or.inl (weights_mem_all (List.mem_map.2 ⟨i, List.mem_range.2 hi, rfl⟩) q hq)))
    obtain ⟨xs, hxl, hxs⟩ := list_of (p := fun i x => (∃ cs', w.cells? 0 (a.add (i * d.sz)) d.sz = some cs' ∧ d.K w x cs') ∧ ok x) len (fun i hi => by
      obtain ⟨cs', h1, h2⟩ := hx i (by rw [hmm]; simp; omega)
      obtain ⟨x, hK, ho⟩ := he H enc w n cs' _ h2 (hwi i hi)
      exact ⟨x, ⟨cs', by rw [← hc]; exact h1, hK⟩, ho⟩)
    refine ⟨xs, ⟨some a, cap, by rw [hxl], by omega, rfl, by unfold maxLen at hm; omega, fun _ => ⟨a, rfl, fun j p hj => ?_⟩⟩, ⟨by omega, fun x hxm => ?_⟩, ?_⟩
    · obtain ⟨⟨cs', h1, hK⟩, _⟩ := hxs j p hj
      obtain ⟨_, hlen, hcell⟩ := World.cells?_some h1
      refine ⟨cs', hlen, hK, fun i u hu => ?_⟩
      have hi : i < d.sz := by have := (List.getElem?_eq_some_iff.1 hu).1; omega
      have := hcell i hi
      rw [hu] at this
      rw [← this]
      congr 1
      unfold Addr.add
      by_cases h0 : j * d.sz = 0
      · simp [h0]
      · by_cases h1 : i = 0
        · simp [h0, h1]
        · simp [h0, h1, Nat.add_assoc]
    · obtain ⟨i, hi⟩ := List.getElem?_of_mem hxm
      exact (hxs i x hi).2
    · rw [hB] at hw0
      exact Nat.le_trans (Nat.mul_le_mul_right _ (by omega)) (Nat.le_trans hw0 (by decide))
theorem row_weight {H : Type} {enc : TypeId × Value → H} {w : World} {a : Option Addr} {len cap : Nat} {d : DataW H} {ps : List MemPlace} {ts : List TypeId} {ds : List (DataW H)} {j : Nat}
    (hsz : (DataW.weightsEach P ts ds).all (· ≤ reachBytes) = true) (ht : ts[j]? = some t) (hd : ds[j]? = some d) (hu : P.underlying t = some (.slice e)) {B : Nat} (hB : P.bytesOf e = B)
    (h : DataW.Trod enc P w 0 (fun _ => true) true t (.slice a len cap) d ps) : len * B ≤ 140737488351232 := by
  obtain ⟨fuel, hf⟩ := h
  rcases Go.Deep.open_slice hu hf with ⟨hcs, _⟩ | ⟨x, l, c, m, n, D, Pl, hcs, _, hl, hm, hmm, hx, _⟩
  · simp [Value.cells] at hcs
    obtain ⟨rfl, rfl, rfl⟩ := hcs
    simp
  · simp [Value.cells] at hcs
    obtain ⟨rfl, rfl, rfl⟩ := hcs
    obtain ⟨hx, _⟩ := Prod.mk.inj hx
    subst hx
    have z := sized_slice hsz ht hd hu
    rw [hB] at z
    exact Nat.le_trans (Nat.mul_le_mul_right _ (by simp)) z
theorem opening_agg {α : Type} {d : Kd α} {ok : α → Prop} {fs : Array Field} {H : Type} {enc : TypeId × Value → H} {w : World} {r : Reach} {b0 : Nat} {v : Value} {dd : DataW H} {ps : List MemPlace} (ht : P.underlying t = some (.struct fs)) (ho : Opens P t d ok)
    (hv : Value.okWide P w r b0 t v) (h : DataW.Trod enc P w 0 (fun _ => true) true t v dd ps) : ∃ x cs, v = .agg ⟨cs⟩ ∧ d.K w x cs ∧ ok x := by
  obtain ⟨cs, rfl, _⟩ := okWide_struct ht hv
  obtain ⟨fuel, hf⟩ := h
  obtain ⟨x, hK, hok⟩ := ho H enc w fuel _ _ hf
  exact ⟨x, cs.toList, rfl, by simpa [Value.cells] using hK, hok⟩
end
end Go.Proofs.Ytkihlcmjjoiccaa.Opening
