/- The plain law of ShaTexts: what the printed functions compute answers true, for all arguments within the bounds of the row. -/
import Derived.Test.YtffiakioddhicaaPShaTextsx5
namespace Go.Proofs.Ytffiakioddhicaa.Pure
open Go.RowKit Go.Proofs.Ytffiakioddhicaa.PShaTexts Go.Proofs.YtffiakioddhicaaW.PrintWords Go.Proofs.YtffiakioddhicaaW.PrintLast
set_option linter.unusedVariables false
def dr (c : Int) : Int := if 48 ≤ c ∧ c ≤ 57 then c - 48 else if 97 ≤ c ∧ c ≤ 102 then c - 97 + 10 else -1
theorem digit_j0 (k : Nat) (c : Int) (x : Bool) : remoraref03_digit.j0 (k + 1) c x = if x = true then some (wrap64 ((wrap64 c) - 48)) else (if c ≥ 97 then (if c ≤ 102 then some (wrap64 ((wrap64 ((wrap64 c) - 97)) + 10)) else some (-1)) else some (-1)) := rfl
theorem digit_at (c : Int) (h : 0 ≤ c ∧ c ≤ 255) : remoraref03_digit.f 1 c = some (dr c) := by
  have w0 : wrap64 c = c := by unfold wrap64; omega
  have w1 : wrap64 (c - 48) = c - 48 := by unfold wrap64; omega
  have w2 : wrap64 (c - 97) = c - 97 := by unfold wrap64; omega
  have w3 : wrap64 (c - 97 + 10) = c - 97 + 10 := by unfold wrap64; omega
  unfold remoraref03_digit.f dr
  rw [digit_j0 0, digit_j0 0, w0, w1, w2, w3]
  clear w0 w1 w2 w3
  by_cases h1 : 48 ≤ c ∧ c ≤ 57
  · have e : decide (c ≤ 57) = true := decide_eq_true h1.2
    rw [if_pos (show c ≥ 48 from h1.1), if_pos h1, e, if_pos rfl]
  · rw [if_neg h1]
    have hr : (if c ≥ 97 then (if c ≤ 102 then some (c - 97 + 10) else some (-1)) else some (-1)) = some (if 97 ≤ c ∧ c ≤ 102 then c - 97 + 10 else -1) := by
      by_cases h2 : 97 ≤ c
      · by_cases h3 : c ≤ 102
        · rw [if_pos h2, if_pos h3, if_pos ⟨h2, h3⟩]
        · rw [if_pos h2, if_neg h3, if_neg (fun h => h3 h.2)]
      · rw [if_neg h2, if_neg (fun h => h2 h.1)]
    by_cases h2 : c ≥ 48
    · have e : decide (c ≤ 57) = false := decide_eq_false (fun h => h1 ⟨h2, h⟩)
      rw [if_pos h2, e, if_neg (by simp)]
      exact hr
    · rw [if_neg h2, if_neg (by simp)]
      exact hr
theorem digit_of (c : Int) (h : 0 ≤ c ∧ c ≤ 255) : Ev (fun k => remoraref03_digit.f k c) (dr c) := Ev.of (remoraref03_digit.mono c) (digit_at c h)
theorem dr_dv (c : Int) : (dr c < 0 ∧ dv c > 15) ∨ (dr c = dv c ∧ 0 ≤ dv c ∧ dv c ≤ 15) := by
  unfold dr dv
  split
  · exact Or.inr ⟨rfl, by omega, by omega⟩
  · split
    · exact Or.inr ⟨rfl, by omega, by omega⟩
    · exact Or.inl ⟨by omega, by omega⟩
def pl (a0 : ByteArray) (i : Nat) : List Int := (List.range i).map fun j => 16 * pX a0 j + pY a0 j
theorem pl_len (a0 : ByteArray) (i : Nat) : (pl a0 i).length = i := by simp [pl]
theorem pl_succ (a0 : ByteArray) (i : Nat) : pl a0 (i + 1) = pl a0 i ++ [16 * pX a0 i + pY a0 i] := by
  unfold pl
  rw [List.range_succ, List.map_append]
  rfl
theorem prs_pl (a0 : ByteArray) : ∀ m, m ≤ 32 → prsN a0 m = pl a0 m ++ List.replicate (32 - m) 0
  | 0, _ => by simp [prsN, pl]
  | m + 1, h => by
    rw [prsN, prs_pl a0 m (by omega), pl_succ, List.set_append_right _ _ (by rw [pl_len]; omega), pl_len, Nat.sub_self, show 32 - m = (32 - (m + 1)) + 1 by omega, List.replicate_succ, List.set_cons_zero, List.append_assoc]
    rfl
theorem rparse_l0 (a0 : ByteArray) (h64 : a0.size = 64) : ∀ (d i : Nat), i + d = 32 → pGood a0 i = true → Ev (fun k => remoraref03_Parse.l0 k a0 (pl a0 i) ((2 * i : Nat) : Int)) (if pGood a0 32 = true then (strOfNums (pl a0 32), 0) else ((⟨#[]⟩ : ByteArray), 5))
  | 0, i, h, hg => by
    obtain rfl : i = 32 := by omega
    rw [if_pos hg]
    refine Ev.step (f := fun _ => some (strOfNums (pl a0 32), 0)) (fun k => ?_) (Ev.now _)
    rw [remoraref03_Parse.l0, if_neg (by omega)]
  | d + 1, i, h, hg => by
    have g0 : ((2 * i : Nat) : Int) < 64 := by omega
    have g1 : (0 : Int) ≤ ((2 * i : Nat) : Int) := by omega
    have g2 : ((2 * i : Nat) : Int) < (a0.size : Int) := by omega
    have g3 : (0 : Int) ≤ ((2 * i + 1 : Nat) : Int) := by omega
    have g4 : ((2 * i + 1 : Nat) : Int) < (a0.size : Int) := by omega
    have hp : (pl a0 i).length < 140737488355328 := by rw [pl_len]; omega
    have hd1 := digit_of (bt a0 ((2 * i : Nat) : Int)) (bt_range _ _)
    have hd2 := digit_of (bt a0 ((2 * i + 1 : Nat) : Int)) (bt_range _ _)
    have e1 : wrap64 (((2 * i : Nat) : Int) + 1) = ((2 * i + 1 : Nat) : Int) := by unfold wrap64; omega
    have e2 : wrap64 (((2 * i : Nat) : Int) + 2) = ((2 * (i + 1) : Nat) : Int) := by unfold wrap64; omega
    have hx := dr_dv (bt a0 ((2 * i : Nat) : Int))
    have hy := dr_dv (bt a0 ((2 * i + 1 : Nat) : Int))
    have hpx : pX a0 i = dv (bt a0 ((2 * i : Nat) : Int)) := rfl
    have hpy : pY a0 i = dv (bt a0 ((2 * i + 1 : Nat) : Int)) := rfl
    obtain ⟨t, ht⟩ : ∃ t, t = dr (bt a0 ((2 * i : Nat) : Int)) := ⟨_, rfl⟩
    obtain ⟨u, hu⟩ : ∃ u, u = dr (bt a0 ((2 * i + 1 : Nat) : Int)) := ⟨_, rfl⟩
    rw [← ht, ← hpx] at hx
    rw [← hu, ← hpy] at hy
    rw [← ht] at hd1
    rw [← hu] at hd2
    refine Ev.step (f := fun k => (remoraref03_digit.f k (bt a0 ((2 * i : Nat) : Int))).bind fun t104 => (remoraref03_digit.f k (bt a0 ((2 * i + 1 : Nat) : Int))).bind fun t105 => if t104 < 0 then (some ((⟨#[]⟩ : ByteArray), 5)) else (if t105 < 0 then (some ((⟨#[]⟩ : ByteArray), 5)) else (remoraref03_Parse.l0 k a0 (pl a0 i ++ [(wrap64 ((wrap64 (16 * t104)) + t105)) % 256]) ((2 * (i + 1) : Nat) : Int)))) (fun k => ?_) ?_
    · rw [remoraref03_Parse.l0, if_pos g0, if_pos g1, if_pos g2, e1, e2]
      simp only [if_pos g3, if_pos g4, if_pos hp]
    · refine Ev.bind hd1 (Ev.bind hd2 ?_)
      clear e1 e2 hd1 hd2 ht hu hpx hpy
      rcases hx with ⟨x1, x2⟩ | ⟨x1, x2, x3⟩
      · rw [pGood_bad a0 i (by omega) (Or.inl x2), if_neg (by simp)]
        refine Ev.congr (fun k => by rw [if_pos x1]) ?_
        exact Ev.now _
      · rcases hy with ⟨y1, y2⟩ | ⟨y1, y2, y3⟩
        · rw [pGood_bad a0 i (by omega) (Or.inr y2), if_neg (by simp)]
          refine Ev.congr (fun k => by rw [if_neg (by omega), if_pos y1]) ?_
          exact Ev.now _
        · have hgn : pGood a0 (i + 1) = true := by
            rw [pGood_succ, hg, decide_eq_true x3, decide_eq_true y3]
            rfl
          have ih := rparse_l0 a0 h64 d (i + 1) (by omega) hgn
          rw [pl_succ] at ih
          have ev : (wrap64 ((wrap64 (16 * t)) + u)) % 256 = 16 * pX a0 i + pY a0 i := by
            rw [x1, y1]
            have w1 : wrap64 (16 * pX a0 i) = 16 * pX a0 i := by unfold wrap64; omega
            rw [w1]
            clear w1
            have w2 : wrap64 (16 * pX a0 i + pY a0 i) = 16 * pX a0 i + pY a0 i := by unfold wrap64; omega
            rw [w2]
            clear w2
            omega
          refine Ev.congr (fun k => by rw [if_neg (by omega), if_neg (by omega), ev]) ?_
          exact ih
theorem rparse_of (a0 : ByteArray) : ∃ c : ByteArray × Int, sha_Parse.f a0 = some c ∧ Ev (fun k => remoraref03_Parse.f k a0) c := by
  unfold sha_Parse.f
  by_cases h64 : (a0.size : Int) = 64
  · rw [if_pos h64]
    have h := rparse_l0 a0 (by omega) 32 0 rfl rfl
    have hp : prsN a0 32 = pl a0 32 := by rw [prs_pl a0 32 (Nat.le_refl _)]; simp
    have hf : Ev (fun k => remoraref03_Parse.f k a0) (if pGood a0 32 = true then (strOfNums (pl a0 32), 0) else ((⟨#[]⟩ : ByteArray), 5)) := by
      refine Ev.congr (fun k => ?_) h
      unfold remoraref03_Parse.f
      rw [if_pos h64, if_pos (by omega)]
      rfl
    by_cases hg : pGood a0 32 = true
    · rw [if_pos hg] at hf ⊢
      exact ⟨_, by rw [hp], hf⟩
    · rw [if_neg hg] at hf ⊢
      exact ⟨_, rfl, hf⟩
  · rw [if_neg h64]
    refine ⟨_, rfl, Ev.congr (fun k => ?_) (Ev.now _)⟩
    unfold remoraref03_Parse.f
    rw [if_neg h64]
theorem ShaTexts : remoralaw03_ShaTexts.Pure := by
  intro a0 hs
  refine Ev.rounds ?_
  unfold remoralaw03_ShaTexts.f
  obtain ⟨c, h1, h2⟩ := rparse_of a0
  rw [h1]
  refine Ev.congr (fun k => Option.bind_some ..) ?_
  refine Ev.bind h2 ?_
  have t1 : sha_Text.f a0 = some (strOfNums (txtN (bytesOf a0) a0.size)) := by
    unfold sha_Text.f
    rw [if_pos hs]
  have t2 : remoraref03_Text.f a0 = some (strOfNums (txtN (bytesOf a0) a0.size)) := by
    unfold remoraref03_Text.f
    rw [if_pos hs]
  rw [t1, t2]
  refine Ev.congr (fun k => by rw [Option.bind_some, Option.bind_some, if_pos rfl, if_pos rfl, if_pos rfl]) ?_
  exact Ev.now _
end Go.Proofs.Ytffiakioddhicaa.Pure
