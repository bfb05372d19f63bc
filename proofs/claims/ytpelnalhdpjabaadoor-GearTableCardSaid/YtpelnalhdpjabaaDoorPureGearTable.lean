/- Each byte's number is as the reference has it, and the program and the reference agree on which params may be, for any byte and params. Conditions: none. -/
import Derived.Test.YtpelnalhdpjabaaDoorPGearTablex2
namespace Go.Proofs.YtpelnalhdpjabaaDoor.Pure
open Go.RowKit Go.Proofs.YtpelnalhdpjabaaDoor.PGearTable Go.Proofs.YtpelnalhdpjabaaDoorW.PrintWords Go.Proofs.YtpelnalhdpjabaaDoorW.PrintLast
theorem wf8 {n : Int} (h : (Lit.int .u8 n).wf = true) : 0 ≤ n ∧ n < 256 := by
  have e0 : IntKind.u8.min = 0 := by decide
  have e1 : IntKind.u8.max = 255 := by decide
  simp [Lit.wf, e0, e1] at h
  omega
theorem tables_same : ∀ i : Fin 256, remoraref11_Table.f (i.val : Int) = gear_Table.f (i.val : Int) := by decide +kernel
theorem GearTable : remoralaw11_GearTable.Pure := by
  intro a0 b c d w0 _ _ _
  obtain ⟨h0, h1⟩ := wf8 w0
  have ht := tables_same ⟨a0.toNat, by omega⟩
  simp only [Int.toNat_of_nonneg h0] at ht
  have h2 : gear_Table.f a0 = some (tabI a0) := by unfold gear_Table.f; rw [if_pos h0, if_pos h1]
  have h3 : remoraref11_Check.f b c d = gear_Check.f b c d := rfl
  have h4 : ∃ e, gear_Check.f b c d = some e := by
    unfold gear_Check.f
    split
    · exact ⟨_, rfl⟩
    split
    · exact ⟨_, rfl⟩
    split
    · exact ⟨_, rfl⟩
    split
    · exact ⟨_, rfl⟩
    split
    · exact ⟨_, rfl⟩
    exact ⟨_, rfl⟩
  obtain ⟨e, h4⟩ := h4
  unfold remoralaw11_GearTable.f
  rw [ht, h2, h3, h4]
  simp [remoralaw11_Of.f, remoralaw11_awake.f, h4]
end Go.Proofs.YtpelnalhdpjabaaDoor.Pure
