/- What Sequences tells. -/
import Derived.Test.YteldofimjklckaaHWorks
import Derived.Test.YteldofimjklckaaIntsT
namespace Go.Proofs.Yteldofimjklckaa.Run
open Go.RowKit Go.Proofs.Yteldofimjklckaa.X Go.Proofs.Yteldofimjklckaa.G Go.Proofs.Yteldofimjklckaa.Exp Go.Proofs.Yteldofimjklckaa.Iso Go.Proofs.YteldofimjklckaaW.PrintWords Go.Proofs.YteldofimjklckaaW.PrintLast

/-- What Sequences tells of a paragraph. -/
theorem seq_ok (c : List Int) (base : Int) (hl : c.length ≤ 1048576) (hB : base = 0 ∨ base = 1) (hf : formed c) : runs_Sequences.f c base = some ((seqList c base).map toS, 0) := by
  rw [runs_Sequences.f, if_pos hl, if_neg (by omega), if_neg (by rw [(formedB_iff c).2 hf]; simp)]
theorem seq_no (c : List Int) (base : Int) (hl : c.length ≤ 1048576) (h : ¬ ((base = 0 ∨ base = 1) ∧ formed c)) : ∃ e, e ≠ 0 ∧ runs_Sequences.f c base = some ([], e) ∧ explicit_Resolve.f c base = some ([], [], e) := by
  by_cases h1 : base ≠ 0 ∧ base ≠ 1
  · exact ⟨2, by decide, by rw [runs_Sequences.f, if_pos hl, if_pos h1], by rw [explicit_Resolve.f, if_pos (by omega), if_pos h1]⟩
  · have h2 : formedB c = false := by
      cases hf : formedB c with
      | false => rfl
      | true => exact absurd ⟨by omega, (formedB_iff c).1 hf⟩ h
    exact ⟨50, by decide, by rw [runs_Sequences.f, if_pos hl, if_neg h1, if_pos h2], by rw [explicit_Resolve.f, if_pos (by omega), if_neg h1, if_pos h2]⟩
end Go.Proofs.Yteldofimjklckaa.Run
