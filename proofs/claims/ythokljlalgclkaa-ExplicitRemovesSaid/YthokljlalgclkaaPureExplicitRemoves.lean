import Derived.Test.YthokljlalgclkaaX3
import Derived.Test.YthokljlalgclkaaWorksT
namespace Go.Proofs.Ythokljlalgclkaa.Pure
open Go.RowKit Go.Proofs.Ythokljlalgclkaa.X Go.Proofs.Ythokljlalgclkaa.Exp Go.Proofs.YthokljlalgclkaaW.PrintWords Go.Proofs.YthokljlalgclkaaW.PrintLast

theorem ExplicitRemoves : colophonlaw07_ExplicitRemoves.Pure := by
  intro a0 _
  refine Ev.rounds (g := fun k => colophonlaw07_ExplicitRemoves.f k a0) ?_
  have h1 : ∃ b, explicit_Removed.f a0 = some b ∧ colophonref07_Removed.f a0 = some b := by
    unfold explicit_Removed.f colophonref07_Removed.f
    repeat' split
    all_goals first | exact ⟨_, rfl, rfl⟩ | skip
    · rename_i h; exact ⟨_, rfl, by rw [h]; rfl⟩
    · rename_i h; exact ⟨_, rfl, by rw [beq_eq_false_iff_ne.2 h]⟩
  obtain ⟨b, e1, e2⟩ := h1
  have e3 : explicit_Removed.f 10 = some true := by decide
  simp only [colophonlaw07_ExplicitRemoves.f, e1, e2, e3, Option.bind_some, beq_self_eq_true, if_true]
  exact Ev.bind works_ev (Ev.now true)
end Go.Proofs.Ythokljlalgclkaa.Pure
