/- The pure statement of NeutralLevels: the levels are the document's, for every list of types. -/
import Derived.Test.YtcjmjggifeaggaaX2
import Derived.Test.YtcjmjggifeaggaaNeuT
namespace Go.Proofs.Ytcjmjggifeaggaa.Pure
open Go.RowKit Go.Proofs.Ytcjmjggifeaggaa.X Go.Proofs.Ytcjmjggifeaggaa.G Go.Proofs.YtcjmjggifeaggaaW.PrintWords Go.Proofs.YtcjmjggifeaggaaW.PrintLast Go.Proofs.YtcjmjggifeaggaaW.PrintMore
set_option linter.unusedVariables false
set_option linter.unusedSimpArgs false

theorem LV_length (l : List Int) (a : Int) : (LV l a).1.length ≤ l.length := by
  unfold LV
  split
  · simp
  split
  · simp
  · simp
theorem NeutralLevels : colophonlaw11_NeutralLevels.Pure := by
  intro l a hm hb hw h1
  have hl : l.length < 17592186044416 := by omega
  refine Ev.rounds (g := fun k => colophonlaw11_NeutralLevels.f k l a) ?_
  simp only [colophonlaw11_NeutralLevels.f]
  simp only [Option.bind_some, List.nil_append, if_pos (show ([] : List Int).length + l.length < 17592186044416 by simp; omega), Levels_f l a hl, refLevels_f l a hl]
  refine Ev.bind (Ints_same _ (by have := LV_length l a; omega)) ?_
  simp only [if_true]
  refine Ev.bind (Ints_same l (by omega)) ?_
  simp only [if_true]
  exact Ev.bind works_ev (Ev.now _)
end Go.Proofs.Ytcjmjggifeaggaa.Pure
