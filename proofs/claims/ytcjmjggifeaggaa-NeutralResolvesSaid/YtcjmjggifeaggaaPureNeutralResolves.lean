/- The pure statement of NeutralResolves: the sides are the document's, for every list of types; of more than 500 nothing is said. -/
import Derived.Test.YtcjmjggifeaggaaQNeutralResolves
import Derived.Test.YtcjmjggifeaggaaNeuT
namespace Go.Proofs.Ytcjmjggifeaggaa.Pure
open Go.RowKit Go.Proofs.Ytcjmjggifeaggaa.X Go.Proofs.Ytcjmjggifeaggaa.G Go.Proofs.YtcjmjggifeaggaaW.PrintWords Go.Proofs.YtcjmjggifeaggaaW.PrintLast Go.Proofs.YtcjmjggifeaggaaW.PrintMore
set_option linter.unusedVariables false
set_option linter.unusedSimpArgs false

theorem NR_length (l : List Int) (a1 a2 a3 : Int) : (NR l a1 a2 a3).1.length ≤ l.length := by
  unfold NR
  split
  · simp
  split
  · rw [res_length]; exact Nat.le_refl _
  · simp
theorem NeutralResolves : colophonlaw11_NeutralResolves.Pure := by
  intro l a1 a2 a3 hm hb hw h1 h2 h3
  refine Ev.rounds (g := fun k => colophonlaw11_NeutralResolves.f k l a1 a2 a3) ?_
  simp only [colophonlaw11_NeutralResolves.f]
  by_cases h : (l.length : Int) > 500
  · simp only [if_pos h]
    exact Ev.bind works_ev (Ev.now _)
  · have hl : l.length < 17592186044416 := by omega
    simp only [if_neg h, Option.bind_some, List.nil_append, if_pos (show ([] : List Int).length + l.length < 17592186044416 by simp; omega), Resolve_f l a1 a2 a3 hl]
    refine Ev.bind (ref_ev l a1 a2 a3 hl) ?_
    refine Ev.bind (Ints_same _ (by have := NR_length l a1 a2 a3; omega)) ?_
    simp only [if_true]
    refine Ev.bind (Ints_same l (by omega)) ?_
    simp only [if_true]
    exact Ev.bind works_ev (Ev.now _)
end Go.Proofs.Ytcjmjggifeaggaa.Pure
