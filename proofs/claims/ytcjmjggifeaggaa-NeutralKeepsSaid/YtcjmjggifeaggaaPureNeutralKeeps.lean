/- The pure statement of NeutralKeeps: behind the rules all types have a side; those that had one are as they were; the others are L or R (proved along the walk: HKeeps). -/
import Derived.Test.YtcjmjggifeaggaaQNeutralKeeps
namespace Go.Proofs.Ytcjmjggifeaggaa.Pure
open Go.RowKit Go.Proofs.Ytcjmjggifeaggaa.X Go.Proofs.Ytcjmjggifeaggaa.G Go.Proofs.YtcjmjggifeaggaaW.PrintWords Go.Proofs.YtcjmjggifeaggaaW.PrintLast Go.Proofs.YtcjmjggifeaggaaW.PrintMore

theorem NeutralKeeps : colophonlaw11_NeutralKeeps.Pure := by
  intro l a1 a2 a3 hm hb _ _ _ _
  rw [colophonlaw11_NeutralKeeps.f, if_pos (by omega)]
end Go.Proofs.Ytcjmjggifeaggaa.Pure
