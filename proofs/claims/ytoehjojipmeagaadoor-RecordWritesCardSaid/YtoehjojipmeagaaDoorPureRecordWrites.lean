/- The pure statement of RecordWrites: a record's bytes are the document's, for every body. -/
import Derived.Test.YtoehjojipmeagaaDoorX3
import Derived.Test.YtoehjojipmeagaaDoorRecT
namespace Go.Proofs.YtoehjojipmeagaaDoor.Pure
open Go.RowKit Go.Proofs.YtoehjojipmeagaaDoor.X Go.Proofs.YtoehjojipmeagaaDoor.G Go.Proofs.YtoehjojipmeagaaDoor.T Go.Proofs.YtoehjojipmeagaaDoor.E Go.Proofs.YtoehjojipmeagaaDoor.S Go.Proofs.YtoehjojipmeagaaDoorW.PrintWords Go.Proofs.YtoehjojipmeagaaDoorW.PrintLast Go.Proofs.YtoehjojipmeagaaDoorW.PrintMore

theorem RecordWrites : colophonlaw18_RecordWrites.Pure := by
  intro a0 a1 l a3 _ _ hm hb _ _
  obtain ⟨s, hs⟩ := Size_some a3
  refine Ev.rounds (g := fun k => colophonlaw18_RecordWrites.f k a0 a1 l a3) ?_
  simp only [colophonlaw18_RecordWrites.f, Option.bind_some, List.length_nil, Nat.zero_add, List.nil_append, if_pos (show l.length < 140737488355328 by omega), Bytes_f]
  refine Ev.bind (refBytes_ev a0 a1 l) ?_
  simp only [if_true, Size_eq, hs, Option.bind_some, works_f]
  exact Ev.now _
end Go.Proofs.YtoehjojipmeagaaDoor.Pure
