/- The pure statement of RecordReads: what the program reads at the front of any bytes is what the document reads. -/
import Derived.Test.YtoehjojipmeagaaDoorHReads
namespace Go.Proofs.YtoehjojipmeagaaDoor.Pure
open Go.RowKit Go.Proofs.YtoehjojipmeagaaDoor.X Go.Proofs.YtoehjojipmeagaaDoor.G Go.Proofs.YtoehjojipmeagaaDoorW.PrintWords Go.Proofs.YtoehjojipmeagaaDoorW.PrintLast Go.Proofs.YtoehjojipmeagaaDoorW.PrintMore

theorem RecordReads : colophonlaw18_RecordReads.Pure := fun l a1 a2 hb hl => Ev.rounds (Read_ev l a1 a2 hb hl)
end Go.Proofs.YtoehjojipmeagaaDoor.Pure
