/- The pure statement of RecordTurns: the example. -/
import Derived.Test.YtoehjojipmeagaaDoorHTurns
namespace Go.Proofs.YtoehjojipmeagaaDoor.Pure
open Go.Proofs.YtoehjojipmeagaaDoor.X
theorem RecordTurns : colophonlaw18_RecordTurns.Pure := rfl
end Go.Proofs.YtoehjojipmeagaaDoor.Pure
