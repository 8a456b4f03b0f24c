/- The pure statement of RecordTails: the example. -/
import Derived.Test.YtoehjojipmeagaaDoorHTails
namespace Go.Proofs.YtoehjojipmeagaaDoor.Pure
open Go.Proofs.YtoehjojipmeagaaDoor.X
theorem RecordTails : colophonlaw18_RecordTails.Pure := rfl
end Go.Proofs.YtoehjojipmeagaaDoor.Pure
