/- The pure statement of RecordCuts: the example. -/
import Derived.Test.YtoehjojipmeagaaDoorHCuts
namespace Go.Proofs.YtoehjojipmeagaaDoor.Pure
open Go.Proofs.YtoehjojipmeagaaDoor.X
theorem RecordCuts : colophonlaw18_RecordCuts.Pure := rfl
end Go.Proofs.YtoehjojipmeagaaDoor.Pure
