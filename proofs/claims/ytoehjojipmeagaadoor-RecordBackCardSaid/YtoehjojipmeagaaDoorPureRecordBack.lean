/- The pure statement of RecordBack: the example. -/
import Derived.Test.YtoehjojipmeagaaDoorHBack
namespace Go.Proofs.YtoehjojipmeagaaDoor.Pure
open Go.Proofs.YtoehjojipmeagaaDoor.X
theorem RecordBack : colophonlaw18_RecordBack.Pure := rfl
end Go.Proofs.YtoehjojipmeagaaDoor.Pure
