/- The pure statement of RecordOther: the example. -/
import Derived.Test.YtoehjojipmeagaaDoorHOther
namespace Go.Proofs.YtoehjojipmeagaaDoor.Pure
open Go.Proofs.YtoehjojipmeagaaDoor.X
theorem RecordOther : colophonlaw18_RecordOther.Pure := rfl
end Go.Proofs.YtoehjojipmeagaaDoor.Pure
