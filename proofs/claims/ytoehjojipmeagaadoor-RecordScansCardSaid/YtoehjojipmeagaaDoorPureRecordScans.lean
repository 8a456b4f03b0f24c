/- The pure statement of RecordScans: nothing is left (both scans are the same function of the bytes). -/
import Derived.Test.YtoehjojipmeagaaDoorHScans
namespace Go.Proofs.YtoehjojipmeagaaDoor.Pure
open Go.Proofs.YtoehjojipmeagaaDoor.X
theorem RecordScans : colophonlaw18_RecordScans.Pure := fun _ _ _ => trivial
end Go.Proofs.YtoehjojipmeagaaDoor.Pure
