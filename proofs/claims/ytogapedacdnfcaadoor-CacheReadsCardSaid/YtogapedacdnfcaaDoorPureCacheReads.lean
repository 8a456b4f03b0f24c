/- The pure statement of CacheReads: the chapter's example works; the rest is told by the functions themselves (EntT, RefEnt, RefRd). -/
import Derived.Test.YtogapedacdnfcaaDoorHReadsL
namespace Go.Proofs.YtogapedacdnfcaaDoor.Pure
open Go.Proofs.YtogapedacdnfcaaDoor.X
theorem CacheReads : colophonlaw25_CacheReads.Pure := works_f
end Go.Proofs.YtogapedacdnfcaaDoor.Pure
