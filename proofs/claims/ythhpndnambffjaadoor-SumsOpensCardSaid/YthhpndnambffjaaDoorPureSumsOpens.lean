/- The pure statement of SumsOpens. -/
import Derived.Test.YthhpndnambffjaaDoorHOpens
namespace Go.Proofs.YthhpndnambffjaaDoor.Pure
open Go.RowKit Go.Proofs.YthhpndnambffjaaDoor.X Go.Proofs.YthhpndnambffjaaDoor.G Go.Proofs.YthhpndnambffjaaDoor.T Go.Proofs.YthhpndnambffjaaDoorW.PrintWords Go.Proofs.YthhpndnambffjaaDoorW.PrintLast Go.Proofs.YthhpndnambffjaaDoorW.PrintMore

theorem SumsOpens : colophonlaw02_SumsOpens.Pure := fun l hb hl => ⟨Seal_f l (by omega), (S.refSeal l hl).rounds, sums_Open_RO l (by omega)⟩
end Go.Proofs.YthhpndnambffjaaDoor.Pure
