/- The pure statement of ChunkOrder: the example, and what the program makes of any chunks. -/
import Derived.Test.YtkocgfcoebodkaaDoorHOrder
namespace Go.Proofs.YtkocgfcoebodkaaDoor.Pure
open Go.RowKit Go.Proofs.YtkocgfcoebodkaaDoor.X Go.Proofs.YtkocgfcoebodkaaDoor.G Go.Proofs.YtkocgfcoebodkaaDoor.C Go.Proofs.YtkocgfcoebodkaaDoorW.PrintWords Go.Proofs.YtkocgfcoebodkaaDoorW.PrintLast Go.Proofs.YtkocgfcoebodkaaDoorW.PrintMore

theorem ChunkOrder : colophonlaw20_ChunkOrder.Pure := ⟨Ev.rounds C.works, fun l t size hl => Ev.rounds (join_f l t size hl)⟩
end Go.Proofs.YtkocgfcoebodkaaDoor.Pure
