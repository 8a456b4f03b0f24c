/- The pure statement of ChunkJoins: the example, what the program makes of any chunks, and that a list is the same as itself. -/
import Derived.Test.YtkocgfcoebodkaaDoorHJoins
namespace Go.Proofs.YtkocgfcoebodkaaDoor.Pure
open Go.RowKit Go.Proofs.YtkocgfcoebodkaaDoor.X Go.Proofs.YtkocgfcoebodkaaDoor.G Go.Proofs.YtkocgfcoebodkaaDoor.C Go.Proofs.YtkocgfcoebodkaaDoorW.PrintWords Go.Proofs.YtkocgfcoebodkaaDoorW.PrintLast Go.Proofs.YtkocgfcoebodkaaDoorW.PrintMore

theorem ChunkJoins : colophonlaw20_ChunkJoins.Pure := ⟨Ev.rounds C.works, fun l t size hl => Ev.rounds (join_f l t size hl), fun l hl => Ev.rounds (same_f l hl)⟩
end Go.Proofs.YtkocgfcoebodkaaDoor.Pure
