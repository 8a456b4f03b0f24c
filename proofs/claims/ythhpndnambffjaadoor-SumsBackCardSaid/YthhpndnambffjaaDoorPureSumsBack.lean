/- The pure statement of SumsBack. -/
import Derived.Test.YthhpndnambffjaaDoorX3
import Derived.Test.YthhpndnambffjaaDoorCrcF
namespace Go.Proofs.YthhpndnambffjaaDoor.Pure
open Go.RowKit Go.Proofs.YthhpndnambffjaaDoor.X Go.Proofs.YthhpndnambffjaaDoor.G Go.Proofs.YthhpndnambffjaaDoor.T Go.Proofs.YthhpndnambffjaaDoorW.PrintWords Go.Proofs.YthhpndnambffjaaDoorW.PrintLast Go.Proofs.YthhpndnambffjaaDoorW.PrintMore

theorem SumsBack : colophonlaw02_SumsBack.Pure := by
  intro l hm hb hw
  have hlen : l.length ≤ 140737488351232 := by omega
  have hs : (l ++ bytes4 (crc l)).length = l.length + 4 := by rw [List.length_append, bytes4_length]
  simp only [colophonlaw02_SumsBack.f, works_f, Option.bind_some, if_true]
  rw [Seal_f l (by omega), Option.bind_some, Seal_f _ (by omega), Option.bind_some, Open_Seal _ (by omega), Option.bind_some, Open_Seal _ (by omega), Option.bind_some]
  simp only [if_true]
  have e1 : wrap64 ((l.length : Int) + 8) = (l.length : Int) + 8 := by unfold wrap64; omega
  rw [e1]
  simp [bytes4_length]
end Go.Proofs.YthhpndnambffjaaDoor.Pure
