/- A slot's head, plainly. -/
import Derived.Test.YthpholjelfajiaaDoorChkM
namespace Go.Proofs.YthpholjelfajiaaDoor.Sl
open Go.RowKit Go.Proofs.YthpholjelfajiaaDoor.G Go.Proofs.YthpholjelfajiaaDoor.T Go.Proofs.YthpholjelfajiaaDoorW.PrintWords Go.Proofs.YthpholjelfajiaaDoorW.PrintLast Go.Proofs.YthpholjelfajiaaDoorW.PrintMore
set_option linter.unusedVariables false
set_option linter.unusedSimpArgs false
def b4 (n : Int) : List Int := [n / 16777216 % 256, n / 65536 % 256, n / 256 % 256, n % 256]
def num4 (l : List Int) : Int := ((rd l 0 * 256 + rd l 1) * 256 + rd l 2) * 256 + rd l 3
def headP (k e s : Int) : List Int := (b4 e ++ [99, 108, 112, 104] ++ [k % 256] ++ b4 s) ++ List.replicate 43 0
def headB (k e s : Int) : List Int := headP k e s ++ bytes4 (crc (headP k e s)) ++ b4 e
theorem b4_length (n : Int) : (b4 n).length = 4 := rfl
theorem headP_length (k e s : Int) : (headP k e s).length = 56 := rfl
theorem headB_length (k e s : Int) : (headB k e s).length = 64 := by simp [headB, headP_length, bytes4_length, b4_length]
end Go.Proofs.YthpholjelfajiaaDoor.Sl
