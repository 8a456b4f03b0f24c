/- Where a walk stands still, for a hand to go on. -/
import Derived.Test.YtckbdckeijanlaaX0
namespace Go.Proofs.Ytckbdckeijanlaa.G
def Halt (p : Prop) : Prop := p
theorem of_halt {p : Prop} (h : Halt p) : p := h
end Go.Proofs.Ytckbdckeijanlaa.G
