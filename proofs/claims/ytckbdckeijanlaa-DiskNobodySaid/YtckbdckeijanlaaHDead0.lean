/- Disks that are nil, or that no call made: how many sectors they have. -/
import Derived.Test.YtckbdckeijanlaaProg
import Derived.WalkKit
import Derived.WalkMore
import Derived.Below
import Derived.Deep.LoopGhost
import Derived.RangeFuncWrites
namespace Go.Proofs.Ytckbdckeijanlaa.D
open Go.RowKit
set_option linter.unusedVariables false
set_option linter.unusedSimpArgs false

structure Aside0D (p : Prop) : Prop where
  out : p
theorem cellAt {w : World} {g : Nat} {t : TypeId} {cs : Array Value} (h : w.heap[g]? = some (.cells cs t (0, 0))) (i : Nat) : w.cell? ⟨g, i, none⟩ = cs[i]? := by simp [World.cell?, h]
theorem lt_of {w : World} {k : Nat} {o : Obj} (h : w.heap[k]? = some o) : k < w.heap.size := (Array.getElem?_eq_some_iff.1 h).1
def deadCells : Array Value := #[.slice none 0 0, .slice none 0 0, .int .i64 0, .bool false, .int .i64 0]
/-- A disk that is nil, or that no call made. -/
def Dead (W : World) (v : Value) : Prop := v = .pointer none ∨ ∃ g, v = .pointer (some ⟨g, 0, none⟩) ∧ W.heap[g]? = some (.cells deadCells 51 (0, 0))
theorem Dead.below {W W' : World} {v : Value} (h : Dead W v) (hb : Below W.heap.size W W') : Dead W' v := by
  rcases h with h | ⟨g, h, hh⟩
  · exact .inl h
  · exact .inr ⟨g, h, (hb.block _ (lt_of hh)).trans hh⟩
set_option maxHeartbeats 800000 in
theorem Sectors (v : Value) (w : World) (h : Dead w v) : Calls Try.prog 21 #[v] w fun e w' => e = .returned (.int .i64 0) ∧ w' = w := by
  rcases h with rfl | ⟨g, rfl, hh⟩
  · go_enter Try.func21, Try.ntmps21
    go_wp2
    go_ret
    exact ⟨rfl, rfl⟩
  · have c0 : w.cell? ⟨g, 0, none⟩ = some (.slice none 0 0) := cellAt hh 0
    clear hh
    go_enter Try.func21, Try.ntmps21
    go_wp2
    go_ret
    exact ⟨rfl, rfl⟩
end Go.Proofs.Ytckbdckeijanlaa.D
