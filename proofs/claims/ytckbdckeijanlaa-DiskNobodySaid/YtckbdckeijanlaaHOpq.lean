/- A parameter that is a struct, opened by the shapes of its cells alone. -/
import Derived.WideShapes
import Derived.ProofKit
import Derived.OpenShut
namespace Go.Proofs.Ytckbdckeijanlaa.R
open Go.RowKit Go.ChangeShapes Go.WideShapes Go.ChangeAt
variable {P : Program} {w : World} {r : Reach} {b : Nat} {t u : TypeId} {v : Value} {cs : Array Value}
theorem cellInt {k : IntKind} (hu : P.underlying u = some (.int k)) (h : Cell.okWide P w r b u v) : ∃ n, v = .int k n := by
  simp only [Cell.okWide, hu] at h
  cases v <;> simp_all [Cell.ok]
theorem cellSlice {e : TypeId} (hu : P.underlying u = some (.slice e)) (h : Cell.okWide P w r b u v) : ∃ a l c, v = .slice a l c := by
  simp only [Cell.okWide, hu] at h
  cases v <;> simp_all [Cell.ok]
theorem opqCells {fs : Array Field} (ht : P.underlying t = some (.struct fs)) (h : Value.okWide P w r b t v) : ∃ cs, v = .agg cs ∧ cs.size = P.cellsOf t ∧ Row.okWide P w r b t cs := by
  unfold Value.okWide at h
  rw [ht] at h
  exact h
theorem rowCell {ts : List TypeId} (hts : P.cellTypes P.depth t = some ts) (h : Row.okWide P w r b t cs) (i : Nat) (hv : cs[i]? = some v) (hu : ts[i % ts.length]? = some u) : Cell.okWide P w r b u v := by
  obtain ⟨ts', e, _, hc⟩ := h
  rw [hts] at e
  injection e with e
  subst e
  obtain ⟨u', hu', ho⟩ := hc i v hv
  rw [hu] at hu'
  injection hu' with hu'
  rw [hu']
  exact ho
end Go.Proofs.Ytckbdckeijanlaa.R
