/- An array of two whole numbers that came in. -/
import Derived.ProofKit
import Derived.OpenShut
import Derived.WideShapes
namespace Go.Proofs.YtkocgfcoebodkaaDoor.R
open Go.RowKit Go.ChangeShapes Go.WideShapes Go.ChangeAt
theorem open_arr2 {H : Type} {enc : TypeId × Value → H} {P : Program} {w : World} {base b0 : Nat} {held : Bool} {r : Reach} {spare : Nat → Bool} {t e : TypeId} {k : IntKind} {v : Value} {d : DataW H} {p : List MemPlace} (ht : P.underlying t = some (.array 2 e)) (he : P.underlying e = some (.int k)) (hC : P.cellsOf t = 2) (ce : P.cellsOf e = 1)
    (hv : Value.okWide P w r b0 t v) (h : DataW.Trod enc P w base spare held t v d p) : ∃ x y, v = .agg #[.int k x, .int k y] ∧ (Lit.int k x).wf = true ∧ (Lit.int k y).wf = true := by
  unfold Value.okWide at hv
  rw [ht] at hv
  obtain ⟨cs, rfl, hsz, _⟩ := hv
  rw [hC] at hsz
  obtain ⟨c0, c1, rfl⟩ : ∃ c0 c1, cs = #[c0, c1] := by
    obtain ⟨l⟩ := cs
    match l, hsz with
    | [a, b], _ => exact ⟨a, b, rfl⟩
  obtain ⟨fuel, hf⟩ := h
  obtain ⟨xs, m, _, _, hl, hn, hx⟩ := DataW.trod_array ht hf
  rw [ce] at hx
  have hcells : (Value.agg #[c0, c1]).cells.toList = [c0, c1] := by simp [Value.cells]
  have h0 := hx 0 (by omega)
  have h1 := hx 1 (by omega)
  rw [List.getElem?_eq_getElem (show 0 < xs.length by omega)] at h0
  rw [List.getElem?_eq_getElem (show 1 < xs.length by omega)] at h1
  have e0 : (List.take 1 (List.drop (0 * 1) ((Value.agg #[c0, c1]).cells.toList))) = [c0] := by rw [hcells]; rfl
  have e1 : (List.take 1 (List.drop (1 * 1) ((Value.agg #[c0, c1]).cells.toList))) = [c1] := by rw [hcells]; rfl
  rw [e0] at h0
  rw [e1] at h1
  obtain ⟨x, hx0, _, wx⟩ := DataW.trod_int he h0
  obtain ⟨y, hy0, _, wy⟩ := DataW.trod_int he h1
  simp only [List.cons.injEq, and_true] at hx0 hy0
  exact ⟨x, y, by rw [hx0, hy0], wx, wy⟩
end Go.Proofs.YtkocgfcoebodkaaDoor.R
