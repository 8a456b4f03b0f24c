/- A slice of Bools that came in, read. -/
import Derived.ChangeSlices
import Derived.ProofKit
import Derived.OpenShut
import Derived.Test.YthokljlalgclkaaX0
namespace Go.Proofs.Ythokljlalgclkaa.R
open Go.RowKit Go.ChangeShapes Go.WideShapes Go.ChangeAt Go.Proofs.YthokljlalgclkaaW.PrintWords Go.Proofs.YthokljlalgclkaaW.PrintLast Go.Proofs.YthokljlalgclkaaW.PrintMore
variable {H : Type} {enc : TypeId × Value → H} {P : Program} {w : World} {base : Nat} {spare : Nat → Bool} {held : Bool}
theorem open_bools {t e : TypeId} {fuel : Nat} {a : Option Addr} {len cap : Nat} {x : DataW H × List MemPlace} (ht : P.underlying t = some (.slice e)) (he : P.underlying e = some .bool) (hc : P.cellsOf e = 1)
    (h : DataW.trod enc P w base spare held fuel t [.slice a len cap] = some x) : ∃ l : List Bool, len = l.length ∧ l.length ≤ cap ∧ Kd.C Kd.bool w a l.length l := by
  rcases DataW.trod_slice ht h with ⟨e0, _⟩ | ⟨b, len', cap', elems, rest, n, _, hcs, _, _, hl, hm, hlen, hel, _, _⟩
  · injection e0 with e0 _
    injection e0 with e1 e2 e3
    subst e1 e2 e3
    exact ⟨[], rfl, Nat.le_refl _, Kd.C_of_reads (d := false) (h1 := fun _ => rfl) (enc := fun x => Value.bool x) ⟨rfl, by simp, fun h => absurd h (by simp)⟩⟩
  · injection hcs with e0 _
    injection e0 with e1 e2 e3
    subst e1 e2 e3
    have each : ∀ i, i < len → ∃ c : Bool, w.cell? (b.add i) = some (.bool c) := by
      intro i hi
      obtain ⟨y, hy⟩ : ∃ y, elems[i]? = some y := ⟨_, List.getElem?_eq_getElem (by rw [hlen]; exact hi)⟩
      have hE := hel i hi
      rw [hc, Nat.mul_one, hy, Option.bind_eq_some_iff] at hE
      obtain ⟨cs', hcs', hy'⟩ := hE
      obtain ⟨c, rfl, _⟩ := DataW.trod_bool he hy'
      exact ⟨c, cell_of_cells?_one hcs'⟩
    refine ⟨(List.range len).map (fun i => match w.cell? (b.add i) with | some (.bool c) => c | _ => false), by simp, by simpa using hl, ?_⟩
    refine Kd.C_of_reads (d := false) (h1 := fun _ => rfl) (enc := fun x => Value.bool x) ⟨by simp, by simp; exact Nat.le_trans hl (by simpa [maxLen] using hm), fun _ => ⟨b, rfl, fun j hj => ?_⟩⟩
    have hj' : j < len := by simpa using hj
    obtain ⟨c, hcell⟩ := each j hj'
    rw [hcell]
    simp [List.getD_eq_getElem?_getD, hj', hcell]
end Go.Proofs.Ythokljlalgclkaa.R
