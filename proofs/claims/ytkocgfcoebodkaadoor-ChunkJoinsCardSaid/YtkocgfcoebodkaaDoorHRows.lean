/- A list of lists of whole numbers that came in, read. -/
import Derived.Test.YtkocgfcoebodkaaDoorWWords
import Derived.Deep.Matrix
import Derived.ProofKit
import Derived.OpenShut
namespace Go.Proofs.YtkocgfcoebodkaaDoor.R
open Go.RowKit Go.Proofs.YtkocgfcoebodkaaDoorW.PrintWords Go.ChangeShapes Go.WideShapes Go.ChangeAt Go.Deep
set_option linter.unusedVariables false

variable {H : Type} {enc : TypeId × Value → H} {P : Program} {w : World} {base : Nat} {held : Bool}
theorem row_read {k : IntKind} {A : Option Addr} {L c : Nat} {zs : List Int} (h1 : L ≤ c) (h2 : c ≤ maxLen) (h3 : zs.length = c) (h4 : A = none → c = 0) (h5 : ∀ a', A = some a' → ∀ i, i < c → w.cell? (a'.add i) = some (.int k (zs.getD i 0))) : Kd.C (Kd.int k) w A L (zs.take L) := by
  unfold maxLen at h2
  refine ⟨by rw [List.length_take]; omega, by omega, fun hp => ?_⟩
  cases A with
  | none => have := h4 rfl; omega
  | some a' =>
    refine ⟨a', rfl, fun j x hj => ⟨[.int k x], rfl, rfl, fun i u hu => ?_⟩⟩
    obtain ⟨hl, hx⟩ := List.getElem?_eq_some_iff.1 hj
    rw [List.length_take] at hl
    cases i with
    | succ i => simp at hu
    | zero =>
      simp at hu
      subst hu
      have := h5 a' rfl j (by omega)
      rw [show j * (Kd.int k).sz + 0 = j by show j * 1 + 0 = j; omega, this]
      congr 2
      rw [← hx, List.getElem_take, List.getD_eq_getElem?_getD, List.getElem?_eq_getElem (by omega)]
      rfl
theorem open_rows {t e q e0 : TypeId} {k : IntKind} {fuel : Nat} {v : Value} {x : DataW H × List MemPlace} (ht : P.underlying t = some (.slice e)) (he : P.underlying e = some (.slice q)) (hq : P.underlying q = some (.int k))
    (ce : P.cellsOf e = 1) (cq : P.cellsOf q = 1) (h : DataW.trod enc P w base (fun _ => true) held fuel t [v] = some x) :
    ∃ a len cap, ∃ bs : List (List Int), v = .slice a len cap ∧ bs.length = len ∧ len ≤ cap ∧ Kd.C (Kd.slice e0 (Kd.int k)) w a len bs ∧ ∀ b ∈ bs, ∀ n ∈ b, (Lit.int k n).wf = true := by
  rcases open_int_rows ht he hq ce cq h with ⟨hcs, _⟩ | ⟨a, len, cap, A, L, C, Z, hcs, _, hl, hm, _, hr⟩
  · refine ⟨none, 0, 0, [], by simpa using hcs, rfl, Nat.le_refl _, Kd.C_nil _ _, fun b hb => by cases hb⟩
  · refine ⟨some a, len, cap, (List.range len).map fun r => (Z r).take (L r), by simpa using hcs, by simp, hl, ⟨by simp, by unfold maxLen at hm; omega, fun hp => ⟨a, rfl, fun j b hj => ?_⟩⟩, fun b hb n hn => ?_⟩
    · rw [List.getElem?_map] at hj
      obtain ⟨j', hj', rfl⟩ := Option.map_eq_some_iff.1 hj
      obtain ⟨hlt, he'⟩ := List.getElem?_eq_some_iff.1 hj'
      rw [List.getElem_range] at he'
      subst he'
      rw [List.length_range] at hlt
      obtain ⟨r1, r2, r3, r4, r5, r6, r7⟩ := hr j (by omega)
      have hlen : ((Z j).take (L j)).length = L j := by rw [List.length_take]; omega
      refine ⟨[.slice (A j) (L j) (C j)], rfl, ⟨A j, C j, by rw [hlen], by rw [hlen]; exact r2, by rw [hlen]; exact row_read r2 r3 r4 r6 (fun a' ha => (r7 a' ha).2)⟩, fun i u hu => ?_⟩
      cases i with
      | succ i => simp at hu
      | zero =>
        simp at hu
        subst hu
        show w.cell? (a.add (j * 1 + 0)) = _
        rw [Nat.mul_one, Nat.add_zero]
        exact r1
    · obtain ⟨r, hr', rfl⟩ := List.mem_map.1 hb
      have hlt : r < len := List.mem_range.1 hr'
      exact (hr r (by omega)).2.2.2.2.1 n (List.mem_of_mem_take hn)
end Go.Proofs.YtkocgfcoebodkaaDoor.R
