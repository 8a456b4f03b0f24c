/- A list of lists of whole numbers that came in, read; each no longer than its weight allows. -/
import Derived.Test.YtkocgfcoebodkaaDoorHRows
import Derived.SizedLaws
namespace Go.Proofs.YtkocgfcoebodkaaDoor.R
open Go.RowKit Go.Proofs.YtkocgfcoebodkaaDoorW.PrintWords Go.ChangeShapes Go.WideShapes Go.ChangeAt Go.Deep
set_option linter.unusedVariables false

variable {H : Type} {enc : TypeId × Value → H} {P : Program} {w : World} {base : Nat} {held : Bool}
theorem weights_all {e : TypeId} {d : DataW H} {m : Nat} : ∀ {l : List (DataW H)}, d ∈ l → m ∈ d.weights P e → m ∈ DataW.weightsAll P e l
  | [], h, _ => by cases h
  | y :: r, h, hm => by
    rw [DataW.weightsAll, List.mem_append]
    rcases List.mem_cons.1 h with rfl | h
    · exact Or.inl hm
    · exact Or.inr (weights_all h hm)
theorem open_rows2 {t e q e0 : TypeId} {k : IntKind} {fuel R0 B : Nat} {v : Value} {x : DataW H × List MemPlace} (ht : P.underlying t = some (.slice e)) (he : P.underlying e = some (.slice q)) (hq : P.underlying q = some (.int k))
    (ce : P.cellsOf e = 1) (cq : P.cellsOf q = 1) (hB : P.bytesOf q = B) (h : DataW.trod enc P w base (fun _ => true) held fuel t [v] = some x) (hs : ∀ m ∈ x.1.weights P t, m ≤ R0) :
    ∃ a len cap, ∃ bs : List (List Int), v = .slice a len cap ∧ bs.length = len ∧ len ≤ cap ∧ Kd.C (Kd.slice e0 (Kd.int k)) w a len bs ∧ (∀ b ∈ bs, ∀ n ∈ b, (Lit.int k n).wf = true) ∧ ∀ b ∈ bs, b.length * B ≤ R0 := by
  rcases open_int_rows ht he hq ce cq h with ⟨hcs, _⟩ | ⟨a, len, cap, A, L, C, Z, hcs, _, hl, hm, hx, hr⟩
  · refine ⟨none, 0, 0, [], by simpa using hcs, rfl, Nat.le_refl _, Kd.C_nil _ _, (fun b hb => by cases hb), fun b hb => by cases hb⟩
  · refine ⟨some a, len, cap, (List.range len).map fun r => (Z r).take (L r), by simpa using hcs, by simp, hl, ⟨by simp, by unfold maxLen at hm; omega, fun hp => ⟨a, rfl, fun j b hj => ?_⟩⟩, fun b hb n hn => ?_, fun b hb => ?_⟩
    · rw [List.getElem?_map] at hj
      obtain ⟨j', hj', rfl⟩ := Option.map_eq_some_iff.1 hj
      obtain ⟨hlt, he'⟩ := List.getElem?_eq_some_iff.1 hj'
      rw [List.getElem_range] at he'
      subst he'
      rw [List.length_range] at hlt
      obtain ⟨r1, r2, r3, r4, r5, r6, r7⟩ := hr j (by omega)
      have hlen : ((Z j).take (L j)).length = L j := by rw [List.length_take]; omega
      refine ⟨[.slice (A j) (L j) (C j)], rfl, ⟨A j, C j, by rw [hlen], by rw [hlen]; exact r2, by rw [hlen]; exact row_read r2 r3 r4 r6 (fun a' ha => (r7 a' ha).2)⟩, fun i u hu => ?_⟩
      cases i with
      | succ i => simp at hu
      | zero =>
        simp at hu
        subst hu
        show w.cell? (a.add (j * 1 + 0)) = _
        rw [Nat.mul_one, Nat.add_zero]
        exact r1
    · obtain ⟨r, hr', rfl⟩ := List.mem_map.1 hb
      have hlt : r < len := List.mem_range.1 hr'
      exact (hr r (by omega)).2.2.2.2.1 n (List.mem_of_mem_take hn)
    · obtain ⟨r, hr', rfl⟩ := List.mem_map.1 hb
      have hlt : r < len := List.mem_range.1 hr'
      obtain ⟨r1, r2, r3, r4, r5, r6, r7⟩ := hr r (by omega)
      have hlen : ((Z r).take (L r)).length = L r := by rw [List.length_take]; omega
      rw [hlen]
      cases hA : A r with
      | none => have := r6 hA; have : L r = 0 := by omega
                rw [this, Nat.zero_mul]; exact Nat.zero_le _
      | some a' =>
        subst hx
        have h1 := hs ((Z r).length * B) (by
          rw [DataW.weights, ht]
          refine List.mem_cons_of_mem _ (List.mem_append.2 (Or.inl (weights_all (List.mem_map.2 ⟨r, hr', rfl⟩) ?_)))
          rw [hA]
          show _ ∈ DataW.weights P e (.slice (lits k ((Z r).take (L r))) (lits k ((Z r).drop (L r))))
          rw [DataW.weights, he]
          refine List.mem_cons.2 (Or.inl ?_)
          rw [hB]
          congr 1
          simp only [lits, List.length_map, List.length_take, List.length_drop]
          omega)
        refine Nat.le_trans (Nat.mul_le_mul_right _ ?_) h1
        omega
end Go.Proofs.YtkocgfcoebodkaaDoor.R
