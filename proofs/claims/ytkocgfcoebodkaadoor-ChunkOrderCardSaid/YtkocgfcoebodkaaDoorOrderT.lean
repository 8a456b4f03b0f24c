/- Chunks in another order are refused, in plain Lean. -/
import Derived.Test.YtkocgfcoebodkaaDoorChunkR
namespace Go.Proofs.YtkocgfcoebodkaaDoor.C
open Go.RowKit Go.Proofs.YtkocgfcoebodkaaDoor.X Go.Proofs.YtkocgfcoebodkaaDoor.G Go.Proofs.YtkocgfcoebodkaaDoor.T Go.Proofs.YtkocgfcoebodkaaDoor.E Go.Proofs.YtkocgfcoebodkaaDoorW.PrintWords Go.Proofs.YtkocgfcoebodkaaDoorW.PrintLast Go.Proofs.YtkocgfcoebodkaaDoorW.PrintMore
set_option linter.unusedVariables false
set_option linter.unusedSimpArgs false

/-- A list of which one is another's chunk, and none ahead of it is. -/
theorem JN_moved (l0 : List Int) (t : Int) (ht : 1 ≤ t ∧ t ≤ 2147483647) (hl : l0.length ≤ 221184) (l : List (List Int)) (hll : l.length = (l0.length + 53) / 54) (m k : Nat) (hm : m < (l0.length + 53) / 54) (hk : k < (l0.length + 53) / 54) (hmk : m ≠ k) (h1 : ∀ i, i < m → l.getD i [] = chunkOf l0 t i) (h2 : l.getD m [] = chunkOf l0 t k) : JN l t (l0.length : Int) = ([], 180) := by
  rw [JN, if_pos ⟨ht.1, ht.2, by omega, by omega, by rw [hll, cnt_len]⟩]
  refine jn_bad l0 t l hll m (by omega) (fun i hi => ?_) 180 ?_ (by decide)
  · rw [h1 i hi, CO_chunk, if_pos rfl]
  · rw [h2, CO_chunk, if_neg (fun h => hmk ?_)]
    have := ((hd_eq _ _ _ _ (by omega) (by omega) (by omega) (by omega)).1 h).1
    omega
theorem getD_set_ne (l : List (List Int)) (i j : Nat) (x : List Int) (h : i ≠ j) : (l.set i x).getD j [] = l.getD j [] := by
  rw [List.getD_eq_getElem?_getD, List.getElem?_set_ne h, ← List.getD_eq_getElem?_getD]
theorem getD_set_self (l : List (List Int)) (i : Nat) (x : List Int) (h : i < l.length) : (l.set i x).getD i [] = x := by
  rw [List.getD_eq_getElem?_getD, List.getElem?_set_self h, Option.getD_some]
/-- Two chunks changed about. -/
theorem JN_swap (l0 : List Int) (t : Int) (ht : 1 ≤ t ∧ t ≤ 2147483647) (hl : l0.length ≤ 221184) (i k : Nat) (hi : i < (l0.length + 53) / 54) (hk : k < (l0.length + 53) / 54) :
    JN (((chunks l0 t).set i (chunkOf l0 t k)).set k (chunkOf l0 t i)) t (l0.length : Int) = if i = k then (l0, 0) else ([], 180) := by
  have hcl := chunks_length l0 t
  by_cases e : i = k
  · subst e
    rw [if_pos rfl]
    have : ((chunks l0 t).set i (chunkOf l0 t i)).set i (chunkOf l0 t i) = chunks l0 t := by
      rw [List.set_set]
      apply List.ext_getElem?
      intro j
      by_cases hj : i = j
      · subst hj
        rw [List.getElem?_set_self (by omega)]
        have := chunks_get l0 t i hi
        rw [List.getD_eq_getElem?_getD, List.getElem?_eq_getElem (by omega)] at this
        rw [List.getElem?_eq_getElem (by omega)]
        exact congrArg some this.symm
      · rw [List.getElem?_set_ne hj]
    rw [this]
    exact JN_all l0 t ht hl
  · rw [if_neg e]
    have hll : (((chunks l0 t).set i (chunkOf l0 t k)).set k (chunkOf l0 t i)).length = (l0.length + 53) / 54 := by rw [List.length_set, List.length_set, hcl]
    rcases Nat.lt_or_ge i k with h | h
    · refine JN_moved l0 t ht hl _ hll i k hi hk e (fun j hj => ?_) ?_
      · rw [getD_set_ne _ _ _ _ (by omega), getD_set_ne _ _ _ _ (by omega), chunks_get l0 t j (by omega)]
      · rw [getD_set_ne _ _ _ _ (by omega), getD_set_self _ _ _ (by omega)]
    · refine JN_moved l0 t ht hl _ hll k i hk hi (fun h => e h.symm) (fun j hj => ?_) ?_
      · rw [getD_set_ne _ _ _ _ (by omega), getD_set_ne _ _ _ _ (by omega), chunks_get l0 t j (by omega)]
      · rw [getD_set_self _ _ _ (by rw [List.length_set]; omega)]
/-- Another tag: stale, or none. -/
theorem JN_tag (l0 : List Int) (t t' : Int) (ht : 1 ≤ t ∧ t ≤ 2147483647) (hne : t' ≠ t) (hl : l0.length ≤ 221184) (h0 : 0 < l0.length) : JN (chunks l0 t) t' (l0.length : Int) = ([], if 1 ≤ t' ∧ t' ≤ 2147483647 then 180 else 2) := by
  by_cases h : 1 ≤ t' ∧ t' ≤ 2147483647
  · rw [if_pos h]; exact JN_other l0 t t' ht h hne hl h0
  · rw [if_neg h, JN, if_neg (fun hh => h ⟨hh.1, hh.2.1⟩)]
end Go.Proofs.YtkocgfcoebodkaaDoor.C
