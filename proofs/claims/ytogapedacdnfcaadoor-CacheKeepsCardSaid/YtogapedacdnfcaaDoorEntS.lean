/- The program's Bytes and Read, plainly: what is written of an entry is read. -/
import Derived.Test.YtogapedacdnfcaaDoorEntT
import Derived.Test.YtogapedacdnfcaaDoorIntsT
import Derived.Test.YtogapedacdnfcaaDoorX2
import Derived.Test.YtogapedacdnfcaaDoorX6
namespace Go.Proofs.YtogapedacdnfcaaDoor.Pure
open Go.RowKit Go.Proofs.YtogapedacdnfcaaDoor.X Go.Proofs.YtogapedacdnfcaaDoor.G Go.Proofs.YtogapedacdnfcaaDoor.T Go.Proofs.YtogapedacdnfcaaDoor.E Go.Proofs.YtogapedacdnfcaaDoorW.PrintWords Go.Proofs.YtogapedacdnfcaaDoorW.PrintLast Go.Proofs.YtogapedacdnfcaaDoorW.PrintMore
set_option linter.unusedVariables false
set_option linter.unusedSimpArgs false

theorem works_f : colophonlaw25_works.f = some true := by decide +kernel
theorem Same_ev (k a v : Int) (l : List Int) (k' a' v' : Int) (l' : List Int) (hb : l.length ≤ 17592186044416) : Ev (fun n => colophonref25_Same.f n k a v l k' a' v' l') (decide (k = k' ∧ a = a' ∧ v = v' ∧ l = l')) := by
  unfold colophonref25_Same.f
  by_cases h1 : k = k'
  · by_cases h2 : a = a'
    · by_cases h3 : v = v'
      · simp only [if_pos h1, if_pos h2, if_pos h3, h1, h2, h3, true_and]
        exact Ev.bind (Ints_ev l l' hb) (Ev.now _)
      · simp only [if_pos h1, if_pos h2, if_neg h3]
        rw [decide_eq_false (fun h => h3 h.2.2.1)]
        exact Ev.now _
    · simp only [if_pos h1, if_neg h2]
      rw [decide_eq_false (fun h => h2 h.2.1)]
      exact Ev.now _
  · simp only [if_neg h1]
    rw [decide_eq_false (fun h => h1 h.1)]
    exact Ev.now _
/-- An entry's sector, and what is wrong. -/
def ES (k a v : Int) (l : List Int) : List Int × Int := if mayB a v l = true then (entB k a v l ++ bytes4 (crc (entB k a v l)), 0) else ([], 50)
theorem Bytes_f (k a v : Int) (l : List Int) : cache_Bytes.f k a v l = some (ES k a v l) := by
  unfold cache_Bytes.f ES
  split
  · rename_i h
    have := entB_length k a v l ((mayB_iff a v l).1 h).2.2.2.1
    rw [Seal_f _ (by omega), Option.bind_some]
  · rfl
/-- What any bytes tell, as an entry. -/
def RB (b : List Int) : Int × Int × Int × List Int × Int := if b.length = 64 then (if b.drop 60 = bytes4 (crc (b.take 60)) then cRead (b.take 60) else (0, 0, 0, [], 21)) else (0, 0, 0, [], 20)
theorem Read_f (b : List Int) (hb : Bytes b) : cache_Read.f b = some (RB b) := by
  unfold cache_Read.f RB
  by_cases h : b.length = 64
  · rw [if_pos h, if_pos h, Open_f b (by omega) (by omega), Option.bind_some, h]
    by_cases h2 : b.drop 60 = bytes4 (crc (b.take 60))
    · rw [if_pos (show b.drop (64 - 4) = bytes4 (crc (b.take (64 - 4))) from h2), if_pos h2, if_pos rfl, if_pos ⟨by rw [List.length_take]; omega, hb.take 60⟩]
    · rw [if_neg (show ¬ b.drop (64 - 4) = bytes4 (crc (b.take (64 - 4))) from h2), if_neg h2, if_neg (by decide)]
  · rw [if_neg h, if_neg h]
theorem RB_ES (k a v : Int) (l : List Int) (hk : U64 k) (h : mayB a v l = true) : RB (entB k a v l ++ bytes4 (crc (entB k a v l))) = (k, a, v, l, 0) := by
  have hl := entB_length k a v l ((mayB_iff a v l).1 h).2.2.2.1
  unfold RB
  rw [if_pos (by rw [List.length_append, hl]; rfl), List.drop_left' hl, List.take_left' hl, if_pos rfl, cRead_entB k a v l hk h]
theorem sealed_by (k a v : Int) (l : List Int) : Bytes (entB k a v l ++ bytes4 (crc (entB k a v l))) := by
  refine (entB_bytes k a v l).append ?_
  intro x hx
  have := crc_range (entB k a v l)
  simp only [bytes4, List.mem_cons, List.not_mem_nil, or_false] at hx
  rcases hx with rfl | rfl | rfl | rfl <;> omega
theorem ES_RB (b : List Int) (hb : Bytes b) (k a v : Int) (l : List Int) (h : RB b = (k, a, v, l, 0)) : ES k a v l = (b, 0) ∧ U64 k ∧ mayB a v l = true := by
  unfold RB at h
  by_cases h1 : b.length = 64
  · rw [if_pos h1] at h
    by_cases h2 : b.drop 60 = bytes4 (crc (b.take 60))
    · rw [if_pos h2] at h
      obtain ⟨g1, g2, g3⟩ := entB_cRead (b.take 60) (by rw [List.length_take]; omega) (hb.take 60) k a v l h
      refine ⟨?_, g1, g2⟩
      unfold ES
      rw [if_pos g2, g3, ← h2, List.take_append_drop]
    · rw [if_neg h2] at h; simp at h
  · rw [if_neg h1] at h; simp at h
theorem RB_err (b : List Int) (k a v : Int) (l : List Int) (e : Int) (h : RB b = (k, a, v, l, e)) (he : e ≠ 0) : k = 0 ∧ a = 0 ∧ v = 0 ∧ l = [] := by
  unfold RB at h
  split at h
  · split at h
    · exact cRead_err _ k a v l e h he
    · injection h with h1 h; injection h with h2 h; injection h with h3 h; injection h with h4 h5; exact ⟨h1.symm, h2.symm, h3.symm, h4.symm⟩
  · injection h with h1 h; injection h with h2 h; injection h with h3 h; injection h with h4 h5; exact ⟨h1.symm, h2.symm, h3.symm, h4.symm⟩
theorem wf_u64 {x : Int} (h : (Lit.int .u64 x).wf = true) : U64 x := by
  simp [Lit.wf, IntKind.min, IntKind.max, IntKind.signed, IntKind.bits] at h
  unfold U64
  omega
end Go.Proofs.YtogapedacdnfcaaDoor.Pure
