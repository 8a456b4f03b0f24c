/- The pure statement of ChunkBack. -/
import Derived.Test.YtkocgfcoebodkaaDoorChunkR
import Derived.Test.YtkocgfcoebodkaaDoorX3
namespace Go.Proofs.YtkocgfcoebodkaaDoor.Pure
open Go.RowKit Go.Proofs.YtkocgfcoebodkaaDoor.X Go.Proofs.YtkocgfcoebodkaaDoor.G Go.Proofs.YtkocgfcoebodkaaDoor.T Go.Proofs.YtkocgfcoebodkaaDoor.E Go.Proofs.YtkocgfcoebodkaaDoor.C Go.Proofs.YtkocgfcoebodkaaDoorW.PrintWords Go.Proofs.YtkocgfcoebodkaaDoorW.PrintLast Go.Proofs.YtkocgfcoebodkaaDoorW.PrintMore

/-- One byte fewer, where the last one is no nought. -/
theorem JN_short (l0 : List Int) (t : Int) (ht : 1 ≤ t ∧ t ≤ 2147483647) (hl : l0.length ≤ 221184) (hq : l0.length % 54 > 1) (hz : rd l0 ((l0.length - 1 : Nat) : Int) ≠ 0) : JN (chunks l0 t) t ((l0.length : Int) - 1) = ([], 50) := by
  have hcl := chunks_length l0 t
  rw [JN, if_pos ⟨ht.1, ht.2, by omega, by omega, by rw [hcl, show (l0.length : Int) - 1 = ((l0.length - 1 : Nat) : Int) by omega, cnt_len]; omega⟩]
  obtain ⟨n, hn⟩ : ∃ n, (l0.length + 53) / 54 = n + 1 := ⟨(l0.length + 53) / 54 - 1, by omega⟩
  rw [hn] at hcl
  have hg : ∀ m, m < n + 1 → CO ((chunks l0 t).getD m []) (m : Int) t = (body l0 m, 0) := by
    intro m hm
    rw [chunks_get l0 t m (by omega), CO_chunk, if_pos rfl]
  rw [jn_prefix l0 t _ (chunks l0 t) n (by omega) (by omega) (fun m hm => by rw [left, List.length_take]; omega) (fun m hm => hg m (by omega)) n (Nat.le_refl _), drop_cons _ [] n (by omega), jn, hg n (by omega), if_pos rfl]
  simp only
  have hlf : left ((l0.length : Int) - 1) (l0.take (n * 54)) = l0.length - 1 - n * 54 := by rw [left, List.length_take]; omega
  rw [hlf, if_neg]
  intro hc
  have hj : l0.length - 1 - n * 54 < 54 := by omega
  have hx := body_rd l0 n (l0.length - 1 - n * 54) hj
  rw [if_pos (by omega), show n * 54 + (l0.length - 1 - n * 54) = l0.length - 1 by omega] at hx
  refine hz ?_
  rw [← hx]
  refine hc _ ?_
  rw [drop_rd (body l0 n) (l0.length - 1 - n * 54) (by rw [body_length]; exact hj)]
  simp
theorem back_l0 (l0 : List Int) (t : Int) (ht : 1 ≤ t ∧ t ≤ 2147483647) (hl : l0.length ≤ 5000) : ∀ d j : Nat, j + d = (l0.length + 53) / 54 → Ev (fun k => colophonlaw20_ChunkBack.l0 k l0 t (chunks l0 t) (chunks l0 t) ((chunks l0 t).length : Int) (j : Int)) true := by
  have hcl := chunks_length l0 t
  intro d
  induction d with
  | zero =>
    intro j hj
    refine ev_succ ?_
    simp only [colophonlaw20_ChunkBack.l0]
    simp only [if_neg (show ¬ ((j : Int) < ((chunks l0 t).length : Int)) by omega)]
    have hJ := join_f (chunks l0 t) t (l0.length : Int) (by omega)
    rw [JN_all l0 t ht (by omega)] at hJ
    refine Ev.bind hJ ?_
    simp only [count_f (l0.length : Int) (by omega), Option.bind_some, cnt_len, hcl, if_true, bne_self_eq_false]
    refine ev_succ ?_
    simp only [colophonlaw20_ChunkBack.j1, Bool.false_eq_true, if_false]
    by_cases hq : (l0.length : Int) % 54 > 1
    · have e : wrap64 ((l0.length : Int) - 1) = ((l0.length - 1 : Nat) : Int) := by rw [w64' (by omega) (by omega)]; omega
      simp only [if_pos hq, e, if_pos (Int.natCast_nonneg _), if_pos (show ((l0.length - 1 : Nat) : Int) < (l0.length : Int) by omega)]
      by_cases hz : rd l0 ((l0.length - 1 : Nat) : Int) = 0
      · simp only [if_pos hz]
        exact Ev.now _
      · simp only [if_neg hz]
        have hJ2 := join_f (chunks l0 t) t ((l0.length : Int) - 1) (by omega)
        rw [JN_short l0 t ht (by omega) (by omega) hz, show (l0.length : Int) - 1 = ((l0.length - 1 : Nat) : Int) by omega] at hJ2
        refine Ev.bind hJ2 ?_
        exact Ev.now _
    · simp only [if_neg hq]
      exact Ev.now _
  | succ d ih =>
    intro j hj
    refine ev_succ ?_
    simp only [colophonlaw20_ChunkBack.l0]
    simp only [if_pos (show ((j : Int) < ((chunks l0 t).length : Int)) by omega), if_pos (Int.natCast_nonneg j), rdL2, chunks_get l0 t j (by omega), chunkOf_length, w64 (show j < 9223372036854775807 by omega), if_pos (show (((64 : Nat) : Int) = 64) by decide)]
    exact ih (j + 1) (by omega)
theorem ChunkBack : colophonlaw20_ChunkBack.Pure := by
  intro l0 a1 hm hl hb h1
  refine Ev.rounds ?_
  simp only [colophonlaw20_ChunkBack.f]
  refine Ev.bind works ?_
  simp only [if_true]
  by_cases c1 : (l0.length : Int) > 5000
  · simp only [if_pos c1]
    exact Ev.now _
  simp only [if_neg c1]
  by_cases ht : 1 ≤ a1 ∧ a1 ≤ 2147483647
  · simp only [cut_f l0 a1 ht (by omega), Option.bind_some, if_true]
    exact back_l0 l0 a1 ht (by omega) _ 0 (Nat.zero_add _)
  · have : chunk_Cut.f l0 a1 = some ([], 2) := by rw [chunk_Cut.f, if_neg ht]
    simp only [this, Option.bind_some, if_neg (show ¬ ((2 : Int) = 0) by decide), if_true, List.length_nil, Int.natCast_zero]
    by_cases h3 : a1 < 1
    · simp only [if_pos h3]
      exact Ev.now _
    · simp only [if_neg h3, decide_eq_true (show a1 > 2147483647 by omega)]
      exact Ev.now _
end Go.Proofs.YtkocgfcoebodkaaDoor.Pure
