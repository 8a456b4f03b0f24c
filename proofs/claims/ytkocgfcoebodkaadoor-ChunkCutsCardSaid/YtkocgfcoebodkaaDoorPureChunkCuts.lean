/- The pure statement of ChunkCuts. -/
import Derived.Test.YtkocgfcoebodkaaDoorChunkR
import Derived.Test.YtkocgfcoebodkaaDoorX3
namespace Go.Proofs.YtkocgfcoebodkaaDoor.Pure
open Go.RowKit Go.Proofs.YtkocgfcoebodkaaDoor.X Go.Proofs.YtkocgfcoebodkaaDoor.G Go.Proofs.YtkocgfcoebodkaaDoor.T Go.Proofs.YtkocgfcoebodkaaDoor.E Go.Proofs.YtkocgfcoebodkaaDoor.C Go.Proofs.YtkocgfcoebodkaaDoorW.PrintWords Go.Proofs.YtkocgfcoebodkaaDoorW.PrintLast Go.Proofs.YtkocgfcoebodkaaDoorW.PrintMore

theorem ChunkCuts : colophonlaw20_ChunkCuts.Pure := by
  intro l0 a1 a2 hm hl hb h1 h2
  refine Ev.rounds ?_
  have hn : a2 ≤ 9223372036854775807 := by
    have : -9223372036854775808 ≤ a2 ∧ a2 ≤ 9223372036854775807 := by simpa [Lit.wf, IntKind.min, IntKind.max, IntKind.signed, IntKind.bits] using h2
    exact this.2
  have hyes : ∀ x : Bool, x = true → Ev (fun k => colophonlaw20_ChunkCuts.j0 k l0 a1 a2 x) true := by
    intro x hx
    refine ev_succ ?_
    simp only [colophonlaw20_ChunkCuts.j0]
    simp only [if_pos hx]
    exact Ev.bind works (Ev.now _)
  have hno : a2 ≤ 1000000 → ∀ x : Bool, x = false → Ev (fun k => colophonlaw20_ChunkCuts.j0 k l0 a1 a2 x) true := by
    intro h3 x hx
    obtain ⟨r, hr, hrl⟩ : ∃ r, chunk_Cut.f l0 a1 = some r ∧ r.1.length < 4611686018427387904 := by
      unfold chunk_Cut.f
      split
      · split
        · exact ⟨_, rfl, by show (chunks l0 a1).length < _; rw [chunks_length]; omega⟩
        · exact ⟨_, rfl, by simp⟩
      · exact ⟨_, rfl, by simp⟩
    refine ev_succ ?_
    simp only [colophonlaw20_ChunkCuts.j0]
    simp only [hx, Bool.false_eq_true, if_false, Option.bind_some, List.length_nil, Nat.zero_add, if_pos (show l0.length < 140737488355328 by omega), List.nil_append, hr]
    refine Ev.bind (refCut l0 a1 r hr) ?_
    refine Ev.bind (same_f r.1 hrl) ?_
    simp only [if_true, count_f a2 hn, Option.bind_some]
    refine Ev.bind (refCount a2 h3) ?_
    simp only [if_true]
    exact Ev.bind works (Ev.now _)
  simp only [colophonlaw20_ChunkCuts.f]
  by_cases c1 : (l0.length : Int) > 5000
  · simp only [if_pos c1]
    by_cases c2 : (l0.length : Int) ≤ 221184
    · simp only [if_pos c2]
      exact hyes _ rfl
    · simp only [if_neg c2]
      by_cases c3 : a2 > 1000000
      · exact hyes _ (decide_eq_true c3)
      · exact hno (by omega) _ (decide_eq_false c3)
  · simp only [if_neg c1]
    by_cases c3 : a2 > 1000000
    · exact hyes _ (decide_eq_true c3)
    · exact hno (by omega) _ (decide_eq_false c3)
end Go.Proofs.YtkocgfcoebodkaaDoor.Pure
