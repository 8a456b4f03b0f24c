import Derived.Test.YthokljlalgclkaaX4
import Derived.Test.YthokljlalgclkaaWorksT
namespace Go.Proofs.Ythokljlalgclkaa.Pure
open Go.RowKit Go.Proofs.Ythokljlalgclkaa.X Go.Proofs.Ythokljlalgclkaa.G Go.Proofs.Ythokljlalgclkaa.Exp Go.Proofs.Ythokljlalgclkaa.Iso Go.Proofs.YthokljlalgclkaaW.PrintWords Go.Proofs.YthokljlalgclkaaW.PrintLast

theorem Removed_eq (x : Int) : explicit_Removed.f x = some (rem x) := by
  unfold explicit_Removed.f rem
  by_cases h1 : x = 17 <;> by_cases h2 : x = 15 <;> by_cases h3 : x = 18 <;> by_cases h4 : x = 16 <;> by_cases h5 : x = 19 <;> by_cases h6 : x = 10 <;> simp [h1, h2, h3, h4, h5, h6]
theorem Levels_l0 (c : List Int) (base : Int) (hl : c.length ≤ 2000) (hB : base = 0 ∨ base = 1) : ∀ (d i : Nat), i + d = c.length → Ev (fun k => colophonlaw07_ExplicitLevels.l0 k base (lvs c base) (tys c base) c (c.length : Int) (i : Int)) true := by
  intro d
  induction d with
  | zero =>
    intro i hi
    refine ev_succ ?_
    simp only [colophonlaw07_ExplicitLevels.l0, if_neg (show ¬ (i : Int) < (c.length : Int) by omega)]
    exact Ev.now true
  | succ d ih =>
    intro i hi
    have hic : i < c.length := by omega
    have hgo := ih (i + 1) (by omega)
    refine ev_succ ?_
    simp only [colophonlaw07_ExplicitLevels.l0, if_pos (show (i : Int) < (c.length : Int) by omega), if_pos (Int.natCast_nonneg i), rd_nat, w64 (show i < 9223372036854775807 by omega), Removed_eq, Option.bind_some, lvs_length, tys_length, lvs_get c base i hic, tys_get c base i hic]
    by_cases hr : rem (c.getD i 0) = true
    · have h1 : lv c base i = -1 := by unfold lv; rw [if_pos hr]
      have h2 : ty c base i = c.getD i 0 := by unfold ty; rw [if_pos (.inl hr)]
      simp only [if_pos hr, h1, h2, if_true]
      refine ev_succ ?_
      simp only [colophonlaw07_ExplicitLevels.j2, bne_self_eq_false, Bool.false_eq_true, if_false, w64 (show i < 9223372036854775807 by omega)]
      exact hgo
    · simp only [if_neg hr]
      by_cases h11 : c.getD i 0 = 11
      · have h1 : lv c base i = base := by unfold lv; rw [if_neg hr, if_pos h11]
        have h2 : ty c base i = c.getD i 0 := by unfold ty; rw [if_pos (.inr h11)]
        simp only [h1, h2, if_pos h11, if_neg (show ¬ base < base by omega), if_neg (show ¬ base > 125 by omega), if_true]
        exact hgo
      · have hd := (met_inv c (base := base) (by omega) i).good.hd (by omega)
        have h1 : lv c base i = (top (met c base i)).lvl := by unfold lv; rw [if_neg hr, if_neg h11]
        have hlo : ¬ lv c base i < base := by rw [h1]; unfold top; omega
        have hhi : ¬ lv c base i > 125 := by rw [h1]; unfold top; omega
        simp only [if_neg hlo, if_neg hhi, if_neg h11]
        have h2 : ty c base i = if (top (met c base i)).frc ≠ 0 then (top (met c base i)).frc else c.getD i 0 := by
          unfold ty; rw [if_neg (fun h => h.elim hr h11)]
        by_cases e0 : ty c base i = c.getD i 0
        · simp only [if_pos e0]; exact hgo
        · simp only [if_neg e0]
          have hf : (top (met c base i)).frc = 0 ∨ (top (met c base i)).frc = 1 ∨ (top (met c base i)).frc = 2 := hd.2.2
          rcases hf with e | e | e
          · rw [e] at h2; simp at h2; exact absurd (by simpa using h2) e0
          · rw [e] at h2; rw [if_pos (by decide)] at h2
            simp only [if_pos h2]; exact hgo
          · rw [e] at h2; rw [if_pos (by decide)] at h2
            simp only [h2, if_neg (show ¬ (2 : Int) = 1 by decide), if_true]; exact hgo
theorem ExplicitLevels : colophonlaw07_ExplicitLevels.Pure := by
  intro c base _ _ _ _
  refine Ev.rounds (g := fun k => colophonlaw07_ExplicitLevels.f k c base) ?_
  simp only [colophonlaw07_ExplicitLevels.f]
  refine Ev.bind works_ev ?_
  simp only [if_true]
  by_cases hl : (c.length : Int) > 2000
  · simp only [if_pos hl]; exact Ev.now true
  · simp only [if_neg hl]
    by_cases h : (base = 0 ∨ base = 1) ∧ formed c
    · simp only [res_ok c base (by omega) h.1 h.2, Option.bind_some, if_true, lvs_length, tys_length, bne_self_eq_false]
      refine ev_succ ?_
      simp only [colophonlaw07_ExplicitLevels.j0, Bool.false_eq_true, if_false]
      exact Levels_l0 c base (by omega) h.1 c.length 0 (by omega)
    · obtain ⟨e, he, hres⟩ := res_no c base (by omega) h
      simp only [hres, Option.bind_some, if_neg he, List.length_nil]
      exact Ev.now true
end Go.Proofs.Ythokljlalgclkaa.Pure
