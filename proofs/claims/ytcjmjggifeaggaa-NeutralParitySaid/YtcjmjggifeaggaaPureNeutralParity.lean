/- The pure statement of NeutralParity: implicit levels are the level or up to two more, odd just of R, a number's above the level. -/
import Derived.Test.YtcjmjggifeaggaaX6
import Derived.Test.YtcjmjggifeaggaaNeuT
namespace Go.Proofs.Ytcjmjggifeaggaa.Pure
open Go.RowKit Go.Proofs.Ytcjmjggifeaggaa.X Go.Proofs.Ytcjmjggifeaggaa.G Go.Proofs.YtcjmjggifeaggaaW.PrintWords Go.Proofs.YtcjmjggifeaggaaW.PrintLast Go.Proofs.YtcjmjggifeaggaaW.PrintMore
set_option linter.unusedVariables false
set_option linter.unusedSimpArgs false

theorem par_l0 (a : Int) (l : List Int) (h0 : 0 ≤ a) (h1 : a ≤ 126) (hb : l.length ≤ 17592186044416) (hs : ∀ x ∈ l, sideOf x ≠ 0) : ∀ d i : Nat, i + d = l.length → Ev (fun k => colophonlaw11_NeutralParity.l0 k a (l.map (lev a)) l (l.length : Int) (i : Int)) true := by
  intro d
  induction d with
  | zero =>
    intro i h
    refine ev_succ ?_
    simp only [colophonlaw11_NeutralParity.l0, if_neg (show ¬ (i : Int) < (l.length : Int) by omega)]
    exact Ev.now _
  | succ d ih =>
    intro i h
    have hi : i < l.length := by omega
    refine ev_succ ?_
    have e1 : (l.map (lev a)).getD i 0 = lev a (l.getD i 0) := by simp [List.getD, hi]
    have hx : sideOf (l.getD i 0) ≠ 0 := hs _ (by rw [show l.getD i 0 = l[i] by simp [List.getD, hi]]; exact List.getElem_mem hi)
    have e2 : wrap64 (a + 2) = a + 2 := by unfold wrap64; omega
    have next := ih (i + 1) (by omega)
    simp only [colophonlaw11_NeutralParity.l0, List.length_map, if_pos (show (i : Int) < (l.length : Int) by omega), if_pos (show 0 ≤ (i : Int) by omega), rd_nat, e1, e2, w64 (show i < 9223372036854775807 by omega)]
    generalize l.getD i 0 = x at *
    have hx' : x = 1 ∨ x = 2 ∨ x = 4 ∨ x = 7 := by
      unfold sideOf at hx
      split at hx; · omega
      split at hx; · omega
      split at hx; · omega
      split at hx
      · omega
      · exact absurd rfl hx
    have l1 : a ≤ lev a x := by unfold lev; split; · omega
                                split <;> omega
    have l2 : lev a x ≤ a + 2 := by unfold lev; split; · omega
                                    split <;> omega
    have l3 : ((Int.tmod (lev a x) 2) == 1) = (x == 2) := by
      rw [Int.tmod_eq_emod_of_nonneg (by omega), Bool.eq_iff_iff]
      simp only [beq_iff_eq]
      rcases hx' with rfl | rfl | rfl | rfl <;> simp [lev] <;> omega
    simp only [if_neg (show ¬ lev a x < a by omega), if_neg (show ¬ lev a x > a + 2 by omega), l3, bne_self_eq_false, Bool.false_eq_true, if_false]
    have l4 : x = 4 ∨ x = 7 → ¬ lev a x = a := by rintro (rfl | rfl) <;> simp [lev] <;> omega
    by_cases x4 : x = 4
    · simp only [if_pos x4, if_neg (l4 (.inl x4))]; exact next
    · by_cases x7 : x = 7
      · simp only [if_neg x4, if_pos x7, if_neg (l4 (.inr x7))]; exact next
      · simp only [if_neg x4, if_neg x7]; exact next
theorem NeutralParity : colophonlaw11_NeutralParity.Pure := by
  intro l a hm hb hw h1
  have hl : l.length < 17592186044416 := by omega
  refine Ev.rounds (g := fun k => colophonlaw11_NeutralParity.f k l a) ?_
  simp only [colophonlaw11_NeutralParity.f]
  refine Ev.bind works_ev ?_
  simp only [if_true, Levels_f l a hl, Option.bind_some]
  unfold LV
  by_cases b : a < 0 ∨ 126 < a
  · simp only [if_pos b]; exact Ev.now _
  · by_cases s : l.all (fun x => sideOf x != 0) = true
    · simp only [if_neg b, if_pos s, if_true, List.length_map]
      have := par_l0 a l (by omega) (by omega) (by omega) (by simpa using s) l.length 0 (by omega)
      simpa using this
    · simp only [if_neg b, if_neg s]; exact Ev.now _
end Go.Proofs.Ytcjmjggifeaggaa.Pure
