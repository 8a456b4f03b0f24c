/- The pure statement of NeutralTurned: seen from behind, with what stands ahead and behind changed about, it is the same. -/
import Derived.Test.YtcjmjggifeaggaaQNeutralTurned
import Derived.Test.YtcjmjggifeaggaaNeuT
namespace Go.Proofs.Ytcjmjggifeaggaa.Pure
open Go.RowKit Go.Proofs.Ytcjmjggifeaggaa.X Go.Proofs.Ytcjmjggifeaggaa.G Go.Proofs.YtcjmjggifeaggaaW.PrintWords Go.Proofs.YtcjmjggifeaggaaW.PrintLast Go.Proofs.YtcjmjggifeaggaaW.PrintMore
set_option linter.unusedVariables false
set_option linter.unusedSimpArgs false

theorem res_turn (l : List Int) (a1 a2 a3 : Int) : res l.reverse a1 a3 a2 = (res l a1 a2 a3).reverse := by
  apply List.ext_getElem
  · simp [res_length]
  · intro j h1 h2
    have hj : j < l.length := by simpa [res_length] using h1
    obtain ⟨i, hi⟩ : ∃ i, l.length = i + 1 + j := ⟨l.length - 1 - j, by omega⟩
    have e1 : (res l.reverse a1 a3 a2)[j] = at_ l.reverse a1 a3 a2 j := by simp [res]
    have e2 : (res l a1 a2 a3).reverse[j] = at_ l a1 a2 a3 i := by
      rw [List.getElem_reverse]
      simp only [res, List.getElem_map, List.getElem_range, List.length_map, List.length_range]
      congr 1
      omega
    rw [e1, e2]
    have g : l.reverse.getD j 0 = l.getD i 0 := by
      simp only [List.getD_eq_getElem?_getD]
      rw [List.getElem?_reverse hj]
      congr 2
      omega
    have t1 : (l.reverse.take j).reverse = l.drop (i + 1) := by
      rw [List.take_reverse, List.reverse_reverse]
      congr 1
      omega
    have t2 : l.reverse.drop (j + 1) = (l.take i).reverse := by
      rw [List.drop_reverse]
      congr 2
      omega
    unfold at_
    rw [g, t1, t2]
    by_cases e : sideOf (l.getD i 0) = 0
    · rw [if_pos e, if_pos e]
      by_cases q : fst (l.take i).reverse a2 = fst (l.drop (i + 1)) a3
      · rw [if_pos q, if_pos q.symm, q]
      · rw [if_neg q, if_neg (fun h => q h.symm)]
    · rw [if_neg e, if_neg e]
theorem NR_turn (l : List Int) (a1 a2 a3 : Int) : NR l.reverse a1 a3 a2 = ((NR l a1 a2 a3).1.reverse, (NR l a1 a2 a3).2) := by
  unfold NR
  have hb : bad a1 a3 a2 ↔ bad a1 a2 a3 := by unfold bad; omega
  by_cases b : bad a1 a2 a3
  · rw [if_pos b, if_pos (hb.2 b)]; rfl
  · rw [if_neg b, if_neg (fun h => b (hb.1 h)), List.all_reverse]
    by_cases s : l.all okT = true
    · rw [if_pos s, if_pos s, res_turn]
    · rw [if_neg s, if_neg s]; rfl
theorem turned_l1 (a : List Int) (hb : a.length ≤ 17592186044416) : ∀ d i : Nat, i + d = a.length → Ev (fun k => colophonlaw11_NeutralTurned.l1 k a a.reverse (a.length : Int) (i : Int)) true := by
  intro d
  induction d with
  | zero =>
    intro i h
    refine ev_succ ?_
    simp only [colophonlaw11_NeutralTurned.l1, if_neg (show ¬ (i : Int) < (a.length : Int) by omega)]
    exact Ev.now _
  | succ d ih =>
    intro i h
    have hi : i < a.length := by omega
    refine ev_succ ?_
    have next := ih (i + 1) (by omega)
    have e1 : wrap64 (wrap64 ((a.length : Int) - 1) - (i : Int)) = ((d : Nat) : Int) := by unfold wrap64; omega
    have e2 : a.reverse.getD d 0 = a.getD i 0 := by
      simp only [List.getD_eq_getElem?_getD]
      rw [List.getElem?_reverse (by omega)]
      congr 2
      omega
    simp only [colophonlaw11_NeutralTurned.l1, List.length_reverse, e1, if_pos (show (i : Int) < (a.length : Int) by omega), if_pos (show 0 ≤ (i : Int) by omega), if_pos (show 0 ≤ (d : Int) by omega), if_pos (show (d : Int) < (a.length : Int) by omega), rd_nat, e2, if_true, w64 (show i < 9223372036854775807 by omega)]
    exact next
theorem turned_l0 (l : List Int) (a1 a2 a3 : Int) (hl : l.length < 17592186044416) : ∀ i : Nat, i ≤ l.length → Ev (fun k => colophonlaw11_NeutralTurned.l0 k l (l.drop i).reverse ((i : Int) - 1) a1 a2 a3) true := by
  intro i
  induction i with
  | zero =>
    intro h
    refine ev_succ ?_
    have hlen : (NR l a1 a2 a3).1.length ≤ l.length := by
      unfold NR
      split
      · simp
      split
      · rw [res_length]; exact Nat.le_refl _
      · simp
    simp only [colophonlaw11_NeutralTurned.l0, if_neg (show ¬ ((0 : Nat) : Int) - 1 ≥ 0 by omega), List.drop_zero, Resolve_f l a1 a2 a3 hl, Resolve_f l.reverse a1 a3 a2 (by simpa using hl), Option.bind_some, NR_turn, if_true, List.length_reverse, bne_self_eq_false]
    refine ev_succ ?_
    simp only [colophonlaw11_NeutralTurned.j1, Bool.false_eq_true, if_false]
    have := turned_l1 (NR l a1 a2 a3).1 (by omega) _ 0 (Nat.zero_add _)
    simpa using this
  | succ i ih =>
    intro h
    refine ev_succ ?_
    have next := ih (by omega)
    rw [drop_cons l i (by omega), List.reverse_cons] at next
    rw [show ((i + 1 : Nat) : Int) - 1 = (i : Int) by omega]
    simp only [colophonlaw11_NeutralTurned.l0, if_pos (show (i : Int) ≥ 0 by omega), if_pos (show 0 ≤ (i : Int) by omega), if_pos (show (i : Int) < (l.length : Int) by omega), if_pos (show (l.drop (i + 1)).reverse.length < 17592186044416 by simp; omega), rd_nat, w64' (show -9223372036854775808 ≤ (i : Int) - 1 by omega) (show (i : Int) - 1 ≤ 9223372036854775807 by omega)]
    exact next
theorem NeutralTurned : colophonlaw11_NeutralTurned.Pure := by
  intro l a1 a2 a3 hm hb hw w1 w2 w3
  have hl : l.length < 17592186044416 := by omega
  refine Ev.rounds (g := fun k => colophonlaw11_NeutralTurned.f k l a1 a2 a3) ?_
  simp only [colophonlaw11_NeutralTurned.f]
  refine Ev.bind works_ev ?_
  simp only [if_true]
  have := turned_l0 l a1 a2 a3 hl l.length (Nat.le_refl _)
  rw [List.drop_length, List.reverse_nil] at this
  rw [w64' (by omega) (by omega)]
  exact this
end Go.Proofs.Ytcjmjggifeaggaa.Pure
