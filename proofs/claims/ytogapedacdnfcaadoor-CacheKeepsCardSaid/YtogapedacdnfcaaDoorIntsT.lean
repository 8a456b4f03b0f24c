/- Two lists of whole numbers held against one another: what the document's Ints comes to. -/
import Derived.Test.YtogapedacdnfcaaDoorX6
import Derived.Test.YtogapedacdnfcaaDoorEv0
namespace Go.Proofs.YtogapedacdnfcaaDoor.T
open Go.RowKit Go.Proofs.YtogapedacdnfcaaDoor.X Go.Proofs.YtogapedacdnfcaaDoor.E Go.Proofs.YtogapedacdnfcaaDoorW.PrintWords Go.Proofs.YtogapedacdnfcaaDoorW.PrintLast Go.Proofs.YtogapedacdnfcaaDoorW.PrintMore
theorem drop_consI (c : List Int) (i : Nat) (h : i < c.length) : c.drop i = c.getD i 0 :: c.drop (i + 1) := by
  rw [List.drop_eq_getElem_cons h]
  simp [h]
theorem Ints_l0 (a b : List Int) (hl : a.length = b.length) (hb : a.length ≤ 17592186044416) : ∀ d i : Nat, i + d = a.length → Ev (fun k => colophonref01_Ints.l0 k a b (i : Int)) (decide (a.drop i = b.drop i)) := by
  intro d
  induction d with
  | zero =>
    intro i hi
    refine ev_succ ?_
    simp only [colophonref01_Ints.l0]
    simp only [if_neg (show ¬ (i : Int) < (a.length : Int) by omega)]
    rw [List.drop_eq_nil_of_le (by omega), List.drop_eq_nil_of_le (by omega)]
    exact Ev.now true
  | succ d ih =>
    intro i hi
    refine ev_succ ?_
    simp only [colophonref01_Ints.l0]
    simp only [if_pos (show (i : Int) < (a.length : Int) by omega), if_pos (Int.natCast_nonneg i), if_pos (show (i : Int) < (b.length : Int) by omega), rd_nat, w64 (show i < 9223372036854775807 by omega)]
    rw [drop_consI a i (by omega), drop_consI b i (by omega)]
    by_cases e : a.getD i 0 = b.getD i 0
    · simp only [if_pos e]
      have := ih (i + 1) (by omega)
      rw [e]
      simpa using this
    · simp only [if_neg e]
      rw [decide_eq_false (by simp only [List.cons.injEq, not_and]; intro h; exact absurd h e)]
      exact Ev.now false
theorem Ints_ev (a b : List Int) (hb : a.length ≤ 17592186044416) : Ev (fun k => colophonref01_Ints.f k a b) (decide (a = b)) := by
  simp only [colophonref01_Ints.f]
  by_cases hl : a.length = b.length
  · simp only [if_pos (show (a.length : Int) = (b.length : Int) by omega)]
    have := Ints_l0 a b hl hb a.length 0 (by omega)
    simpa using this
  · simp only [if_neg (show ¬ (a.length : Int) = (b.length : Int) by omega)]
    rw [decide_eq_false (by rintro rfl; exact hl rfl)]
    exact Ev.now false
theorem Ints_same (a : List Int) (hb : a.length ≤ 17592186044416) : Ev (fun k => colophonref01_Ints.f k a a) true := by
  have := Ints_ev a a hb
  simpa using this

end Go.Proofs.YtogapedacdnfcaaDoor.T
