/- The pure statement of IsolateMutual: initiators and their ends tell one another, and all between them lies deeper (no condition). -/
import Derived.Test.YtgjmfeijfkbceaaX6
import Derived.Test.YtgjmfeijfkbceaaIsoFn
namespace Go.Proofs.Ytgjmfeijfkbceaa.Pure
open Go.RowKit Go.Proofs.Ytgjmfeijfkbceaa.X Go.Proofs.YtgjmfeijfkbceaaW.PrintWords Go.Proofs.YtgjmfeijfkbceaaW.PrintLast Go.Proofs.Ytgjmfeijfkbceaa.Iso

theorem law_starts (x : Int) : colophonlaw06_starts.f x = some (st x) := by
  by_cases h1 : x = 20 <;> by_cases h2 : x = 21 <;> by_cases h3 : x = 22 <;> simp [colophonlaw06_starts.f, st, h1, h2, h3]

theorem Mutual_l1 (c : List Int) (hc : c.length ≤ 17592186043904) (i p : Nat) (hi : i < c.length) (hs : st (c.getD i 0) = true) (hp : p = partner c i) (hpl : p ≤ c.length)
    (hend : Ev (fun k => colophonlaw06_IsolateMutual.l0 k c (mts c) (dps c) c (c.length : Int) ((i + 1 : Nat) : Int)) true) :
    ∀ d j, j + d = p → i < j → Ev (fun k => colophonlaw06_IsolateMutual.l1 k c (mts c) (dps c) (i : Int) (p : Int) (j : Int) c (c.length : Int) (i : Int)) true := by
  intro d
  induction d with
  | zero =>
    intro j hj hij
    refine ev_succ ?_
    simp only [colophonlaw06_IsolateMutual.l1]
    simp only [if_neg (show ¬ (j : Int) < (p : Int) by omega), w64 (show i < 9223372036854775807 by omega)]
    exact hend
  | succ d ih =>
    intro j hj hij
    have hlt := dp_inside hs hij (show j < partner c i by omega) (by omega)
    refine ev_succ ?_
    simp only [colophonlaw06_IsolateMutual.l1]
    simp only [dps_length, rd_nat, dps_get c i hi, dps_get c j (by omega), if_pos (show (j : Int) < (p : Int) by omega), if_pos (Int.natCast_nonneg i), if_pos (Int.natCast_nonneg j), if_pos (show (j : Int) < (c.length : Int) by omega), if_pos (show (i : Int) < (c.length : Int) by omega), if_neg (show ¬ dp c j ≤ dp c i by omega), w64 (show j < 9223372036854775807 by omega)]
    exact ih (j + 1) (by omega) (by omega)
theorem Mutual_l0 (c : List Int) (hc : c.length ≤ 17592186043904) : ∀ d i, i + d = c.length → Ev (fun k => colophonlaw06_IsolateMutual.l0 k c (mts c) (dps c) c (c.length : Int) (i : Int)) true := by
  intro d
  induction d with
  | zero =>
    intro i hi
    refine ev_succ ?_
    simp only [colophonlaw06_IsolateMutual.l0]
    simp only [if_neg (show ¬ (i : Int) < (c.length : Int) by omega)]
    exact Ev.now _
  | succ d ih =>
    intro i hi
    have hic : i < c.length := by omega
    have ih := ih (i + 1) (by omega)
    refine ev_succ ?_
    simp only [colophonlaw06_IsolateMutual.l0]
    simp only [mts_length, dps_length, rd_nat, mts_get c i hic, if_pos (show (i : Int) < (c.length : Int) by omega), if_pos (Int.natCast_nonneg i), law_starts, Option.bind_some, w64 (show i < 9223372036854775807 by omega)]
    by_cases hs : st (c.getD i 0) = true
    · simp only [if_pos hs]
      have hm : mtc c i = ((partner c i : Nat) : Int) := by unfold mtc; rw [if_pos hs]
      have hg := partner_gt c i
      have hl := partner_le c i hic
      have hj2 : Ev (fun k => colophonlaw06_IsolateMutual.j2 k c (mts c) (dps c) (i : Int) ((partner c i : Nat) : Int) c (c.length : Int) (i : Int) false) true := by
        refine ev_succ ?_
        simp only [colophonlaw06_IsolateMutual.j2]
        simp only [Bool.false_eq_true, if_false, w64 (show i < 9223372036854775807 by omega)]
        by_cases h5 : (c.length : Int) > 500
        · simp only [if_pos h5]
          exact ih
        · simp only [if_neg h5]
          exact Mutual_l1 c hc i (partner c i) hic hs rfl hl ih (partner c i - (i + 1)) (i + 1) (by omega) (by omega)
      simp only [hm, rd_nat, if_neg (show ¬ ((partner c i : Nat) : Int) ≤ (i : Int) by omega), if_neg (show ¬ ((partner c i : Nat) : Int) > (c.length : Int) by omega), if_pos (Int.natCast_nonneg (partner c i))]
      by_cases hp : partner c i < c.length
      · have h2 := partner_pdi c i hic hp
        have hR := R_at hic hs hp
        have hmp : mtc c (partner c i) = (i : Int) := by
          unfold mtc
          rw [if_neg (by rw [h2]; decide), if_pos h2, hR]
          rfl
        have hdp : dp c (partner c i) = dp c i := by
          unfold dp
          rw [if_pos h2, if_neg (st_ne hs), hR]
          simp
        have hb : (dp c (partner c i) != dp c i) = false := by rw [hdp]; simp
        simp only [if_pos (show ((partner c i : Nat) : Int) < (c.length : Int) by omega), if_pos h2, mts_get c _ hp, hmp, if_true, dps_get c _ hp, dps_get c i hic, hb]
        exact hj2
      · simp only [if_neg (show ¬ ((partner c i : Nat) : Int) < (c.length : Int) by omega)]
        exact hj2
    · simp only [if_neg hs]
      by_cases h2 : c.getD i 0 = 23
      · simp only [if_pos h2]
        cases hR : R c i with
        | nil =>
          have hm : mtc c i = -1 := by
            unfold mtc
            rw [if_neg hs, if_pos h2, hR]
            rfl
          have hd : dp c i = 0 := by
            unfold dp
            rw [if_pos h2, hR]
            rfl
          simp only [hm, if_neg (show ¬ (-1 : Int) < -1 by omega), if_neg (show ¬ (-1 : Int) ≥ (i : Int) by omega), if_neg (show ¬ (-1 : Int) ≥ 0 by omega), if_pos (show (-1 : Int) < 0 by omega), dps_get c i hic, hd, if_true]
          exact ih
        | cons a t =>
          have ha : a ∈ R c i := by rw [hR]; exact List.mem_cons_self
          have hai := R_lt c i a ha
          have has := R_st c i a ha
          have hap := R_top hic hR h2
          have hm : mtc c i = (a : Int) := by
            unfold mtc
            rw [if_neg hs, if_pos h2, hR]
            rfl
          have hma : mtc c a = (i : Int) := by
            unfold mtc
            rw [if_pos has, hap]
          simp only [hm, rd_nat, if_neg (show ¬ (a : Int) < -1 by omega), if_neg (show ¬ (a : Int) ≥ (i : Int) by omega), if_pos (show (a : Int) ≥ 0 by omega), if_pos (show (a : Int) < (c.length : Int) by omega), has, if_true, mts_get c a (by omega), hma, if_neg (show ¬ (a : Int) < 0 by omega)]
          exact ih
      · have hm : mtc c i = (i : Int) := by
          unfold mtc
          rw [if_neg hs, if_neg h2]
        simp only [if_neg h2, hm, if_true]
        exact ih

theorem IsolateMutual : colophonlaw06_IsolateMutual.Pure := by
  intro c hm hb hw
  have hc : c.length ≤ 17592186043904 := by omega
  refine Ev.rounds (g := fun k => colophonlaw06_IsolateMutual.f k c) ?_
  simp only [colophonlaw06_IsolateMutual.f]
  refine Ev.bind (Match_ev c hc) ?_
  refine Ev.bind (Depth_ev c hc) ?_
  refine Ev.bind works_ev ?_
  have hb : ((c.length : Int) != (c.length : Int)) = false := by simp
  simp only [if_true, mts_length, dps_length, hb]
  refine ev_succ ?_
  simp only [colophonlaw06_IsolateMutual.j0]
  simp only [Bool.false_eq_true, if_false]
  exact Mutual_l0 c hc c.length 0 (by omega)
end Go.Proofs.Ytgjmfeijfkbceaa.Pure
