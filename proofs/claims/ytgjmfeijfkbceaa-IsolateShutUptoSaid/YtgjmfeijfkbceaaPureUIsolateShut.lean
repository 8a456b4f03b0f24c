/- The pure statement of IsolateShut: behind as many ends as there are initiators without one each initiator has its end; condition: at most 1048576 places. -/
import Derived.Test.YtgjmfeijfkbceaaUptoIsolateShut
import Derived.Test.YtgjmfeijfkbceaaIsoFn
namespace Go.Proofs.Ytgjmfeijfkbceaa.Pure
open Go.RowKit Go.Proofs.Ytgjmfeijfkbceaa.X Go.Proofs.YtgjmfeijfkbceaaW.PrintWords Go.Proofs.YtgjmfeijfkbceaaW.PrintLast Go.Proofs.Ytgjmfeijfkbceaa.Iso

theorem law_starts (x : Int) : colophonlaw06_starts.f x = some (st x) := by
  by_cases h1 : x = 20 <;> by_cases h2 : x = 21 <;> by_cases h3 : x = 22 <;> simp [colophonlaw06_starts.f, st, h1, h2, h3]

/-- The classes and the ends behind them. -/
def own (c : List Int) : List Int := c ++ List.replicate (R c c.length).length 23
theorem own_length (c : List Int) : (own c).length = c.length + (R c c.length).length := by simp [own]
theorem cnt_all (c : List Int) : cntP (fun k => st (c.getD k 0) && decide (partner c k = c.length)) c.length = (R c c.length).length := by
  refine cntP_eq _ _ _ (R_sorted c _) fun k => ?_
  rw [R_iff (Nat.le_refl _), Bool.and_eq_true, decide_eq_true_eq]
  refine ⟨fun ⟨h1, h2, h3⟩ => ⟨h1, h2, ?_⟩, fun ⟨h1, h2, h3⟩ => ⟨h1, h2, by omega⟩⟩
  have := partner_le c k h1
  omega
section
variable (c : List Int) (hc : c.length ≤ 1048576)
include hc

theorem own_le : (own c).length ≤ 17592186043904 := by
  have := R_length c c.length
  rw [own_length]
  omega
theorem Shut_l2 : ∀ d t, t + d = (R c c.length).length → Ev (fun k => colophonlaw06_IsolateShut.l2 k c (own c) (mts (own c)) ((c.length + t : Nat) : Int)) true := by
  have hl := own_length c
  have hR := R_length c c.length
  intro d
  induction d with
  | zero =>
    intro t ht
    refine ev_succ ?_
    simp only [colophonlaw06_IsolateShut.l2]
    simp only [if_neg (show ¬ ((c.length + t : Nat) : Int) < ((own c).length : Int) by omega)]
    exact Ev.now _
  | succ d ih =>
    intro t ht
    have e : (own c).getD (c.length + t) 0 = 23 := by
      unfold own
      rw [getD_right]
      simp [List.getD_eq_getElem?_getD, show t < (R c c.length).length by omega]
    have hm : ∃ k : Nat, k < c.length ∧ mtc (own c) (c.length + t) = (k : Int) := by
      unfold mtc
      rw [if_neg (by rw [e]; decide), if_pos e]
      unfold own
      rw [R_reps c _ t (by omega), List.drop_eq_getElem_cons (show t < (R c c.length).length by omega)]
      exact ⟨_, R_lt c _ _ (List.getElem_mem _), rfl⟩
    obtain ⟨k, hk, hm⟩ := hm
    refine ev_succ ?_
    simp only [colophonlaw06_IsolateShut.l2]
    simp only [mts_length, rd_nat, mts_get (own c) (c.length + t) (by omega), hm, if_pos (show ((c.length + t : Nat) : Int) < ((own c).length : Int) by omega), if_pos (Int.natCast_nonneg (c.length + t)), if_neg (show ¬ (k : Int) < 0 by omega), if_neg (show ¬ (k : Int) ≥ (c.length : Int) by omega), w64 (show c.length + t < 9223372036854775807 by omega)]
    exact ih (t + 1) (by omega)
theorem Shut_l1 : ∀ d i, i + d = c.length → Ev (fun k => colophonlaw06_IsolateShut.l1 k c (mts c) (own c) (mts (own c)) c (c.length : Int) (i : Int)) true := by
  have hl := own_length c
  intro d
  induction d with
  | zero =>
    intro i hi
    refine ev_succ ?_
    simp only [colophonlaw06_IsolateShut.l1]
    simp only [if_neg (show ¬ (i : Int) < (c.length : Int) by omega)]
    exact Shut_l2 c hc (R c c.length).length 0 (by omega)
  | succ d ih =>
    intro i hi
    have hic : i < c.length := by omega
    have ih := ih (i + 1) (by omega)
    refine ev_succ ?_
    simp only [colophonlaw06_IsolateShut.l1]
    simp only [mts_length, rd_nat, mts_get c i hic, mts_get (own c) i (by omega), if_pos (show (i : Int) < (c.length : Int) by omega), if_pos (Int.natCast_nonneg i), if_pos (show (i : Int) < ((own c).length : Int) by omega), law_starts, Option.bind_some, w64 (show i < 9223372036854775807 by omega)]
    by_cases hs : st (c.getD i 0) = true
    · simp only [if_pos hs]
      have hm : mtc c i = ((partner c i : Nat) : Int) := by unfold mtc; rw [if_pos hs]
      have hmo : mtc (own c) i = ((partner (own c) i : Nat) : Int) := by
        unfold mtc own
        rw [getD_left hic, if_pos hs]
      have hle := partner_le c i hic
      by_cases hp : partner c i < c.length
      · have : partner (own c) i = partner c i := partner_left hic hp
        rw [this] at hmo
        simp only [hm, hmo, if_neg (show ¬ ((partner c i : Nat) : Int) = ((own c).length : Int) by omega), if_pos (show ((partner c i : Nat) : Int) < (c.length : Int) by omega), if_true]
        exact ih
      · have := shut_open c hic hs (by omega)
        have h2 : partner (own c) i < (own c).length := by rw [hl]; exact this.2
        simp only [hm, hmo, if_neg (show ¬ ((partner (own c) i : Nat) : Int) = ((own c).length : Int) by omega), if_neg (show ¬ ((partner c i : Nat) : Int) < (c.length : Int) by omega)]
        exact ih
    · simp only [if_neg hs]
      exact ih
theorem Shut_l0 : ∀ d i, i + d = c.length → Ev (fun k => colophonlaw06_IsolateShut.l0 k c (mts c) (c ++ List.replicate (cntP (fun k => st (c.getD k 0) && decide (partner c k = c.length)) i) 23) c (c.length : Int) (i : Int)) true := by
  intro d
  induction d with
  | zero =>
    intro i hi
    refine ev_succ ?_
    simp only [colophonlaw06_IsolateShut.l0]
    simp only [if_neg (show ¬ (i : Int) < (c.length : Int) by omega)]
    rw [show i = c.length by omega, cnt_all c]
    refine Ev.bind (Match_ev (own c) (own_le c hc)) ?_
    have e : c ++ List.replicate (R c c.length).length 23 = own c := rfl
    simp only [mts_length, e, if_true]
    exact Shut_l1 c hc c.length 0 (by omega)
  | succ d ih =>
    intro i hi
    have hic : i < c.length := by omega
    have ih := ih (i + 1) (by omega)
    have hcl := cntP_le (fun k => st (c.getD k 0) && decide (partner c k = c.length)) i
    simp only [cntP] at ih
    refine ev_succ ?_
    simp only [colophonlaw06_IsolateShut.l0]
    simp only [mts_length, rd_nat, mts_get c i hic, if_pos (show (i : Int) < (c.length : Int) by omega), if_pos (Int.natCast_nonneg i), law_starts, Option.bind_some, w64 (show i < 9223372036854775807 by omega)]
    by_cases hs : st (c.getD i 0) = true
    · simp only [if_pos hs]
      have hm : mtc c i = ((partner c i : Nat) : Int) := by unfold mtc; rw [if_pos hs]
      by_cases hp : partner c i = c.length
      · rw [if_pos (by rw [hs, decide_eq_true hp]; rfl), List.replicate_succ', ← List.append_assoc] at ih
        simp only [hm, if_pos (show ((partner c i : Nat) : Int) = (c.length : Int) by omega), if_pos (show (c ++ List.replicate (cntP (fun k => st (c.getD k 0) && decide (partner c k = c.length)) i) (23 : Int)).length < 17592186044416 by rw [List.length_append, List.length_replicate]; omega)]
        exact ih
      · rw [if_neg (by rw [decide_eq_false hp]; simp)] at ih
        simp only [hm, if_neg (show ¬ ((partner c i : Nat) : Int) = (c.length : Int) by omega)]
        exact ih
    · rw [if_neg (by rw [Bool.eq_false_iff.2 hs]; simp)] at ih
      simp only [if_neg hs]
      exact ih
end

theorem IsolateShut : Upto.IsolateShut := by
  intro c _ _ _ hc
  refine Ev.rounds (g := fun k => colophonlaw06_IsolateShut.f k c) ?_
  simp only [colophonlaw06_IsolateShut.f]
  refine Ev.bind works_ev ?_
  simp only [if_true]
  refine Ev.bind (Match_ev c (by omega)) ?_
  simp only [Option.bind_some, List.nil_append, if_pos (show ([] : List Int).length + c.length < 17592186044416 by simp; omega)]
  have := Shut_l0 c hc c.length 0 (by omega)
  simp only [cntP, List.replicate_zero, List.append_nil] at this
  exact this
end Go.Proofs.Ytgjmfeijfkbceaa.Pure
