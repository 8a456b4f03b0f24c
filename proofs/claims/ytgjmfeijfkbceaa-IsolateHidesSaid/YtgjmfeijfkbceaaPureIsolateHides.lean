/- The pure statement of IsolateHides: what lies in isolates does not bear on the base direction (no condition). -/
import Derived.Test.YtgjmfeijfkbceaaX7
import Derived.Test.YtgjmfeijfkbceaaIsoFn
namespace Go.Proofs.Ytgjmfeijfkbceaa.Pure
open Go.RowKit Go.Proofs.Ytgjmfeijfkbceaa.X Go.Proofs.YtgjmfeijfkbceaaW.PrintWords Go.Proofs.YtgjmfeijfkbceaaW.PrintLast Go.Proofs.Ytgjmfeijfkbceaa.Iso

theorem law_starts (x : Int) : colophonlaw06_starts.f x = some (st x) := by
  by_cases h1 : x = 20 <;> by_cases h2 : x = 21 <;> by_cases h3 : x = 22 <;> simp [colophonlaw06_starts.f, st, h1, h2, h3]

def Like (c y : List Int) : Prop := ∀ j, j < c.length → y.getD j 0 = c.getD j 0 ∨ 0 < dp c j ∧ ¬ st (c.getD j 0) = true ∧ c.getD j 0 ≠ 23 ∧ ¬ st (y.getD j 0) = true ∧ y.getD j 0 ≠ 23
theorem Hides_l0 (c o : List Int) (hc : c.length ≤ 17592186043904) : ∀ d i (y : List Int), i + d = c.length → y.length = c.length → Like c y → Ev (fun k => colophonlaw06_IsolateHides.l0 k c o (dps c) y (c.length : Int) (i : Int)) true := by
  intro d
  induction d with
  | zero =>
    intro i y hi hl hy
    refine ev_succ ?_
    simp only [colophonlaw06_IsolateHides.l0]
    simp only [if_neg (show ¬ (i : Int) < (c.length : Int) by omega)]
    have h1 := Base_ev c hc 0 c.length (by omega) (Nat.le_refl _)
    have h2 := Base_ev y (by omega) 0 y.length (by omega) (Nat.le_refl _)
    have e : bs y 0 = bs c 0 := bs_hide c y hl hy c.length 0 (by omega)
    rw [List.take_length, List.drop_zero] at h1 h2
    rw [hl, e] at h2
    refine Ev.bind h1 ?_
    refine Ev.bind h2 ?_
    simp only [if_true]
    rcases bs_range c 0 with h | h
    · rw [h]
      exact Ev.now _
    · rw [h]
      exact Ev.now _
  | succ d ih =>
    intro i y hi hl hy
    have hic : i < c.length := by omega
    have same := ih (i + 1) y (by omega) hl hy
    refine ev_succ ?_
    simp only [colophonlaw06_IsolateHides.l0]
    simp only [dps_length, hl, rd_nat, Int.toNat_natCast, dps_get c i hic, if_pos (show (i : Int) < (c.length : Int) by omega), if_pos (Int.natCast_nonneg i), law_starts, Option.bind_some, w64 (show i < 9223372036854775807 by omega)]
    by_cases hd : dp c i > 0
    · simp only [if_pos hd]
      by_cases ho : (i : Int) < (o.length : Int)
      · simp only [if_pos ho]
        by_cases h1 : st (c.getD i 0) = true
        · simp only [if_pos h1]
          exact same
        · simp only [if_neg h1]
          by_cases h2 : c.getD i 0 = 23
          · simp only [if_pos h2]
            exact same
          · simp only [if_neg h2]
            by_cases h3 : st (o.getD i 0) = true
            · simp only [if_pos h3]
              exact same
            · simp only [if_neg h3]
              by_cases h4 : o.getD i 0 = 23
              · simp only [if_pos h4]
                exact same
              · simp only [if_neg h4]
                refine ih (i + 1) _ (by omega) (by rw [List.length_set]; exact hl) fun j hj => ?_
                rw [List.getD_eq_getElem?_getD, List.getElem?_set]
                by_cases e : i = j
                · subst e
                  rw [if_pos rfl, if_pos (by omega), Option.getD_some]
                  exact .inr ⟨hd, h1, h2, h3, h4⟩
                · rw [if_neg e, ← List.getD_eq_getElem?_getD]
                  exact hy j hj
      · simp only [if_neg ho]
        exact same
    · simp only [if_neg hd]
      exact same

theorem IsolateHides : colophonlaw06_IsolateHides.Pure := by
  intro c o hm hb hw hm' hb' hw'
  have hc : c.length ≤ 17592186043904 := by omega
  refine Ev.rounds (g := fun k => colophonlaw06_IsolateHides.f k c o) ?_
  simp only [colophonlaw06_IsolateHides.f]
  refine Ev.bind (Depth_ev c hc) ?_
  refine Ev.bind works_ev ?_
  have hb : ((c.length : Int) != (c.length : Int)) = false := by simp
  simp only [if_true, dps_length, hb]
  refine ev_succ ?_
  simp only [colophonlaw06_IsolateHides.j0]
  simp only [Bool.false_eq_true, if_false, Option.bind_some, List.nil_append, if_pos (show ([] : List Int).length + c.length < 17592186044416 by simp; omega)]
  exact Hides_l0 c o hc c.length 0 c (by omega) rfl fun j _ => .inl rfl
end Go.Proofs.Ytgjmfeijfkbceaa.Pure
