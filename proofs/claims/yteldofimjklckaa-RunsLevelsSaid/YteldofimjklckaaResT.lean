/- What formed and right come to, and the guard of Resolve. -/
import Derived.Test.YteldofimjklckaaX2
import Derived.Test.YteldofimjklckaaX3
import Derived.Test.YteldofimjklckaaIsoP
import Derived.Test.YteldofimjklckaaRunM
namespace Go.Proofs.Yteldofimjklckaa.Exp
open Go.RowKit Go.Proofs.Yteldofimjklckaa.X Go.Proofs.YteldofimjklckaaW.PrintWords Go.Proofs.YteldofimjklckaaW.PrintLast Go.Proofs.Yteldofimjklckaa.Iso

def okcB (c : List Int) (i : Nat) : Bool := decide (1 ≤ c.getD i 0) && decide (c.getD i 0 ≤ 23) && (decide (c.getD i 0 ≠ 11) || decide (i + 1 = c.length))
theorem okcB_iff (c : List Int) (i : Nat) : okcB c i = true ↔ okc c i := by
  unfold okcB okc
  simp only [Bool.and_eq_true, Bool.or_eq_true, decide_eq_true_eq]
  constructor
  · rintro ⟨⟨a, b⟩, d⟩
    exact ⟨a, b, fun h => d.resolve_left (fun n => n h)⟩
  · rintro ⟨a, b, d⟩
    refine ⟨⟨a, b⟩, ?_⟩
    by_cases h : c.getD i 0 = 11
    · exact .inr (d h)
    · exact .inl h
def formedB (c : List Int) : Bool := (List.range c.length).all (okcB c)
theorem formedB_iff (c : List Int) : formedB c = true ↔ formed c := by
  unfold formedB formed
  rw [List.all_eq_true]
  constructor
  · intro h i hi
    exact (okcB_iff c i).1 (h i (List.mem_range.2 hi))
  · intro h i hi
    exact (okcB_iff c i).2 (h i (List.mem_range.1 hi))
theorem formed_l0 (c : List Int) (hb : c.length ≤ 17592186043904) : ∀ (d i : Nat), i + d = c.length → (∀ j, j < i → okc c j) → Ev (fun k => explicit_formed.l0 k c c (c.length : Int) (i : Int)) (formedB c) := by
  intro d
  induction d with
  | zero =>
    intro i hi hj
    refine ev_succ ?_
    simp only [explicit_formed.l0, if_neg (show ¬ (i : Int) < (c.length : Int) by omega)]
    rw [(formedB_iff c).2 (fun j h => hj j (by omega))]
    exact Ev.now _
  | succ d ih =>
    intro i hi hj
    have hno : ¬ okc c i → formedB c = false := fun h => by
      cases hf : formedB c with
      | false => rfl
      | true => exact absurd ((formedB_iff c).1 hf i (by omega)) h
    refine ev_succ ?_
    simp only [explicit_formed.l0, if_pos (show (i : Int) < (c.length : Int) by omega), if_pos (Int.natCast_nonneg i), rd_nat, w64 (show i < 9223372036854775807 by omega)]
    by_cases h1 : c.getD i 0 < 1
    · simp only [if_pos h1]
      rw [hno (fun h => by have := h.1; omega)]
      exact Ev.now _
    · simp only [if_neg h1]
      by_cases h2 : c.getD i 0 > 23
      · simp only [if_pos h2]
        rw [hno (fun h => by have := h.2.1; omega)]
        exact Ev.now _
      · simp only [if_neg h2]
        have hgo : okc c i → Ev (fun k => explicit_formed.l0 k c c (c.length : Int) ((i + 1 : Nat) : Int)) (formedB c) := fun h => ih (i + 1) (by omega) (fun j hj' => by
          by_cases e : j = i
          · rw [e]; exact h
          · exact hj j (by omega))
        by_cases h3 : c.getD i 0 = 11
        · simp only [if_pos h3]
          by_cases h4 : ((i + 1 : Nat) : Int) < (c.length : Int)
          · simp only [if_pos h4]
            rw [hno (fun h => by have := h.2.2 h3; omega)]
            exact Ev.now _
          · simp only [if_neg h4]
            exact hgo ⟨by omega, by omega, fun _ => by omega⟩
        · simp only [if_neg h3]
          exact hgo ⟨by omega, by omega, fun h => absurd h h3⟩
theorem formed_ev (c : List Int) (hb : c.length ≤ 17592186043904) : Ev (fun k => explicit_formed.f k c) (formedB c) := formed_l0 c hb c.length 0 (by omega) (fun j h => by omega)
theorem right_ev (c : List Int) (hb : c.length ≤ 17592186043904) (i : Nat) (hi : i < c.length) (hs : st (c.getD i 0) = true) : Ev (fun k => explicit_right.f k c (mts c) (i : Int)) (rt c i) := by
  simp only [explicit_right.f, if_pos (Int.natCast_nonneg i), if_pos (show (i : Int) < (c.length : Int) by omega), rd_nat, mts_length]
  unfold rt
  by_cases h : c.getD i 0 = 22
  · simp only [if_pos h, w64 (show i < 9223372036854775807 by omega), mts_get c i hi]
    have hm : mtc c i = (partner c i : Int) := by unfold mtc; rw [if_pos hs]
    rw [hm]
    have h1 : i + 1 ≤ partner c i := by unfold partner; exact par_ge _ _ _
    have h2 : partner c i ≤ c.length := partner_le c i hi
    refine Ev.bind (Base_ev c hb (i + 1) (partner c i) h1 h2) ?_
    have e : ((bs ((c.take (partner c i)).drop (i + 1)) 0, (0 : Int)).1 == 1) = decide (bs ((c.take (partner c i)).drop (i + 1)) 0 = 1) := by
      rw [Bool.eq_iff_iff]; simp
    simp only [e]
    exact Ev.now _
  · simp only [if_neg h]
    have e : (c.getD i 0 == 21) = decide (c.getD i 0 = 21) := by rw [Bool.eq_iff_iff]; simp
    rw [e]
    exact Ev.now _
end Go.Proofs.Yteldofimjklckaa.Exp
