/- What the small functions that Sequences calls come to. -/
import Derived.Test.YteldofimjklckaaX4
import Derived.Test.YteldofimjklckaaX3
import Derived.Test.YteldofimjklckaaLevT
import Derived.Test.YteldofimjklckaaRunM
namespace Go.Proofs.Yteldofimjklckaa.Run
open Go.RowKit Go.Proofs.Yteldofimjklckaa.X Go.Proofs.YteldofimjklckaaW.PrintWords Go.Proofs.YteldofimjklckaaW.PrintLast Go.Proofs.Yteldofimjklckaa.Iso Go.Proofs.Yteldofimjklckaa.Exp
set_option linter.unusedVariables false
set_option linter.unusedSimpArgs false

theorem rstarts_eq (x : Int) : runs_starts.f x = some (st x) := by
  unfold runs_starts.f st
  by_cases h1 : x = 20
  · simp [h1]
  · by_cases h2 : x = 21
    · simp [h2]
    · simp [h1, h2]
theorem mx_eq (a b : Int) : mx a b = max a b := by unfold mx; omega
theorem side_eq (a b : Int) (h : 0 ≤ max a b) : runs_side.f a b = some (sideI a b) := by
  unfold runs_side.f sideI
  rw [mx_eq, Int.tmod_eq_emod_of_nonneg h]
  split <;> rfl
theorem kept_j (k : Nat) (l : List Int) (i s base : Int) (h0 : 0 ≤ i) (h1 : i < (l.length : Int)) : runs_kept.l0 (k + 1 + 1) l i s base = if rd l i ≥ 0 then some (rd l i) else runs_kept.l0 k l (wrap64 (i + s)) s base := by
  simp only [runs_kept.l0, runs_kept.j1, if_pos (show i ≥ 0 from h0), decide_eq_true h1, if_true, if_pos h0, if_pos h1]
theorem kept_out (k : Nat) (l : List Int) (i s base : Int) (h : i < 0 ∨ (l.length : Int) ≤ i) : runs_kept.l0 (k + 1 + 1) l i s base = some base := by
  simp only [runs_kept.l0, runs_kept.j1]
  split
  · rw [decide_eq_false (by omega)]
    simp
  · simp
theorem kp_rd (l : List Int) (i : Nat) (hi : i < l.length) : (rd l (i : Int) ≥ 0 ↔ kp l i = true) ∧ rd l (i : Int) = l.getD i (-1) := by
  rw [rd_nat, ← getD_same l i hi]
  exact ⟨by unfold kp; simp, rfl⟩
theorem keptB_ev (l : List Int) (base : Int) (hl : l.length ≤ 1048576) : ∀ h : Nat, h ≤ l.length → Ev (fun k => runs_kept.f k l ((h : Int) - 1) (-1) base) (keptB l base h) := by
  intro h
  induction h with
  | zero =>
    intro _
    refine ev_succ (ev_succ ?_)
    simp only [runs_kept.f]
    have : keptB l base 0 = base := rfl
    simp only [kept_out _ l ((0 : Nat) - 1 : Int) (-1) base (by omega), this]
    exact Ev.now _
  | succ h ih =>
    intro hh
    have ih' := ih (by omega)
    have e0 : (((h + 1 : Nat) : Int) - 1) = (h : Int) := by omega
    refine ev_succ (ev_succ ?_)
    simp only [runs_kept.f, e0, kept_j _ l (h : Int) (-1) base (by omega) (by omega)]
    obtain ⟨h1, h2⟩ := kp_rd l h (by omega)
    by_cases hk : kp l h = true
    · have e : keptB l base (h + 1) = l.getD h (-1) := by unfold keptB; rw [prv, if_pos hk]
      simp only [if_pos (h1.2 hk)]
      rw [e, h2]
      exact Ev.now _
    · have e : keptB l base (h + 1) = keptB l base h := by unfold keptB; rw [prv, if_neg hk]
      simp only [if_neg (fun q => hk (h1.1 q))]
      rw [e, show wrap64 ((h : Int) + -1) = (h : Int) - 1 by unfold wrap64; omega]
      exact ih'
theorem keptA_ev0 (l : List Int) (base : Int) (hl : l.length ≤ 1048576) : ∀ (d i : Nat), i + d = l.length → Ev (fun k => runs_kept.f k l (i : Int) 1 base) (match nxt l d i with | none => base | some k => l.getD k (-1)) := by
  intro d
  induction d with
  | zero =>
    intro i hi
    refine ev_succ (ev_succ ?_)
    simp only [runs_kept.f, nxt, kept_out _ l (i : Int) 1 base (by omega)]
    exact Ev.now _
  | succ d ih =>
    intro i hi
    have ih' := ih (i + 1) (by omega)
    refine ev_succ (ev_succ ?_)
    simp only [runs_kept.f, kept_j _ l (i : Int) 1 base (by omega) (by omega)]
    obtain ⟨h1, h2⟩ := kp_rd l i (by omega)
    by_cases hk : kp l i = true
    · simp only [if_pos (h1.2 hk), nxt, if_pos hk]
      rw [h2]
      exact Ev.now _
    · simp only [if_neg (fun q => hk (h1.1 q)), nxt, if_neg hk]
      rw [w64 (by omega)]
      exact ih'
theorem keptA_ev (l : List Int) (base : Int) (hl : l.length ≤ 1048576) (i : Nat) (hi : i ≤ l.length) : Ev (fun k => runs_kept.f k l (i : Int) 1 base) (keptA l base i) := keptA_ev0 l base hl (l.length - i) i (by omega)
/-- A sequence as the print has it. -/
def toS (q : Sq) : S36 := ⟨toI q.1, q.2.1, q.2.2.1, q.2.2.2⟩
end Go.Proofs.Yteldofimjklckaa.Run
