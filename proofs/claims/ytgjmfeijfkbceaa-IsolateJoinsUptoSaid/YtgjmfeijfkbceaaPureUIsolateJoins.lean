/- The pure statement of IsolateJoins: two stretches that leave one another's isolates alone match as they do by themselves; condition: each has at most 1048576 places. -/
import Derived.Test.YtgjmfeijfkbceaaUptoIsolateJoins
import Derived.Test.YtgjmfeijfkbceaaIsoFn
namespace Go.Proofs.Ytgjmfeijfkbceaa.Pure
open Go.RowKit Go.Proofs.Ytgjmfeijfkbceaa.X Go.Proofs.YtgjmfeijfkbceaaW.PrintWords Go.Proofs.YtgjmfeijfkbceaaW.PrintLast Go.Proofs.Ytgjmfeijfkbceaa.Iso

theorem law_starts (x : Int) : colophonlaw06_starts.f x = some (st x) := by
  by_cases h1 : x = 20 <;> by_cases h2 : x = 21 <;> by_cases h3 : x = 22 <;> simp [colophonlaw06_starts.f, st, h1, h2, h3]

section
variable (a b : List Int) (ha : a.length ≤ 17592186043904) (hb : b.length ≤ 17592186043904)
  (hA : ∀ i, i < a.length → st (a.getD i 0) = true → partner a i ≠ a.length) (hB : ∀ j, j < b.length → b.getD j 0 = 23 → 0 ≤ mtc b j)
include ha hb hA hB

omit hB in
theorem Joins_end (hc : (a ++ b).length ≤ 17592186043904) : Ev (fun k => colophonlaw06_IsolateJoins.l3 k a (mts b) (a ++ b) (mts (a ++ b)) (b.length : Int) (b.length : Int)) true := by
  have hE := R_end a hA
  refine ev_succ ?_
  simp only [colophonlaw06_IsolateJoins.l3]
  simp only [if_neg (show ¬ (b.length : Int) < (b.length : Int) by omega)]
  have hl : (a ++ b).length = a.length + b.length := List.length_append
  have h1 := Base_ev a ha 0 a.length (by omega) (Nat.le_refl _)
  have h2 := Base_ev (a ++ b) hc 0 (a ++ b).length (by omega) (Nat.le_refl _)
  have h3 := Base_ev (a ++ b) hc a.length (a ++ b).length (by omega) (Nat.le_refl _)
  rw [List.take_length, List.drop_zero] at h1 h2
  rw [List.take_length, List.drop_left] at h3
  refine Ev.bind h1 ?_
  refine Ev.bind h2 ?_
  refine Ev.bind h3 ?_
  simp only [if_true]
  obtain ⟨j1, j2⟩ := bs_join a b hE
  rcases bs_range a 0 with e | e
  · rw [e] at j2
    simp only [e, if_true]
    by_cases e2 : bs (a ++ b) 0 = 0
    · simp only [if_pos e2]
      exact Ev.now _
    · have e3 : bs b 0 = 1 := by
        rcases bs_range (a ++ b) 0 with h | h
        · exact absurd h e2
        · rcases j2 with h' | h'
          · exact absurd h' e2
          · omega
      simp only [if_neg e2, e3]
      exact Ev.now _
  · have e2 := j1 e
    simp only [e, e2, if_neg (show ¬ (1 : Int) = 0 by omega), if_true]
    exact Ev.now _
theorem Joins_l3 (hc : (a ++ b).length ≤ 17592186043904) : ∀ d i, i + d = b.length → Ev (fun k => colophonlaw06_IsolateJoins.l3 k a (mts b) (a ++ b) (mts (a ++ b)) (b.length : Int) (i : Int)) true := by
  have hE := R_end a hA
  have hl : (a ++ b).length = a.length + b.length := List.length_append
  intro d
  induction d with
  | zero =>
    intro i hi
    rw [show i = b.length by omega]
    exact Joins_end a b ha hb hA hc
  | succ d ih =>
    intro i hi
    have hic : i < b.length := by omega
    have hw : wrap64 ((a.length : Int) + (i : Int)) = ((a.length + i : Nat) : Int) := by rw [w64' (by omega) (by omega)]; omega
    have hmr := mt_right (a := a) hE (hB i hic)
    have hml : -1 ≤ mtc b i ∧ mtc b i ≤ b.length := by
      unfold mtc
      split
      · have := partner_le b i hic
        omega
      · split
        · cases hR : R b i with
          | nil => simp [mate]
          | cons k t =>
            have := R_lt b i k (by rw [hR]; exact List.mem_cons_self)
            simp only [mate]
            omega
        · omega
    refine ev_succ ?_
    simp only [colophonlaw06_IsolateJoins.l3]
    simp only [hw, mts_length, rd_nat, mts_get b i hic, mts_get (a ++ b) (a.length + i) (by omega), hmr, if_pos (show (i : Int) < (b.length : Int) by omega), if_pos (Int.natCast_nonneg i), if_pos (Int.natCast_nonneg (a.length + i)), if_pos (show ((a.length + i : Nat) : Int) < ((a ++ b).length : Int) by omega), w64' (i := (a.length : Int) + mtc b i) (by omega) (by omega), if_true, w64 (show i < 9223372036854775807 by omega)]
    exact ih (i + 1) (by omega)
theorem Joins_l2 (hc : (a ++ b).length ≤ 17592186043904) : ∀ d i, i + d = a.length → Ev (fun k => colophonlaw06_IsolateJoins.l2 k a b (mts a) (mts b) (a ++ b) (mts (a ++ b)) (a.length : Int) (i : Int)) true := by
  have hl : (a ++ b).length = a.length + b.length := List.length_append
  intro d
  induction d with
  | zero =>
    intro i hi
    refine ev_succ ?_
    simp only [colophonlaw06_IsolateJoins.l2]
    simp only [if_neg (show ¬ (i : Int) < (a.length : Int) by omega)]
    exact Joins_l3 a b ha hb hA hB hc b.length 0 (by omega)
  | succ d ih =>
    intro i hi
    have hic : i < a.length := by omega
    refine ev_succ ?_
    simp only [colophonlaw06_IsolateJoins.l2]
    simp only [mts_length, rd_nat, mts_get a i hic, mts_get (a ++ b) i (by omega), mt_left hA hic, if_pos (show (i : Int) < (a.length : Int) by omega), if_pos (Int.natCast_nonneg i), if_pos (show (i : Int) < ((a ++ b).length : Int) by omega), if_true, w64 (show i < 9223372036854775807 by omega)]
    exact ih (i + 1) (by omega)
end

theorem Joins_l1 (a b : List Int) (ha : a.length ≤ 17592186043904) (hb : b.length ≤ 17592186043904) (hab : a.length + b.length ≤ 17592186043904)
    (hA : ∀ i, i < a.length → st (a.getD i 0) = true → partner a i ≠ a.length) : ∀ d i, i + d = b.length → (∀ j, j < i → b.getD j 0 = 23 → 0 ≤ mtc b j) →
    Ev (fun k => colophonlaw06_IsolateJoins.l1 k a b (mts a) (mts b) b (b.length : Int) (i : Int)) true := by
  intro d
  induction d with
  | zero =>
    intro i hi hB
    have hl : (a ++ b).length = a.length + b.length := List.length_append
    refine ev_succ ?_
    simp only [colophonlaw06_IsolateJoins.l1]
    simp only [if_neg (show ¬ (i : Int) < (b.length : Int) by omega), Option.bind_some, List.nil_append, if_pos (show ([] : List Int).length + a.length < 17592186044416 by simp; omega), if_pos (show a.length + b.length < 17592186044416 by omega)]
    refine Ev.bind (Match_ev (a ++ b) (by omega)) ?_
    simp only [mts_length, if_true]
    exact Joins_l2 a b ha hb hA (fun j hj => hB j (by omega)) (by omega) a.length 0 (by omega)
  | succ d ih =>
    intro i hi hB
    have hic : i < b.length := by omega
    refine ev_succ ?_
    simp only [colophonlaw06_IsolateJoins.l1]
    simp only [mts_length, rd_nat, mts_get b i hic, if_pos (show (i : Int) < (b.length : Int) by omega), if_pos (Int.natCast_nonneg i), w64 (show i < 9223372036854775807 by omega)]
    by_cases h2 : b.getD i 0 = 23
    · simp only [if_pos h2]
      by_cases h3 : mtc b i < 0
      · simp only [if_pos h3]
        exact Ev.now _
      · simp only [if_neg h3]
        refine ih (i + 1) (by omega) fun j hj hj2 => ?_
        by_cases e : j = i
        · subst e
          omega
        · exact hB j (by omega) hj2
    · simp only [if_neg h2]
      refine ih (i + 1) (by omega) fun j hj hj2 => ?_
      by_cases e : j = i
      · subst e
        exact absurd hj2 h2
      · exact hB j (by omega) hj2
theorem Joins_l0 (a b : List Int) (ha : a.length ≤ 17592186043904) (hb : b.length ≤ 17592186043904) (hab : a.length + b.length ≤ 17592186043904) : ∀ d i, i + d = a.length →
    (∀ j, j < i → st (a.getD j 0) = true → partner a j ≠ a.length) → Ev (fun k => colophonlaw06_IsolateJoins.l0 k a b (mts a) (mts b) a (a.length : Int) (i : Int)) true := by
  intro d
  induction d with
  | zero =>
    intro i hi hA
    refine ev_succ ?_
    simp only [colophonlaw06_IsolateJoins.l0]
    simp only [if_neg (show ¬ (i : Int) < (a.length : Int) by omega)]
    exact Joins_l1 a b ha hb hab (fun j hj => hA j (by omega)) b.length 0 (by omega) (fun j hj => by omega)
  | succ d ih =>
    intro i hi hA
    have hic : i < a.length := by omega
    refine ev_succ ?_
    simp only [colophonlaw06_IsolateJoins.l0]
    simp only [mts_length, rd_nat, mts_get a i hic, if_pos (show (i : Int) < (a.length : Int) by omega), if_pos (Int.natCast_nonneg i), law_starts, Option.bind_some, w64 (show i < 9223372036854775807 by omega)]
    by_cases hs : st (a.getD i 0) = true
    · simp only [if_pos hs]
      have hm : mtc a i = ((partner a i : Nat) : Int) := by unfold mtc; rw [if_pos hs]
      by_cases hp : partner a i = a.length
      · simp only [hm, if_pos (show ((partner a i : Nat) : Int) = (a.length : Int) by omega)]
        exact Ev.now _
      · simp only [hm, if_neg (show ¬ ((partner a i : Nat) : Int) = (a.length : Int) by omega)]
        refine ih (i + 1) (by omega) fun j hj hj2 => ?_
        by_cases e : j = i
        · subst e
          exact hp
        · exact hA j (by omega) hj2
    · simp only [if_neg hs]
      refine ih (i + 1) (by omega) fun j hj hj2 => ?_
      by_cases e : j = i
      · subst e
        exact absurd hj2 hs
      · exact hA j (by omega) hj2

theorem IsolateJoins : Upto.IsolateJoins := by
  intro a b _ _ _ _ _ _ ha hb
  refine Ev.rounds (g := fun k => colophonlaw06_IsolateJoins.f k a b) ?_
  simp only [colophonlaw06_IsolateJoins.f]
  refine Ev.bind works_ev ?_
  simp only [if_true]
  refine Ev.bind (Match_ev a (by omega)) ?_
  refine Ev.bind (Match_ev b (by omega)) ?_
  exact Joins_l0 a b (by omega) (by omega) (by omega) a.length 0 (by omega) (fun j hj => by omega)
end Go.Proofs.Ytgjmfeijfkbceaa.Pure
