import Derived.Test.YthokljlalgclkaaX5
import Derived.Test.YthokljlalgclkaaWorksT
import Derived.Test.YthokljlalgclkaaExpLaw
namespace Go.Proofs.Ythokljlalgclkaa.Pure
open Go.RowKit Go.Proofs.Ythokljlalgclkaa.X Go.Proofs.Ythokljlalgclkaa.G Go.Proofs.Ythokljlalgclkaa.Exp Go.Proofs.Ythokljlalgclkaa.Iso Go.Proofs.YthokljlalgclkaaW.PrintWords Go.Proofs.YthokljlalgclkaaW.PrintLast

/-- No embedding, no override, no initiator so far. -/
def pl (c : List Int) : Nat → Bool
  | 0 => true
  | i + 1 => pl c i && !emd (c.getD i 0) && !st (c.getD i 0)
theorem pl_all (c : List Int) : ∀ i, pl c i = true → ∀ k, k < i → emd (c.getD k 0) = false ∧ st (c.getD k 0) = false
  | 0, _, k, hk => by omega
  | i + 1, h, k, hk => by
    simp only [pl, Bool.and_eq_true, Bool.not_eq_true'] at h
    by_cases e : k = i
    · rw [e]; exact ⟨h.1.2, h.2⟩
    · exact pl_all c i h.1.1 k (by omega)
theorem rem_st {x : Int} (h : st x = true) : rem x = false ∧ x ≠ 11 ∧ x ≠ 23 := by
  rcases (st_iff x).1 h with rfl | rfl | rfl <;> decide
/-- An initiator and its PDI. -/
theorem pair (c : List Int) {base : Int} (hB : base = 0 ∨ base = 1) (i : Nat) (hi : i < c.length) (hs : st (c.getD i 0) = true) (hp : partner c i < c.length) :
    lv c base (partner c i) = lv c base i ∧ ((ty c base i == c.getD i 0) != (ty c base (partner c i) == 23)) = false ∧ (ty c base i ≠ c.getD i 0 → ty c base i = ty c base (partner c i)) := by
  have h23 := partner_pdi c i hi hp
  obtain ⟨r1, r2, r3⟩ := rem_st hs
  have m1 : met c base i = sts c base i := met_at c base i r3
  have m2 : met c base (partner c i) = sts c base i := by unfold met; rw [if_pos h23]; exact sts_skip c base i hi hs hp
  have l1 : lv c base i = (top (sts c base i)).lvl := by unfold lv; rw [if_neg (by rw [r1]; simp), if_neg r2, m1]
  have l2 : lv c base (partner c i) = (top (sts c base i)).lvl := by unfold lv; rw [if_neg (by rw [h23]; decide), if_neg (by rw [h23]; decide), m2]
  have t1 : ty c base i = if (top (sts c base i)).frc ≠ 0 then (top (sts c base i)).frc else c.getD i 0 := by unfold ty; rw [if_neg (fun h => h.elim (fun h => by rw [r1] at h; cases h) r2), m1]
  have t2 : ty c base (partner c i) = if (top (sts c base i)).frc ≠ 0 then (top (sts c base i)).frc else 23 := by unfold ty; rw [if_neg (by rw [h23]; decide), m2, h23]
  have hf : (top (sts c base i)).frc = 0 ∨ (top (sts c base i)).frc = 1 ∨ (top (sts c base i)).frc = 2 := ((sts_inv c (base := base) (by omega) i).good.hd (by omega)).2.2
  refine ⟨by rw [l1, l2], ?_⟩
  rcases hf with e | e | e <;> rw [e] at t1 t2
  · rw [if_neg (by simp)] at t1 t2
    rw [t1, t2]; simp
  · rw [if_pos (by decide)] at t1 t2
    rw [t1, t2]
    rcases (st_iff _).1 hs with h | h | h <;> rw [h] <;> exact ⟨by decide, fun _ => rfl⟩
  · rw [if_pos (by decide)] at t1 t2
    rw [t1, t2]
    rcases (st_iff _).1 hs with h | h | h <;> rw [h] <;> exact ⟨by decide, fun _ => rfl⟩
theorem flat (c : List Int) (base : Int) (h : pl c c.length = true) (i : Nat) (hi : i < c.length) : (lv c base i = base ∨ lv c base i = -1) ∧ ty c base i = c.getD i 0 := by
  have hall := pl_all c c.length h
  have hs : ∀ j, j ≤ c.length → sts c base j = s0 base := fun j hj => plain_sts c base j (fun k hk => hall k (by omega))
  have hm : met c base i = s0 base := by
    unfold met
    split
    · exact hs _ (by omega)
    · exact hs _ (by omega)
  constructor
  · unfold lv
    rw [hm]
    split
    · exact .inr rfl
    · split
      · exact .inl rfl
      · exact .inl rfl
  · unfold ty
    rw [hm]
    split
    · rfl
    · rfl
theorem Pairs_l1 (c : List Int) (base : Int) (hl : c.length ≤ 2000) : ∀ (d i : Nat), i + d = c.length → Ev (fun k => colophonlaw07_ExplicitPairs.l1 k c base (lvs c base) (tys c base) (pl c c.length) (i : Int)) true := by
  intro d
  induction d with
  | zero =>
    intro i hi
    refine ev_succ ?_
    simp only [colophonlaw07_ExplicitPairs.l1, if_neg (show ¬ (i : Int) < (c.length : Int) by omega)]
    refine ev_succ ?_
    simp only [colophonlaw07_ExplicitPairs.j5, Bool.false_eq_true, if_false]
    exact Ev.now true
  | succ d ih =>
    intro i hi
    have hic : i < c.length := by omega
    have hgo := ih (i + 1) (by omega)
    refine ev_succ ?_
    simp only [colophonlaw07_ExplicitPairs.l1, if_pos (show (i : Int) < (c.length : Int) by omega)]
    refine ev_succ ?_
    cases hp : pl c c.length with
    | false =>
      simp only [colophonlaw07_ExplicitPairs.j5, Bool.false_eq_true, if_false]
      exact Ev.now true
    | true =>
      rw [hp] at hgo
      obtain ⟨h1, h2⟩ := flat c base hp i hic
      simp only [colophonlaw07_ExplicitPairs.j5, if_true, if_pos (Int.natCast_nonneg i), if_pos (show (i : Int) < (c.length : Int) by omega), rd_nat, lvs_length, tys_length, lvs_get c base i hic, tys_get c base i hic, h2, w64 (show i < 9223372036854775807 by omega)]
      by_cases e : lv c base i = base
      · simp only [if_pos e]; exact hgo
      · simp only [if_neg e, if_pos (h1.resolve_left e)]; exact hgo
theorem Pairs_l0 (c : List Int) {base : Int} (hl : c.length ≤ 2000) (hB : base = 0 ∨ base = 1) : ∀ (d i : Nat), i + d = c.length → Ev (fun k => colophonlaw07_ExplicitPairs.l0 k c base (lvs c base) (tys c base) (mts c) (pl c i) c (c.length : Int) (i : Int)) true := by
  intro d
  induction d with
  | zero =>
    intro i hi
    refine ev_succ ?_
    simp only [colophonlaw07_ExplicitPairs.l0, if_neg (show ¬ (i : Int) < (c.length : Int) by omega)]
    have := Pairs_l1 c base hl c.length 0 (by omega)
    rw [show i = c.length by omega]
    exact this
  | succ d ih =>
    intro i hi
    have hic : i < c.length := by omega
    have hgo := ih (i + 1) (by omega)
    -- what follows the test of the class
    have hj3 : ∀ (x9 s : Bool), s = st (c.getD i 0) → (s = false → x9 = pl c (i + 1)) → Ev (fun k => colophonlaw07_ExplicitPairs.j3 k c base (lvs c base) (tys c base) (mts c) x9 (i : Int) (c.getD i 0) c (c.length : Int) (i : Int) s) true := by
      intro x9 s hs hx
      refine ev_succ ?_
      cases s with
      | false =>
        simp only [colophonlaw07_ExplicitPairs.j3, Bool.false_eq_true, if_false, w64 (show i < 9223372036854775807 by omega), hx rfl]
        exact hgo
      | true =>
        have hpl : pl c (i + 1) = false := by rw [pl, ← hs]; cases pl c i <;> cases emd (c.getD i 0) <;> rfl
        rw [hpl] at hgo
        have hm : mtc c i = (partner c i : Int) := by unfold mtc; rw [if_pos hs.symm]
        simp only [colophonlaw07_ExplicitPairs.j3, if_true, if_pos (Int.natCast_nonneg i), if_pos (show (i : Int) < (c.length : Int) by omega), rd_nat, mts_length, lvs_length, tys_length, mts_get c i hic, hm, if_pos (Int.natCast_nonneg (partner c i)), lvs_get c base i hic, tys_get c base i hic, w64 (show i < 9223372036854775807 by omega)]
        by_cases hp : (partner c i : Int) < (c.length : Int)
        · have hp' : partner c i < c.length := by omega
          obtain ⟨q1, q2, q3⟩ := pair c hB i hic hs.symm hp'
          simp only [if_pos hp, lvs_get c base _ hp', tys_get c base _ hp', if_pos q1, q2, Bool.false_eq_true, if_false]
          by_cases e : ty c base i = c.getD i 0
          · simp only [if_pos e]; exact hgo
          · simp only [if_neg e, if_pos (q3 e)]; exact hgo
        · simp only [if_neg hp]
          exact hgo
    have hj2 : ∀ x9, (st (c.getD i 0) = false → x9 = pl c (i + 1)) → Ev (fun k => colophonlaw07_ExplicitPairs.j2 k c base (lvs c base) (tys c base) (mts c) x9 (i : Int) (c.getD i 0) c (c.length : Int) (i : Int)) true := by
      intro x9 hx
      refine ev_succ ?_
      simp only [colophonlaw07_ExplicitPairs.j2]
      by_cases h1 : c.getD i 0 = 21
      · simp only [if_pos h1]
        exact hj3 x9 true (by rw [h1]; rfl) (by simp)
      · simp only [if_neg h1]
        by_cases h2 : c.getD i 0 = 20
        · simp only [if_pos h2]
          exact hj3 x9 true (by rw [h2]; rfl) (by simp)
        · simp only [if_neg h2]
          have e : (c.getD i 0 == 22) = st (c.getD i 0) := by unfold st; rw [beq_eq_false_iff_ne.2 h1, beq_eq_false_iff_ne.2 h2]; rfl
          exact hj3 x9 _ e (fun h => hx (by rw [← e]; exact h))
    have hfin : st (c.getD i 0) = false → ∀ b, b = (pl c i && !emd (c.getD i 0)) → b = pl c (i + 1) := fun h b hb => by rw [hb, pl, h]; cases pl c i <;> cases emd (c.getD i 0) <;> rfl
    refine ev_succ ?_
    simp only [colophonlaw07_ExplicitPairs.l0, if_pos (show (i : Int) < (c.length : Int) by omega), if_pos (Int.natCast_nonneg i), rd_nat]
    cases hp : pl c i with
    | false =>
      simp only [Bool.false_eq_true, if_false]
      exact hj2 false (fun h => hfin h false (by rw [hp]; rfl))
    | true =>
      simp only [if_true]
      by_cases h1 : c.getD i 0 = 17
      · simp only [if_pos h1]
        exact hj2 false (fun h => hfin h false (by rw [h1]; simp [emd]))
      · simp only [if_neg h1]
        by_cases h2 : c.getD i 0 = 15
        · simp only [if_pos h2]
          exact hj2 false (fun h => hfin h false (by rw [h2]; simp [emd]))
        · simp only [if_neg h2]
          by_cases h3 : c.getD i 0 = 18
          · simp only [if_pos h3]
            exact hj2 false (fun h => hfin h false (by rw [h3]; simp [emd]))
          · simp only [if_neg h3]
            refine hj2 _ (fun h => hfin h _ ?_)
            rw [hp]
            unfold emd
            rw [beq_eq_false_iff_ne.2 h1, beq_eq_false_iff_ne.2 h2, beq_eq_false_iff_ne.2 h3]
            rfl
theorem ExplicitPairs : colophonlaw07_ExplicitPairs.Pure := by
  intro c base _ _ _ _
  refine Ev.rounds (g := fun k => colophonlaw07_ExplicitPairs.f k c base) ?_
  simp only [colophonlaw07_ExplicitPairs.f]
  refine Ev.bind works_ev ?_
  simp only [if_true]
  by_cases hl : (c.length : Int) > 2000
  · simp only [if_pos hl]; exact Ev.now true
  · simp only [if_neg hl]
    by_cases h : (base = 0 ∨ base = 1) ∧ formed c
    · simp only [res_ok c base (by omega) h.1 h.2, Option.bind_some, if_true]
      refine Ev.bind (Match_ev c (by omega)) ?_
      simp only [mts_length, lvs_length, tys_length, if_true, bne_self_eq_false]
      refine ev_succ ?_
      simp only [colophonlaw07_ExplicitPairs.j0, Bool.false_eq_true, if_false]
      exact Pairs_l0 c (by omega) h.1 c.length 0 (by omega)
    · obtain ⟨e, he, hres⟩ := res_no c base (by omega) h
      simp only [hres, Option.bind_some, if_neg he, List.length_nil]
      exact Ev.now true
end Go.Proofs.Ythokljlalgclkaa.Pure
