import Derived.Test.YteldofimjklckaaX15
import Derived.Test.YteldofimjklckaaWorksT
import Derived.Test.YteldofimjklckaaRunM
namespace Go.Proofs.Yteldofimjklckaa.Pure
open Go.RowKit Go.Proofs.Yteldofimjklckaa.X Go.Proofs.Yteldofimjklckaa.G Go.Proofs.Yteldofimjklckaa.Exp Go.Proofs.Yteldofimjklckaa.Iso Go.Proofs.Yteldofimjklckaa.Run Go.Proofs.YteldofimjklckaaW.PrintWords Go.Proofs.YteldofimjklckaaW.PrintLast
set_option linter.unusedVariables false
set_option linter.unusedSimpArgs false

theorem Removed_eq (x : Int) : explicit_Removed.f x = some (Exp.rem x) := by
  unfold explicit_Removed.f Exp.rem
  by_cases h1 : x = 17 <;> by_cases h2 : x = 15 <;> by_cases h3 : x = 18 <;> by_cases h4 : x = 16 <;> by_cases h5 : x = 19 <;> by_cases h6 : x = 10 <;> simp [h1, h2, h3, h4, h5, h6]
/-- The loop over the classes. -/
theorem sides_l0 (c : List Int) (base : Int) (S : List S36) (hl : c.length ≤ 2000) (hend : Ev (fun k => colophonlaw08_RunsSides.l1 k base S (pl c c.length) (kn c c.length : Int) S (S.length : Int) 0) true) :
    ∀ (d i : Nat), i + d = c.length → Ev (fun k => colophonlaw08_RunsSides.l0 k base S (pl c i) (kn c i : Int) c (c.length : Int) (i : Int)) true := by
  intro d
  induction d with
  | zero =>
    intro i hi
    obtain rfl : i = c.length := by omega
    refine ev_succ ?_
    simp only [colophonlaw08_RunsSides.l0, if_neg (show ¬ (c.length : Int) < (c.length : Int) by omega)]
    exact hend
  | succ d ih =>
    intro i hi
    have hgo := ih (i + 1) (by omega)
    have hkn := kn_le c i
    refine ev_succ ?_
    simp only [colophonlaw08_RunsSides.l0, if_pos (show (i : Int) < (c.length : Int) by omega), if_pos (Int.natCast_nonneg i), rd_nat, w64 (show i < 9223372036854775807 by omega), Removed_eq, Option.bind_some, w64 (show kn c i < 9223372036854775807 by omega)]
    have hp : pl c (i + 1) = (pl c i && (decide (c.getD i 0 < 15) || c.getD i 0 == 19 || c.getD i 0 == 23)) := rfl
    have hk : kn c (i + 1) = kn c i + if Exp.rem (c.getD i 0) = true then 0 else 1 := rfl
    by_cases hr : Exp.rem (c.getD i 0) = true
    · rw [if_pos hr, Nat.add_zero] at hk
      rw [hk] at hgo
      simp only [if_pos hr]
      by_cases h1 : pl c i = true
      · rw [h1, Bool.true_and] at hp
        simp only [h1, if_true]
        by_cases h2 : c.getD i 0 < 15
        · simp only [if_pos h2]
          rw [hp, decide_eq_true h2, Bool.true_or, Bool.true_or] at hgo
          exact hgo
        · rw [decide_eq_false h2, Bool.false_or] at hp
          simp only [if_neg h2]
          by_cases h3 : c.getD i 0 = 19
          · simp only [if_pos h3]
            rw [hp, beq_iff_eq.2 h3, Bool.true_or] at hgo
            exact hgo
          · rw [beq_eq_false_iff_ne.2 h3, Bool.false_or] at hp
            simp only [if_neg h3]
            rw [hp] at hgo
            exact hgo
      · rw [show pl c i = false by simpa using h1, Bool.false_and] at hp
        simp only [if_neg h1]
        rw [hp] at hgo
        exact hgo
    · rw [if_neg hr] at hk
      rw [hk] at hgo
      simp only [if_neg hr]
      by_cases h1 : pl c i = true
      · rw [h1, Bool.true_and] at hp
        simp only [h1, if_true]
        by_cases h2 : c.getD i 0 < 15
        · simp only [if_pos h2]
          rw [hp, decide_eq_true h2, Bool.true_or, Bool.true_or] at hgo
          exact hgo
        · rw [decide_eq_false h2, Bool.false_or] at hp
          simp only [if_neg h2]
          by_cases h3 : c.getD i 0 = 19
          · simp only [if_pos h3]
            rw [hp, beq_iff_eq.2 h3, Bool.true_or] at hgo
            exact hgo
          · rw [beq_eq_false_iff_ne.2 h3, Bool.false_or] at hp
            simp only [if_neg h3]
            rw [hp] at hgo
            exact hgo
      · rw [show pl c i = false by simpa using h1, Bool.false_and] at hp
        simp only [if_neg h1]
        rw [hp] at hgo
        exact hgo
/-- The loop over the sequences. -/
theorem sides_l1 (base : Int) (S : List S36) (p : Bool) (n : Nat) (hl : S.length ≤ 2000) (hS : ∀ x ∈ S, (x.f2 = 1 ∨ x.f2 = 2) ∧ (x.f3 = 1 ∨ x.f3 = 2) ∧ base ≤ x.f1)
    (hend : (if p = true then (if (n : Int) = 0 then (some ((S.length : Int) == 0)) else (if (S.length : Int) = 1 then (if 0 < (S.length : Int) then (if (((rd_T36 S 0).f0).length : Int) = (n : Int) then (if ((rd_T36 S 0).f1) = base then (if ((rd_T36 S 0).f2) = (wrap64 (1 + base)) then (some (((rd_T36 S 0).f3) == (wrap64 (1 + base)))) else (some false)) else (some false)) else (some false)) else (none)) else (some false))) else (some true)) = some true) :
    ∀ (d i : Nat), i + d = S.length → Ev (fun k => colophonlaw08_RunsSides.l1 k base S p (n : Int) S (S.length : Int) (i : Int)) true := by
  intro d
  induction d with
  | zero =>
    intro i hi
    obtain rfl : i = S.length := by omega
    refine ev_succ ?_
    simp only [colophonlaw08_RunsSides.l1, if_neg (show ¬ (S.length : Int) < (S.length : Int) by omega)]
    rw [hend]
    exact Ev.now _
  | succ d ih =>
    intro i hi
    have hgo := ih (i + 1) (by omega)
    have hm : rd_T36 S (i : Int) ∈ S := by
      unfold rd_T36
      rw [Int.toNat_natCast, List.getD_eq_getElem?_getD, List.getElem?_eq_getElem (by omega)]
      exact List.getElem_mem _
    obtain ⟨h2, h3, h1⟩ := hS _ hm
    refine ev_succ ?_
    simp only [colophonlaw08_RunsSides.l1, if_pos (show (i : Int) < (S.length : Int) by omega), if_pos (Int.natCast_nonneg i), w64 (show i < 9223372036854775807 by omega), if_neg (show ¬ (rd_T36 S (i : Int)).f1 < base by omega)]
    rcases h2 with h2 | h2 <;> rcases h3 with h3 | h3 <;> simp only [h2, h3, if_true, show ((2 : Int) = 1) = False by decide, if_false] <;> exact hgo
theorem RunsSides : colophonlaw08_RunsSides.Pure := by
  intro c base _ _ _ _
  refine Ev.rounds (g := fun k => colophonlaw08_RunsSides.f k c base) ?_
  simp only [colophonlaw08_RunsSides.f, colophonlaw08_works.f, Option.bind_some, if_true]
  by_cases hl : (c.length : Int) > 2000
  · simp only [if_pos hl]; exact Ev.now true
  · simp only [if_neg hl]
    by_cases hq : (base = 0 ∨ base = 1) ∧ formed c
    · obtain ⟨hB, hf⟩ := hq
      have hb0 : 0 ≤ base := by rcases hB with rfl | rfl <;> decide
      have hb : base ≤ 125 := by rcases hB with rfl | rfl <;> decide
      rw [seq_ok c base (by omega) hB hf]
      simp only [Option.bind_some, if_true]
      have hlen : ((seqList c base).map toS).length ≤ 2000 := by
        have := sorted_len (roots c base) 0 c.length roots_sorted (fun x hx => ⟨Nat.zero_le _, (mem_roots.1 hx).1⟩)
        simp only [seqList, List.length_map]
        omega
      have hS : ∀ x ∈ (seqList c base).map toS, (x.f2 = 1 ∨ x.f2 = 2) ∧ (x.f3 = 1 ∨ x.f3 = 2) ∧ base ≤ x.f1 := by
        intro x hx
        obtain ⟨q, hq, rfl⟩ := List.mem_map.1 hx
        obtain ⟨g, hg, rfl⟩ := List.mem_map.1 hq
        obtain ⟨g1, g2, g3⟩ := mem_roots.1 hg
        obtain ⟨_, _, _, e1, e2⟩ := seq_places hf hb0 hb g g2
        have hlv := of_decide_eq_true e2
        rw [lvs_at c base _ e1] at hlv
        refine ⟨sideI_two _ _, ?_, ?_⟩
        · show (if _ then _ else _) = (1 : Int) ∨ (if _ then _ else _) = (2 : Int)
          split
          · exact sideI_two _ _
          · exact sideI_two _ _
        · show base ≤ lv c base ((places c base c.length g).getLastD 0)
          rcases lv_ge (c := c) hb0 hb ((places c base c.length g).getLastD 0) with h | h
          · omega
          · exact h.1
      refine sides_l0 c base _ (by omega) (sides_l1 base _ _ _ hlen hS ?_ _ 0 (Nat.zero_add _)) c.length 0 (Nat.zero_add _)
      by_cases hp : pl c c.length = true
      · obtain ⟨h1, h2⟩ := plain_seqs hf hb0 hb hp hB
        rw [if_pos hp]
        by_cases h0 : kn c c.length = 0
        · rw [if_pos (by omega), h1 h0]
          rfl
        · obtain ⟨ps, e, hps⟩ := h2 h0
          rw [if_neg (by omega), e]
          simp only [List.map_cons, List.map_nil, List.length_cons, List.length_nil, Nat.zero_add]
          have hr : rd_T36 [toS (ps, base, 1 + base, 1 + base)] 0 = toS (ps, base, 1 + base, 1 + base) := rfl
          rw [hr]
          simp only [toS, toI_length, hps]
          have hw : wrap64 (1 + base) = 1 + base := by rcases hB with rfl | rfl <;> (unfold wrap64; decide)
          rw [hw]
          simp
      · rw [if_neg hp]
    · obtain ⟨e, h0, h1, _⟩ := seq_no c base (by omega) hq
      rw [h1]
      simp only [Option.bind_some, if_neg h0]
      exact Ev.now true
end Go.Proofs.Yteldofimjklckaa.Pure
