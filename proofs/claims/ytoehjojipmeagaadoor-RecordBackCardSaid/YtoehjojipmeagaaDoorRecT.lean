/- Chapter 18 in plain Lean: a record's bytes. -/
import Derived.Test.YtoehjojipmeagaaDoorX1
import Derived.Test.YtoehjojipmeagaaDoorHWorks
import Derived.Test.YtoehjojipmeagaaDoorRefSum
namespace Go.Proofs.YtoehjojipmeagaaDoor.Pure
open Go.RowKit Go.Proofs.YtoehjojipmeagaaDoor.X Go.Proofs.YtoehjojipmeagaaDoor.G Go.Proofs.YtoehjojipmeagaaDoor.T Go.Proofs.YtoehjojipmeagaaDoor.E Go.Proofs.YtoehjojipmeagaaDoor.S Go.Proofs.YtoehjojipmeagaaDoorW.PrintWords Go.Proofs.YtoehjojipmeagaaDoorW.PrintLast Go.Proofs.YtoehjojipmeagaaDoorW.PrintMore
set_option linter.unusedVariables false
set_option linter.unusedSimpArgs false

theorem is_f (a : Int) : colophonref18_is.f a = some (numB a) := by
  unfold colophonref18_is.f numB
  split
  · congr 1; rw [Bool.eq_iff_iff]; simp; omega
  · congr 1; rw [Bool.eq_iff_iff]; simp; omega
theorem digits_step (k : Nat) (n : Int) (o : List Int) (i : Int) (h0 : 0 ≤ n ∧ n ≤ 9223372036854775807) (hi : 0 ≤ i) (ho : i < o.length) (h8 : i < 100) : colophonref18_digits.l0 (k + 1) n o i = colophonref18_digits.l0 k (n / 256) (o.set i.toNat (n % 256)) (i - 1) := by
  simp only [colophonref18_digits.l0]
  rw [if_pos (by omega), if_pos hi, if_pos ho, Int.tdiv_eq_ediv_of_nonneg h0.1, Int.tmod_eq_emod_of_nonneg h0.1, show n % 256 % 256 = n % 256 by omega, show wrap64 (n / 256) = n / 256 by unfold wrap64; omega, show wrap64 (i - 1) = i - 1 by unfold wrap64; omega]
theorem digits_end (k : Nat) (n : Int) (o : List Int) (i : Int) (hi : i < 0) : colophonref18_digits.l0 (k + 1) n o i = some o := by
  simp only [colophonref18_digits.l0]
  rw [if_neg (by omega)]
theorem digits2 (n : Int) (h : 0 ≤ n ∧ n ≤ 4096) : Ev (fun k => colophonref18_digits.f k n 2) [n / 256 % 256, n % 256] := by
  refine ev_succ (ev_succ (ev_succ ?_))
  unfold colophonref18_digits.f
  simp only [if_pos (show (0 : Int) ≤ 2 by omega), if_pos (show (2 : Int).toNat ≤ 281474976710656 by decide), show wrap64 ((2 : Int) - 1) = 1 by unfold wrap64; omega]
  have e : ∀ k, colophonref18_digits.l0 (k + 1 + 1 + 1) n (List.replicate (2 : Int).toNat 0) 1 = some [n / 256 % 256, n % 256] := by
    intro k
    rw [digits_step _ _ _ _ (by omega) (by omega) (by simp) (by omega), digits_step _ _ _ _ (by omega) (by omega) (by simp) (by omega), digits_end _ _ _ _ (by omega)]
    rfl
  simp only [e]
  exact Ev.now _
theorem digits4 (n : Int) (h : numB n = true) : Ev (fun k => colophonref18_digits.f k n 4) (be4 n) := by
  have hn : 1 ≤ n ∧ n ≤ 2147483647 := by simpa [numB] using h
  refine ev_succ (ev_succ (ev_succ (ev_succ (ev_succ ?_))))
  unfold colophonref18_digits.f
  simp only [if_pos (show (0 : Int) ≤ 4 by omega), if_pos (show (4 : Int).toNat ≤ 281474976710656 by decide), show wrap64 ((4 : Int) - 1) = 3 by unfold wrap64; omega]
  have e : ∀ k, colophonref18_digits.l0 (k + 1 + 1 + 1 + 1 + 1) n (List.replicate (4 : Int).toNat 0) 3 = some (be4 n) := by
    intro k
    rw [digits_step _ _ _ _ (by omega) (by omega) (by simp) (by omega), digits_step _ _ _ _ (by omega) (by omega) (by simp) (by omega), digits_step _ _ _ _ (by omega) (by omega) (by simp) (by omega), digits_step _ _ _ _ (by omega) (by omega) (by simp) (by omega), digits_end _ _ _ _ (by omega)]
    have h1 : n / 256 / 256 / 256 % 256 = n / 16777216 := by omega
    have h2 : n / 256 / 256 % 256 = n / 65536 % 256 := by omega
    rw [h1, h2]
    rfl
  simp only [e]
  exact Ev.now _
/-- A record's bytes, and what is wrong. -/
def sealed (l : List Int) : List Int := l ++ bytes4 (crc l)
def WB (a0 a1 : Int) (l : List Int) : List Int × Int := if [a0, a1].all numB then (if l.length ≤ 4096 then (sealed (headB a0 a1 l.length ++ l), 0) else ([], 3)) else ([], 2)
theorem headB_length (a0 a1 n : Int) : (headB a0 a1 n).length = 10 := rfl
theorem Bytes_f (a0 a1 : Int) (l : List Int) : record_Bytes.f a0 a1 l = some (WB a0 a1 l) := by
  unfold record_Bytes.f WB
  split
  · split
    · rw [Seal_f _ (by rw [List.length_append, headB_length]; omega), Option.bind_some]; rfl
    · rfl
  · rfl
theorem refBytes_ev (a0 a1 : Int) (l : List Int) : Ev (fun k => colophonref18_Bytes.f k a0 a1 l) (WB a0 a1 l) := by
  simp only [colophonref18_Bytes.f, is_f, Option.bind_some]
  unfold WB
  have bad : Ev (fun k => colophonref18_Bytes.j0 k a0 a1 l true) ([], 2) := by
    refine ev_succ ?_
    simp only [colophonref18_Bytes.j0, if_true]
    exact Ev.now _
  by_cases h0 : numB a0 = true
  · simp only [if_pos h0]
    by_cases h1 : numB a1 = true
    · rw [if_pos (by simp [h0, h1]), h1]
      refine ev_succ ?_
      simp only [colophonref18_Bytes.j0, Bool.not_true, Bool.false_eq_true, if_false]
      by_cases hl : l.length ≤ 4096
      · rw [if_pos hl]
        simp only [if_neg (show ¬ (l.length : Int) > 4096 by omega)]
        refine Ev.bind (digits2 _ (by omega)) ?_
        refine Ev.bind (digits4 a0 h0) ?_
        simp only [Option.bind_some]
        simp only [show ([(l.length : Int) / 256 % 256, (l.length : Int) % 256].length + (be4 a0).length < 140737488355328) = True from eq_true (by simp [be4]), if_true, Option.bind_some]
        refine Ev.bind (digits4 a1 h1) ?_
        simp only [show (([(l.length : Int) / 256 % 256, (l.length : Int) % 256] ++ be4 a0).length + (be4 a1).length < 140737488355328) = True from eq_true (by simp [be4]), if_true, Option.bind_some]
        simp only [show (([(l.length : Int) / 256 % 256, (l.length : Int) % 256] ++ be4 a0 ++ be4 a1).length + l.length < 140737488355328) = True from eq_true (by simp [be4]; omega), if_true]
        refine Ev.bind (refSeal _ (by simp [be4]; omega)) ?_
        exact Ev.now _
      · rw [if_neg hl]
        simp only [if_pos (show (l.length : Int) > 4096 by omega)]
        exact Ev.now _
    · rw [if_neg (by simp [h1])]
      rw [show (!numB a1) = true by simp [h1]]
      exact bad
  · simp only [if_neg h0]
    rw [if_neg (by simp [h0])]
    exact bad
theorem Size_eq (n : Int) : colophonref18_Size.f n = record_Size.f n := by
  unfold colophonref18_Size.f record_Size.f
  rw [show (14 : Int) + n = n + 14 by omega]
theorem Size_some (n : Int) : ∃ s, record_Size.f n = some s := by
  unfold record_Size.f
  split
  · exact ⟨_, rfl⟩
  · split
    · exact ⟨_, rfl⟩
    · exact ⟨_, rfl⟩
theorem works_f : colophonlaw18_works.f = some true := rfl
end Go.Proofs.YtoehjojipmeagaaDoor.Pure
