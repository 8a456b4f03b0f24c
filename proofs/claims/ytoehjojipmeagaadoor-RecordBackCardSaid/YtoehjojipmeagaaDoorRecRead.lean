/- Chapter 18 in plain Lean: what the program reads is what the document reads. -/
import Derived.Test.YtoehjojipmeagaaDoorRecT
import Derived.Test.YtoehjojipmeagaaDoorHRefRead
namespace Go.Proofs.YtoehjojipmeagaaDoor.Pure
open Go.RowKit Go.Proofs.YtoehjojipmeagaaDoor.X Go.Proofs.YtoehjojipmeagaaDoor.G Go.Proofs.YtoehjojipmeagaaDoor.T Go.Proofs.YtoehjojipmeagaaDoor.E Go.Proofs.YtoehjojipmeagaaDoor.S Go.Proofs.YtoehjojipmeagaaDoorW.PrintWords Go.Proofs.YtoehjojipmeagaaDoorW.PrintLast Go.Proofs.YtoehjojipmeagaaDoorW.PrintMore
set_option linter.unusedVariables false
set_option linter.unusedSimpArgs false

theorem numbered_l0 (l : List Int) (hl : l.length ≤ 4611686018427387904) : ∀ d i : Nat, i + d = l.length → Ev (fun k => record_numbered.l0 k l (l.length : Int) (i : Int)) ((l.drop i).all numB) := by
  intro d
  induction d with
  | zero =>
    intro i h
    refine ev_succ ?_
    simp only [record_numbered.l0, if_neg (show ¬ (i : Int) < (l.length : Int) by omega)]
    rw [List.drop_eq_nil_of_le (by omega)]
    exact Ev.now _
  | succ d ih =>
    intro i h
    refine ev_succ ?_
    simp only [record_numbered.l0, if_pos (show (i : Int) < (l.length : Int) by omega), if_pos (show 0 ≤ (i : Int) by omega), w64 (show i < 9223372036854775807 by omega)]
    rw [E.drop_rd l i (by omega), List.all_cons]
    have next := ih (i + 1) (by omega)
    generalize rd l (i : Int) = z at *
    by_cases h1 : z < 1
    · simp only [if_pos h1]
      rw [show numB z = false by simp [numB]; omega, Bool.false_and]
      exact Ev.now _
    · by_cases h2 : z > 2147483647
      · simp only [if_neg h1, if_pos h2]
        rw [show numB z = false by simp [numB]; omega, Bool.false_and]
        exact Ev.now _
      · simp only [if_neg h1, if_neg h2]
        rw [show numB z = true by simp [numB]; omega, Bool.true_and]
        exact next
theorem numbered_ev (l : List Int) (hl : l.length ≤ 4611686018427387904) : Ev (fun k => record_numbered.f k l) (l.all numB) := by
  simp only [record_numbered.f]
  have := numbered_l0 l hl l.length 0 (by omega)
  simpa using this
theorem or2 (i : Nat) (hi : i ≤ 62) (x y : Int) (hx0 : 0 ≤ x) (hx : x % 2 ^ i = 0) (hx1 : x < 4611686018427387904) (hy0 : 0 ≤ y) (hy : y < 2 ^ i) (hy1 : y < 4611686018427387904) : Go.bits .or .i64 x y = x + y :=
  bits_join .i64 62 (by decide) (fun n a b => by rw [IntKind.wrap_i64]; omega) i x y hx0 hx (by simpa using hx1) hy0 hy (by simpa using hy1)
theorem or_16 (a b : Int) (ha : 0 ≤ a ∧ a < 256) (hb : 0 ≤ b ∧ b < 256) : Go.bits .or .i64 (wrap64 (wrap64 a * 256)) (wrap64 b) = a * 256 + b := by
  rw [show wrap64 (wrap64 a * 256) = a * 256 by unfold wrap64; omega, show wrap64 b = b by unfold wrap64; omega]
  exact or2 8 (by omega) _ _ (by omega) (by omega) (by omega) (by omega) (by omega) (by omega)
theorem num2 (l : List Int) (h : 2 ≤ l.length) : num (l.take 2) = rd l 0 * 256 + rd l 1 := by
  match l, h with
  | a :: b :: r, _ => simp [num, rd]
theorem num4 (l : List Int) (h : 4 ≤ l.length) : num (l.take 4) = ((rd l 0 * 256 + rd l 1) * 256 + rd l 2) * 256 + rd l 3 := by
  match l, h with
  | a :: b :: c :: d :: r, _ => simp [num, rd]
theorem rd_bytes {l : List Int} (h : Bytes l) (i : Int) (h0 : 0 ≤ i) (h1 : i < l.length) : 0 ≤ rd l i ∧ rd l i < 256 := by
  obtain ⟨n, rfl⟩ := Int.eq_ofNat_of_zero_le h0
  have hn : n < l.length := by omega
  exact h _ (by simp [rd, hn])
theorem four_f (l : List Int) (h : 4 ≤ l.length) (hb : Bytes l) : record_four.f l = some (num (l.take 4)) := by
  unfold record_four.f
  rw [if_pos (by omega), if_pos (by omega), if_pos (by omega), if_pos (by omega), num4 l h]
  have h0 := rd_bytes hb 0 (by omega) (by omega)
  have h1 := rd_bytes hb 1 (by omega) (by omega)
  have h2 := rd_bytes hb 2 (by omega) (by omega)
  have h3 := rd_bytes hb 3 (by omega) (by omega)
  generalize rd l 0 = a at *
  generalize rd l 1 = b at *
  generalize rd l 2 = c at *
  generalize rd l 3 = d at *
  rw [show wrap64 (wrap64 a * 16777216) = a * 16777216 by unfold wrap64; omega, show wrap64 (wrap64 b * 65536) = b * 65536 by unfold wrap64; omega, show wrap64 (wrap64 c * 256) = c * 256 by unfold wrap64; omega, show wrap64 d = d by unfold wrap64; omega]
  rw [or2 24 (by omega) (a * 16777216) (b * 65536) (by omega) (by omega) (by omega) (by omega) (by omega) (by omega)]
  rw [or2 16 (by omega) (a * 16777216 + b * 65536) (c * 256) (by omega) (by omega) (by omega) (by omega) (by omega) (by omega)]
  rw [or2 8 (by omega) (a * 16777216 + b * 65536 + c * 256) d (by omega) (by omega) (by omega) (by omega) (by omega) (by omega)]
  congr 1
  omega
theorem Size_f (n : Int) (h : 0 ≤ n ∧ n ≤ 65535) : record_Size.f n = some (if 4096 < n then 0 else n + 14) := by
  unfold record_Size.f
  rw [if_neg (by omega)]
  by_cases h4 : n > 4096
  · rw [if_pos h4, if_pos (by omega)]
  · rw [if_neg h4, if_neg (by omega), show wrap64 (n + 14) = n + 14 by unfold wrap64; omega]
theorem Read_ev (l : List Int) (a1 a2 : Int) (hb : Bytes l) (hl : l.length ≤ 140737488351232) : Ev (fun k => record_Read.f k l a1 a2) (RD l a1 a2) := by
  simp only [record_Read.f]
  refine Ev.bind (numbered_ev [a1, a2] (by simp)) ?_
  unfold RD
  by_cases hn : [a1, a2].all numB = true
  rotate_left
  · simp only [if_neg hn]; exact Ev.now _
  simp only [if_pos hn]
  by_cases h14 : l.length < 14
  · simp only [if_pos h14, if_pos (show (l.length : Int) < 14 by omega)]; exact Ev.now _
  simp only [if_neg h14, if_neg (show ¬ (l.length : Int) < 14 by omega), if_pos (show 0 < (l.length : Int) by omega), if_pos (show 1 < (l.length : Int) by omega)]
  have hb0 := rd_bytes hb 0 (by omega) (by omega)
  have hb1 := rd_bytes hb 1 (by omega) (by omega)
  rw [or_16 _ _ hb0 hb1, num2 l (by omega)]
  obtain ⟨N, hN⟩ := Int.eq_ofNat_of_zero_le (show 0 ≤ rd l 0 * 256 + rd l 1 by omega)
  have hN1 : (N : Int) ≤ 65535 := by omega
  simp only [hN, Size_f (N : Int) ⟨by omega, hN1⟩, Option.bind_some]
  by_cases h3 : 4096 < (N : Int)
  · simp only [if_pos h3, if_true]; exact Ev.now _
  simp only [if_neg h3, if_neg (show ¬ (N : Int) + 14 = 0 by omega)]
  by_cases h4 : (l.length : Int) < (N : Int) + 14
  · simp only [if_pos h4]; exact Ev.now _
  have e14 : wrap64 ((N : Int) + 14) = (N : Int) + 14 := by unfold wrap64; omega
  have t14 : ((N : Int) + 14).toNat = N + 14 := by omega
  have htp : (l.take (N + 14)).length = N + 14 := by rw [List.length_take]; omega
  simp only [if_neg h4, e14, if_pos (show 0 ≤ (N : Int) + 14 by omega), if_pos (show (N : Int) + 14 ≤ (l.length : Int) by omega), t14, Int.toNat_natCast]
  rw [Open_f _ (by rw [htp]; omega) (by rw [htp]; omega)]
  simp only [Option.bind_some, htp, show N + 14 - 4 = N + 10 by omega]
  by_cases h5 : (l.take (N + 14)).drop (N + 10) = bytes4 (crc ((l.take (N + 14)).take (N + 10)))
  · have hf : fits (l.take (N + 14)) = true := by unfold fits; rw [htp]; simp only [show N + 14 - 4 = N + 10 by omega]; exact decide_eq_true ⟨by omega, h5⟩
    simp only [if_pos h5, if_pos hf, if_true]
    have htt : (l.take (N + 14)).take (N + 10) = l.take (N + 10) := by rw [List.take_take, Nat.min_eq_left (by omega)]
    have hll : (l.take (N + 10)).length = N + 10 := by rw [List.length_take]; omega
    have f2 : record_four.f ((l.take (N + 10)).drop 2) = some (num ((l.drop 2).take 4)) := by
      rw [four_f _ (by rw [List.length_drop, hll]; omega) ((hb.take _).drop _)]
      congr 2
      rw [List.drop_take, List.take_take, Nat.min_eq_left (by omega)]
    have f6 : record_four.f ((l.take (N + 10)).drop 6) = some (num ((l.drop 6).take 4)) := by
      rw [four_f _ (by rw [List.length_drop, hll]; omega) ((hb.take _).drop _)]
      congr 2
      rw [List.drop_take, List.take_take, Nat.min_eq_left (by omega)]
    simp only [htt, hll, if_pos (show (2 : Int) ≤ ((N + 10 : Nat) : Int) by omega), if_pos (show (6 : Int) ≤ ((N + 10 : Nat) : Int) by omega), if_pos (show (10 : Int) ≤ ((N + 10 : Nat) : Int) by omega), f2, f6, Option.bind_some]
    by_cases h6 : num ((l.drop 2).take 4) = a1
    · by_cases h7 : num ((l.drop 6).take 4) = a2
      · simp only [if_pos h6, if_pos h7, if_pos (And.intro h6 h7)]
        rw [show (l.take (N + 10)).drop (10 : Int).toNat = (l.drop 10).take N by show (l.take (N + 10)).drop 10 = _; rw [List.drop_take, Nat.add_sub_cancel]]
        exact Ev.now _
      · simp only [if_pos h6, if_neg h7, if_neg (fun h : num ((l.drop 2).take 4) = a1 ∧ num ((l.drop 6).take 4) = a2 => h7 h.2)]
        exact Ev.now _
    · simp only [if_neg h6, if_neg (fun h : num ((l.drop 2).take 4) = a1 ∧ num ((l.drop 6).take 4) = a2 => h6 h.1)]
      exact Ev.now _
  · have hf : ¬ fits (l.take (N + 14)) = true := by unfold fits; rw [htp]; simp only [show N + 14 - 4 = N + 10 by omega]; simp [h5]
    simp only [if_neg h5, if_neg hf]
    simp only [show ((21 : Int) = 0) = False from eq_false (by omega), if_false]
    exact Ev.now _
end Go.Proofs.YtoehjojipmeagaaDoor.Pure
