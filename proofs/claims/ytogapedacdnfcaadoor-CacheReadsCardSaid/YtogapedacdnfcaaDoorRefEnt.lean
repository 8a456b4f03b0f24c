/- The document's Bytes of an entry come to the program's. -/
import Derived.Test.YtogapedacdnfcaaDoorX2
import Derived.Test.YtogapedacdnfcaaDoorPureCacheBack
namespace Go.Proofs.YtogapedacdnfcaaDoor.Pure
open Go.RowKit Go.Proofs.YtogapedacdnfcaaDoor.X Go.Proofs.YtogapedacdnfcaaDoor.G Go.Proofs.YtogapedacdnfcaaDoor.T Go.Proofs.YtogapedacdnfcaaDoor.E Go.Proofs.YtogapedacdnfcaaDoor.S Go.Proofs.YtogapedacdnfcaaDoorW.PrintWords Go.Proofs.YtogapedacdnfcaaDoorW.PrintLast Go.Proofs.YtogapedacdnfcaaDoorW.PrintMore
set_option linter.unusedVariables false
set_option linter.unusedSimpArgs false

theorem may_l0 (k a v : Int) (l : List Int) (hl : l.length ≤ 49) : ∀ d i : Nat, i + d = l.length → Ev (fun q => colophonref25_may.l0 q (i : Int) k a v l) (!((l.drop i).any far)) := by
  intro d
  induction d with
  | zero =>
    intro i hi
    refine ev_succ ?_
    simp only [colophonref25_may.l0, if_neg (show ¬ (i : Int) < (l.length : Int) by omega)]
    rw [List.drop_eq_nil_of_le (by omega)]
    exact Ev.now _
  | succ d ih =>
    intro i hi
    refine ev_succ ?_
    simp only [colophonref25_may.l0, if_pos (show (i : Int) < (l.length : Int) by omega), if_pos (Int.natCast_nonneg i)]
    rw [drop_rd l i (by omega), List.any_cons]
    by_cases h1 : rd l (i : Int) < -1
    · simp only [if_pos h1]
      rw [show far (rd l (i : Int)) = true by simp [far, h1]]
      exact Ev.now _
    · by_cases h2 : rd l (i : Int) > 126
      · simp only [if_neg h1, if_pos h2]
        rw [show far (rd l (i : Int)) = true by simp [far, h1]; omega]
        exact Ev.now _
      · simp only [if_neg h1, if_neg h2]
        rw [show far (rd l (i : Int)) = false by simp [far]; omega, Bool.false_or, w64 (by omega)]
        exact ih (i + 1) (by omega)
theorem may_ev (k a v : Int) (l : List Int) : Ev (fun q => colophonref25_may.f q k a v l) (mayB a v l) := by
  have hj : ∀ b : Bool, (b = true → mayB a v l = false) → (b = false → l.length ≤ 49 ∧ mayB a v l = !(l.any far)) → Ev (fun q => colophonref25_may.j0 q b k a v l) (mayB a v l) := by
    intro b h1 h2
    refine ev_succ ?_
    cases b with
    | true => rw [h1 rfl]; exact Ev.now _
    | false =>
      obtain ⟨h3, h4⟩ := h2 rfl
      simp only [colophonref25_may.j0, Bool.false_eq_true, if_false]
      rw [h4]
      exact may_l0 k a v l h3 l.length 0 (by omega)
  unfold colophonref25_may.f
  by_cases c1 : a < -1
  · simp only [if_pos c1]; exact hj true (fun _ => by unfold mayB; exact decide_eq_false (fun h => by omega)) (fun h => by cases h)
  by_cases c2 : a > 1
  · simp only [if_neg c1, if_pos c2]; exact hj true (fun _ => by unfold mayB; exact decide_eq_false (fun h => by omega)) (fun h => by cases h)
  by_cases c3 : v < 0
  · simp only [if_neg c1, if_neg c2, if_pos c3]; exact hj true (fun _ => by unfold mayB; exact decide_eq_false (fun h => by omega)) (fun h => by cases h)
  by_cases c4 : v > 1
  · simp only [if_neg c1, if_neg c2, if_neg c3, if_pos c4]; exact hj true (fun _ => by unfold mayB; exact decide_eq_false (fun h => by omega)) (fun h => by cases h)
  simp only [if_neg c1, if_neg c2, if_neg c3, if_neg c4]
  refine hj _ (fun h => ?_) (fun h => ?_)
  · have := of_decide_eq_true h
    unfold mayB; exact decide_eq_false (fun h => by omega)
  · have := of_decide_eq_false h
    refine ⟨by omega, ?_⟩
    unfold mayB
    cases hq : l.any far with
    | true => exact decide_eq_false (fun h => by simp at h)
    | false => exact decide_eq_true ⟨by omega, by omega, by omega, by omega, rfl⟩
theorem bytes_l2 (b : List Int) : ∀ d : Nat, b.length + d = 60 → Ev (fun q => colophonref25_Bytes.l2 q b) ((b ++ List.replicate d 0) ++ bytes4 (crc (b ++ List.replicate d 0)), 0) := by
  intro d
  induction d generalizing b with
  | zero =>
    intro hd
    refine ev_succ ?_
    simp only [colophonref25_Bytes.l2, if_neg (show ¬ ((b.length : Int) < 60) by omega)]
    rw [List.replicate_zero, List.append_nil]
    exact Ev.bind (refSeal b (by omega)) (Ev.now _)
  | succ d ih =>
    intro hd
    refine ev_succ ?_
    simp only [colophonref25_Bytes.l2, if_pos (show ((b.length : Int) < 60) by omega), if_pos (show b.length < 140737488355328 by omega)]
    have := ih (b ++ [0]) (by rw [List.length_append, List.length_singleton]; omega)
    rw [show b ++ [0] ++ List.replicate d 0 = b ++ List.replicate (d + 1) 0 by rw [List.append_assoc]; rfl] at this
    exact this
theorem bytes_l1 (k a v : Int) (l : List Int) (hl : l.length ≤ 49) (b : List Int) (hb : b.length = 11) (r : List Int × Int) : ∀ d i : Nat, i + d = l.length → Ev (fun q => colophonref25_Bytes.l2 q (b ++ l.map (fun n => wrap64 (n + 1) % 256))) r → Ev (fun q => colophonref25_Bytes.l1 q (b ++ (l.take i).map (fun n => wrap64 (n + 1) % 256)) (i : Int) k a v l) r := by
  intro d
  induction d with
  | zero =>
    intro i hi hr
    refine ev_succ ?_
    simp only [colophonref25_Bytes.l1, if_neg (show ¬ (i : Int) < (l.length : Int) by omega)]
    rw [List.take_of_length_le (by omega)]
    exact hr
  | succ d ih =>
    intro i hi hr
    refine ev_succ ?_
    simp only [colophonref25_Bytes.l1, if_pos (show (i : Int) < (l.length : Int) by omega), if_pos (Int.natCast_nonneg i), if_pos (show (b ++ (l.take i).map (fun n => wrap64 (n + 1) % 256)).length < 140737488355328 by rw [List.length_append, List.length_map, List.length_take]; omega), w64 (show i < 9223372036854775807 by omega)]
    have := ih (i + 1) (by omega) hr
    rw [take_succ_rd l i (by omega), List.map_append, ← List.append_assoc] at this
    exact this
theorem key_step (k : Int) (hk : U64 k) (i : Nat) (hi : i < 8) : IntKind.u64.wrap (Int.tdiv (k % 2 ^ (64 - 8 * i)) (2 ^ (56 - 8 * i))) % 256 = keyB k i ∧ Int.tmod (k % 2 ^ (64 - 8 * i)) (2 ^ (56 - 8 * i)) = k % 2 ^ (64 - 8 * (i + 1)) := by
  obtain ⟨hk0, hk1⟩ := hk
  have h : i = 0 ∨ i = 1 ∨ i = 2 ∨ i = 3 ∨ i = 4 ∨ i = 5 ∨ i = 6 ∨ i = 7 := by omega
  unfold keyB
  rcases h with rfl | rfl | rfl | rfl | rfl | rfl | rfl | rfl
  all_goals
    simp only [Nat.reduceMul, Nat.reduceSub, Nat.reduceAdd, Int.reducePow]
    rw [Int.tdiv_eq_ediv_of_nonneg (by omega), Int.tmod_eq_emod_of_nonneg (by omega), wrap64u]
    constructor <;> omega
theorem bytes_l0 (k a v : Int) (l : List Int) (hk : U64 k) (hl : l.length ≤ 49) (r : List Int × Int) (hr : Ev (fun q => colophonref25_Bytes.l1 q ((List.range 8).map (keyB k) ++ [wrap64 (a + 1) % 256, v % 256, (l.length : Int) % 256]) 0 k a v l) r) : ∀ d i : Nat, i + d = 8 → ∀ p : Int, (i < 8 → p = 2 ^ (56 - 8 * i)) → Ev (fun q => colophonref25_Bytes.l0 q ((List.range i).map (keyB k)) p (k % 2 ^ (64 - 8 * i)) (i : Int) k a v l) r := by
  intro d
  induction d with
  | zero =>
    intro i hi p hp
    obtain rfl : i = 8 := by omega
    refine ev_succ ?_
    simp only [colophonref25_Bytes.l0, if_neg (show ¬ (((8 : Nat) : Int) < 8) by decide), Option.bind_some]
    simp only [if_pos (show ((List.range 8).map (keyB k)).length + [wrap64 (a + 1) % 256, v % 256, (l.length : Int) % 256].length < 140737488355328 by simp)]
    exact hr
  | succ d ih =>
    intro i hi p hp
    have hi8 : i < 8 := by omega
    have hpp := hp hi8
    obtain ⟨s1, s2⟩ := key_step k hk i hi8
    rw [← hpp] at s1 s2
    have hp0 : ¬ p = 0 := by
      rw [hpp]
      have : (0 : Int) < 2 ^ (56 - 8 * i) := Int.pow_pos (by decide)
      omega
    refine ev_succ ?_
    simp only [colophonref25_Bytes.l0, if_pos (show ((i : Int) < 8) by omega), if_neg hp0, if_pos (show ((List.range i).map (keyB k)).length < 140737488355328 by simp; omega), w64 (show i < 9223372036854775807 by omega), s1, s2]
    have := ih (i + 1) (by omega) (IntKind.u64.wrap (Int.tdiv p 256)) (fun h7 => by
      rw [hpp, wrap64u]
      have h : i = 0 ∨ i = 1 ∨ i = 2 ∨ i = 3 ∨ i = 4 ∨ i = 5 ∨ i = 6 := by omega
      rcases h with rfl | rfl | rfl | rfl | rfl | rfl | rfl <;> decide)
    rw [List.range_succ, List.map_append] at this
    exact this
theorem refBytes_ev (k a v : Int) (l : List Int) (hk : U64 k) : Ev (fun q => colophonref25_Bytes.f q k a v l) (ES k a v l) := by
  unfold colophonref25_Bytes.f
  refine Ev.bind (may_ev k a v l) ?_
  unfold ES
  by_cases hm : mayB a v l = true
  · simp only [if_pos hm]
    have hl := ((mayB_iff a v l).1 hm).2.2.2.1
    have h0 := bytes_l0 k a v l hk hl (entB k a v l ++ bytes4 (crc (entB k a v l)), 0) ?_ 8 0 rfl 72057594037927936 (fun _ => rfl)
    · have e : k % 2 ^ (64 - 8 * 0) = k := by
        have := hk.1; have := hk.2
        show k % 18446744073709551616 = k
        omega
      rw [e] at h0
      exact h0
    · have h1 := bytes_l1 k a v l hl ((List.range 8).map (keyB k) ++ [wrap64 (a + 1) % 256, v % 256, (l.length : Int) % 256]) (by simp) (entB k a v l ++ bytes4 (crc (entB k a v l)), 0) l.length 0 (by omega) ?_
      · rw [List.take_zero, List.map_nil, List.append_nil] at h1
        exact h1
      · have h2 := bytes_l2 (((List.range 8).map (keyB k) ++ [wrap64 (a + 1) % 256, v % 256, (l.length : Int) % 256]) ++ l.map (fun n => wrap64 (n + 1) % 256)) (49 - l.length) (by simp; omega)
        exact h2
  · simp only [if_neg hm]
    exact Ev.now _
end Go.Proofs.YtogapedacdnfcaaDoor.Pure
