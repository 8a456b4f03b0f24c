/- What the document's Count, Cut, Same come to; the chapter's example. -/
import Derived.Test.YtkocgfcoebodkaaDoorChunkT
import Derived.Test.YtkocgfcoebodkaaDoorX2
import Derived.Test.YtkocgfcoebodkaaDoorX1
import Derived.Test.YtkocgfcoebodkaaDoorX2
namespace Go.Proofs.YtkocgfcoebodkaaDoor.C
open Go.RowKit Go.Proofs.YtkocgfcoebodkaaDoor.X Go.Proofs.YtkocgfcoebodkaaDoor.G Go.Proofs.YtkocgfcoebodkaaDoor.T Go.Proofs.YtkocgfcoebodkaaDoor.E Go.Proofs.YtkocgfcoebodkaaDoorW.PrintWords Go.Proofs.YtkocgfcoebodkaaDoorW.PrintLast Go.Proofs.YtkocgfcoebodkaaDoorW.PrintMore
set_option linter.unusedVariables false
set_option linter.unusedSimpArgs false

theorem cut_f (l0 : List Int) (t : Int) (ht : 1 ≤ t ∧ t ≤ 2147483647) (hl : l0.length ≤ 221184) : chunk_Cut.f l0 t = some (chunks l0 t, 0) := by
  rw [chunk_Cut.f, if_pos ht, if_pos hl]
theorem refCount_l0 (n : Int) (h : n ≤ 1000000) : ∀ d j : Nat, (j : Int) + d = cnt n → Ev (fun k => colophonref20_Count.l0 k n (j : Int)) (cnt n) := by
  intro d
  induction d with
  | zero =>
    intro j hj
    refine ev_succ ?_
    simp only [colophonref20_Count.l0]
    have : ¬ (wrap64 ((j : Int) * 54) < n) := by
      rw [w64' (by omega) (by unfold cnt at hj; split at hj <;> omega)]
      unfold cnt at hj
      split at hj <;> omega
    simp only [if_neg this]
    rw [show (j : Int) = cnt n by omega]
    exact Ev.now _
  | succ d ih =>
    intro j hj
    refine ev_succ ?_
    simp only [colophonref20_Count.l0]
    have hc : (j : Int) * 54 < n ∧ j < 1000000 := by
      unfold cnt at hj
      split at hj <;> omega
    have : wrap64 ((j : Int) * 54) < n := by
      rw [w64' (by omega) (by omega)]
      exact hc.1
    simp only [if_pos this, w64 (show j < 9223372036854775807 by omega)]
    exact ih (j + 1) (by omega)
theorem cnt_nonneg (n : Int) : 0 ≤ cnt n := by unfold cnt; split <;> omega
theorem refCount (n : Int) (h : n ≤ 1000000) : Ev (fun k => colophonref20_Count.f k n) (cnt n) := by
  simp only [colophonref20_Count.f]
  exact refCount_l0 n h (cnt n).toNat 0 (by have := cnt_nonneg n; omega)
theorem body_rd (l0 : List Int) (k j : Nat) (hj : j < 54) : rd (body l0 k) (j : Int) = if k * 54 + j < l0.length then rd l0 ((k * 54 + j : Nat) : Int) else 0 := by
  rw [rd_nat, rd_nat, body, List.getD_eq_getElem?_getD]
  by_cases h : k * 54 + j < l0.length
  · rw [if_pos h, List.getElem?_append_left (by rw [List.length_take, List.length_drop]; omega), List.getElem?_take, if_pos hj, List.getElem?_drop, List.getD_eq_getElem?_getD]
  · rw [if_neg h, List.getElem?_append_right (by rw [List.length_take, List.length_drop]; omega), List.getElem?_replicate]
    split <;> rfl
theorem one_l0 (l0 : List Int) (t : Int) (m : Nat) (hm : m < 5000) (hl : l0.length ≤ 221184) : ∀ d j : Nat, j + d = 54 → Ev (fun k => colophonref20_one.l0 k l0 (m : Int) (hd m t ++ (body l0 m).take j) ((m * 54 + j : Nat) : Int)) (chunkOf l0 t m) := by
  have e1 : wrap64 (wrap64 ((m : Int) * 54) + 54) = (m : Int) * 54 + 54 := by rw [w64' (i := (m : Int) * 54) (by omega) (by omega), w64' (by omega) (by omega)]
  intro d
  induction d with
  | zero =>
    intro j hj
    refine ev_succ ?_
    simp only [colophonref20_one.l0]
    simp only [e1, if_neg (show ¬ (((m * 54 + j : Nat) : Int) < (m : Int) * 54 + 54) by omega)]
    rw [List.take_of_length_le (by rw [body_length]; omega)]
    refine Ev.bind (S.refSeal (hd m t ++ body l0 m) (by rw [List.length_append, body_length, hd_length]; omega)) ?_
    exact Ev.now _
  | succ d ih =>
    intro j hj
    have hbl := body_length l0 m
    have hlen : (hd (m : Int) t ++ (body l0 m).take j).length < 140737488355328 := by rw [List.length_append, List.length_take, hd_length, hbl]; omega
    have hstep := ih (j + 1) (by omega)
    rw [take_succ_rd (body l0 m) j (by omega), body_rd l0 m j (by omega), ← List.append_assoc] at hstep
    refine ev_succ ?_
    simp only [colophonref20_one.l0]
    simp only [e1, if_pos (show ((m * 54 + j : Nat) : Int) < (m : Int) * 54 + 54 by omega), if_pos hlen, w64 (show m * 54 + j < 9223372036854775807 by omega)]
    by_cases h : m * 54 + j < l0.length
    · simp only [if_pos (show ((m * 54 + j : Nat) : Int) < (l0.length : Int) by omega), if_pos (Int.natCast_nonneg _)]
      rw [if_pos h] at hstep
      exact hstep
    · simp only [if_neg (show ¬ ((m * 54 + j : Nat) : Int) < (l0.length : Int) by omega)]
      rw [if_neg h] at hstep
      exact hstep
theorem one_f (l0 : List Int) (t : Int) (m : Nat) (hm : m < 5000) (hl : l0.length ≤ 221184) (ht : 1 ≤ t ∧ t ≤ 2147483647) : Ev (fun k => colophonref20_one.f k l0 (m : Int) t) (chunkOf l0 t m) := by
  have e : ([(wrap64 (Int.tdiv (m : Int) 256)) % 256, (Int.tmod (m : Int) 256) % 256, (wrap64 (Int.tdiv t 16777216)) % 256, (Int.tmod (wrap64 (Int.tdiv t 65536)) 256) % 256, (Int.tmod (wrap64 (Int.tdiv t 256)) 256) % 256, (Int.tmod t 256) % 256] : List Int) = hd m t := by
    rw [Int.tdiv_eq_ediv_of_nonneg (by omega), Int.tdiv_eq_ediv_of_nonneg (by omega), Int.tdiv_eq_ediv_of_nonneg (by omega), Int.tdiv_eq_ediv_of_nonneg (by omega), w64' (i := (m : Int) / 256) (by omega) (by omega), w64' (i := t / 16777216) (by omega) (by omega), w64' (i := t / 65536) (by omega) (by omega), w64' (i := t / 256) (by omega) (by omega), Int.tmod_eq_emod_of_nonneg (by omega), Int.tmod_eq_emod_of_nonneg (by omega), Int.tmod_eq_emod_of_nonneg (by omega), Int.tmod_eq_emod_of_nonneg (by omega)]
    simp only [hd, List.cons.injEq, and_true]
    refine ⟨trivial, ?_, trivial, ?_, ?_, ?_⟩ <;> omega
  simp only [colophonref20_one.f, e]
  rw [w64' (i := (m : Int) * 54) (by omega) (by omega)]
  have := one_l0 l0 t m hm hl 54 0 (Nat.zero_add _)
  rw [List.take_zero, List.append_nil, Nat.add_zero] at this
  exact this.congr (fun k => by rw [Int.natCast_mul]; rfl)
theorem refCut_l0 (l0 : List Int) (t : Int) (ht : 1 ≤ t ∧ t ≤ 2147483647) (hl : l0.length ≤ 221184) : ∀ d j : Nat, j + d = (l0.length + 53) / 54 → Ev (fun k => colophonref20_Cut.l0 k l0 t ((List.range j).map (chunkOf l0 t)) (j : Int)) (chunks l0 t, 0) := by
  intro d
  induction d with
  | zero =>
    intro j hj
    refine ev_succ ?_
    simp only [colophonref20_Cut.l0]
    refine Ev.bind (refCount (l0.length : Int) (by omega)) ?_
    simp only [cnt_len, if_neg (show ¬ ((j : Int) < (((l0.length + 53) / 54 : Nat) : Int)) by omega)]
    rw [chunks, show (l0.length + 53) / 54 = j by omega]
    exact Ev.now _
  | succ d ih =>
    intro j hj
    refine ev_succ ?_
    simp only [colophonref20_Cut.l0]
    refine Ev.bind (refCount (l0.length : Int) (by omega)) ?_
    simp only [cnt_len, if_pos (show ((j : Int) < (((l0.length + 53) / 54 : Nat) : Int)) by omega)]
    refine Ev.bind (one_f l0 t j (by omega) hl ht) ?_
    simp only [List.length_map, List.length_range, if_pos (show j < 5864062014805 by omega), w64 (show j < 9223372036854775807 by omega)]
    rw [← range_map_succ]
    exact ih (j + 1) (by omega)
/-- The document cuts as the program does. -/
theorem refCut (l0 : List Int) (t : Int) (r : List (List Int) × Int) (h : chunk_Cut.f l0 t = some r) : Ev (fun k => colophonref20_Cut.f k l0 t) r := by
  simp only [colophonref20_Cut.f, colophonref20_tagged.f]
  by_cases ht : 1 ≤ t ∧ t ≤ 2147483647
  · simp only [if_pos (show t ≥ 1 from ht.1), decide_eq_true ht.2, Option.bind_some, if_pos]
    rw [chunk_Cut.f, if_pos ht] at h
    by_cases hl : l0.length ≤ 221184
    · rw [if_pos hl] at h
      obtain rfl := Option.some.inj h
      simp only [if_neg (show ¬ ((l0.length : Int) > 221184) by omega)]
      exact refCut_l0 l0 t ht hl _ 0 (Nat.zero_add _)
    · rw [if_neg hl] at h
      obtain rfl := Option.some.inj h
      simp only [if_pos (show ((l0.length : Int) > 221184) by omega)]
      exact Ev.now _
  · rw [chunk_Cut.f, if_neg ht] at h
    obtain rfl := Option.some.inj h
    by_cases h1 : t ≥ 1
    · simp only [if_pos h1, decide_eq_false (show ¬ t ≤ 2147483647 by omega), Option.bind_some, Bool.false_eq_true, if_false]
      exact Ev.now _
    · simp only [if_neg h1, Option.bind_some, Bool.false_eq_true, if_false]
      exact Ev.now _
theorem same_l0 (l : List (List Int)) (hl : l.length < 4611686018427387904) : ∀ d j : Nat, j + d = l.length → Ev (fun k => colophonref18_Same.l0 k l l (j : Int)) true := by
  intro d
  induction d with
  | zero =>
    intro j hj
    refine ev_succ ?_
    simp only [colophonref18_Same.l0]
    simp only [if_neg (show ¬ ((j : Int) < (l.length : Int)) by omega)]
    exact Ev.now _
  | succ d ih =>
    intro j hj
    refine ev_succ ?_
    simp only [colophonref18_Same.l0]
    simp only [if_pos (show ((j : Int) < (l.length : Int)) by omega), if_pos (Int.natCast_nonneg j), if_true, w64 (show j < 9223372036854775807 by omega)]
    exact ih (j + 1) (by omega)
theorem same_f (l : List (List Int)) (hl : l.length < 4611686018427387904) : Ev (fun k => colophonref18_Same.f k l l) true := by
  simp only [colophonref18_Same.f, if_true]
  exact same_l0 l hl l.length 0 (Nat.zero_add _)
/-! ### the example -/
def exB : List Int := (List.replicate 60 (0 : Int)).set 59 5
theorem works : Ev (fun k => colophonlaw20_works.f k) true := by
  have hb : exB.length = 60 := rfl
  have hC := cut_f exB 7 (by decide) (by rw [hb]; decide)
  have h2 : (chunks exB 7).length = 2 := by rw [chunks_length, hb]
  have hg : rd_L2 (chunks exB 7) 1 = chunkOf exB 7 1 := by
    have := rdL2 (chunks exB 7) 1
    rw [chunks_get exB 7 1 (by rw [hb]; decide)] at this
    exact this
  have ht : (chunkOf exB 7 1).take 6 = [0, 1, 0, 0, 0, 7] := by
    rw [chunkOf, piece, List.append_assoc, List.take_left' (hd_length _ _)]; rfl
  have hn : ((strOfNums [0, 1, 0, 0, 0, 7]).toList != ([0, 1, 0, 0, 0, 7] : List UInt8)) = false := by rw [ByteArray.toList_eq, strOfNums_data]; decide
  have hJ1 := join_f (chunks exB 7) 7 60 (by rw [h2]; decide)
  have hJ2 := join_f (chunks exB 7) 8 60 (by rw [h2]; decide)
  have e1 : JN (chunks exB 7) 7 60 = (exB, 0) := JN_all exB 7 (by decide) (by rw [hb]; decide)
  have e2 : JN (chunks exB 7) 8 60 = ([], 180) := JN_other exB 7 8 (by decide) (by decide) (by decide) (by rw [hb]; decide) (by rw [hb]; decide)
  rw [e1] at hJ1
  rw [e2] at hJ2
  have e3 : (List.replicate 60 (0 : Int)).set (59 : Int).toNat 5 = exB := rfl
  simp only [colophonlaw20_works.f, Option.bind_some, List.length_replicate]
  simp only [e3, hC, Option.bind_some, h2, hg, chunkOf_length, ht, hn]
  simp only [if_pos (show (60 : Nat) ≤ 281474976710656 by decide), if_pos (show (59 : Int) < ((60 : Nat) : Int) by decide), if_true, if_pos (show (((2 : Nat) : Int) = 2) by decide), if_pos (show (1 : Int) < ((2 : Nat) : Int) by decide), if_pos (show (((64 : Nat) : Int) = 64) by decide), if_pos (show (6 : Int) ≤ ((64 : Nat) : Int) by decide)]
  refine ev_succ ?_
  simp only [colophonlaw20_works.j0, Bool.false_eq_true, if_false]
  refine Ev.bind hJ1 ?_
  refine Ev.bind hJ2 ?_
  simp only [if_true, count_f 60 (by decide), Option.bind_some]
  exact Ev.now _
end Go.Proofs.YtkocgfcoebodkaaDoor.C
