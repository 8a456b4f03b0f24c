import Derived.Test.YteldofimjklckaaUptoRunsJoin
import Derived.Test.YteldofimjklckaaWorksT
namespace Go.Proofs.Yteldofimjklckaa.Pure
open Go.RowKit Go.Proofs.Yteldofimjklckaa.X Go.Proofs.Yteldofimjklckaa.G Go.Proofs.Yteldofimjklckaa.Exp Go.Proofs.Yteldofimjklckaa.Iso Go.Proofs.Yteldofimjklckaa.Run Go.Proofs.YteldofimjklckaaW.PrintWords Go.Proofs.YteldofimjklckaaW.PrintLast
set_option linter.unusedVariables false
set_option linter.unusedSimpArgs false

/-- Behind places that were met. -/
def pos (P : List Nat) : Nat := match P.getLast? with | none => 0 | some q => q + 1
theorem pos_snoc (P : List Nat) (i : Nat) : pos (P ++ [i]) = i + 1 := by unfold pos; simp
theorem pos_gt {P : List Nat} (hs : P.Pairwise (· < ·)) {j : Nat} (hj : j ∈ P) : j < pos P := by
  cases hP : P.getLast? with
  | none => rw [List.getLast?_eq_none_iff] at hP; rw [hP] at hj; simp at hj
  | some q =>
    unfold pos
    rw [hP]
    have h1 := getLast_ge hs j hj
    rw [List.getLastD_eq_getLast?, hP] at h1
    simp only [Option.getD_some] at h1
    simp only
    omega
section
variable {l : List Int} {n : Nat}
theorem kps_mem {j : Nat} : j ∈ kps l n ↔ j < n ∧ kp l j = true := by simp [kps]
theorem gap {P R : List Nat} {i : Nat} (h : kps l n = P ++ i :: R) : (∀ j, pos P ≤ j → j < i → kp l j = false) ∧ pos P ≤ i ∧ i < n ∧ kp l i = true := by
  have hs : (kps l n).Pairwise (· < ·) := sorted_filter _ n
  have hi : i ∈ kps l n := by rw [h]; simp
  rw [h] at hs
  obtain ⟨s1, s2, s3⟩ := List.pairwise_append.1 hs
  have hq := kps_mem.1 hi
  refine ⟨fun j h1 h2 => ?_, ?_, hq⟩
  · cases hk : kp l j with
    | false => rfl
    | true =>
      exfalso
      have hj : j ∈ kps l n := kps_mem.2 ⟨by omega, hk⟩
      rw [h] at hj
      rcases List.mem_append.1 hj with hj | hj
      · have := pos_gt s1 hj; omega
      · rcases List.mem_cons.1 hj with rfl | hj
        · omega
        · have := (List.pairwise_cons.1 s2).1 j hj; omega
  · cases hP : P.getLast? with
    | none => unfold pos; rw [hP]; exact Nat.zero_le _
    | some q =>
      unfold pos
      rw [hP]
      have := s3 q (List.mem_of_getLast? hP) i (by simp)
      simp only
      omega
theorem gapEnd {P : List Nat} (h : kps l n = P) : ∀ j, pos P ≤ j → j < n → kp l j = false := fun j h1 h2 => by
  cases hk : kp l j with
  | false => rfl
  | true =>
    exfalso
    have hj : j ∈ kps l n := kps_mem.2 ⟨h2, hk⟩
    have hs : (kps l n).Pairwise (· < ·) := sorted_filter _ n
    rw [h] at hj hs
    have := pos_gt hs hj
    omega
theorem pos_le {P R : List Nat} (h : kps l n = P ++ R) : pos P ≤ n := by
  cases hP : P.getLast? with
  | none => unfold pos; rw [hP]; exact Nat.zero_le _
  | some q =>
    unfold pos
    rw [hP]
    have hq : q ∈ kps l n := by rw [h]; exact List.mem_append_left _ (List.mem_of_getLast? hP)
    have := (kps_mem.1 hq).1
    simp only
    omega
end
theorem neg_of {l : List Int} {j : Nat} (hj : j < l.length) (h : kp l j = false) : l.getD j 0 < 0 := by
  unfold kp at h
  rw [getD_same l j hj] at h
  have := of_decide_eq_false h
  omega
theorem nonneg_of {l : List Int} {j : Nat} (hj : j < l.length) (h : kp l j = true) : 0 ≤ l.getD j 0 := by
  unfold kp at h
  rw [getD_same l j hj] at h
  exact of_decide_eq_true h
section
variable (l : List Int) (hl : l.length ≤ 1048576)
include hl in
theorem join_l3 : ∀ (d a : Nat), a + d = l.length → (∀ j, a ≤ j → j < l.length → kp l j = false) → Ev (fun k => colophonlaw08_RunsJoin.l3 k l (a : Int)) true := by
  intro d
  induction d with
  | zero =>
    intro a ha _
    refine ev_succ ?_
    simp only [colophonlaw08_RunsJoin.l3, if_neg (show ¬ (a : Int) < (l.length : Int) by omega)]
    rw [show ((a : Int) == (l.length : Int)) = true by rw [beq_iff_eq]; omega]
    exact Ev.now _
  | succ d ih =>
    intro a ha hk
    refine ev_succ ?_
    simp only [colophonlaw08_RunsJoin.l3, if_pos (show (a : Int) < (l.length : Int) by omega), if_pos (Int.natCast_nonneg a), rd_nat, if_pos (neg_of (by omega) (hk a (Nat.le_refl _) (by omega))), w64 (show a < 9223372036854775807 by omega)]
    exact ih (a + 1) (by omega) (fun j h1 h2 => hk j (by omega) h2)
include hl in
theorem join_l2 (x4 : Int) (x6 x21 : List Int) (L : List (List Int)) (N r x22 x23 : Int) (i : Nat) (hi : i < l.length) (hk : kp l i = true) (h6 : 0 < (x6.length : Int)) (h60 : 0 ≤ rd x6 0) (h61 : rd x6 0 < (l.length : Int)) (he : l.getD i 0 = rd l (rd x6 0))
    (hgo : Ev (fun k => colophonlaw08_RunsJoin.l1 k l ((i + 1 : Nat) : Int) x4 x6 L N r x21 x22 (wrap64 (x23 + 1))) true) :
    ∀ (d a : Nat), a + d = i → (∀ j, a ≤ j → j < i → kp l j = false) → Ev (fun k => colophonlaw08_RunsJoin.l2 k l (a : Int) x4 x6 (i : Int) L N r x21 x22 x23) true := by
  intro d
  induction d with
  | zero =>
    intro a ha _
    obtain rfl : a = i := by omega
    refine ev_succ ?_
    have hnn := nonneg_of hi hk
    simp only [colophonlaw08_RunsJoin.l2, if_pos (show (a : Int) < (l.length : Int) by omega), if_pos (Int.natCast_nonneg a), rd_nat, if_neg (show ¬ l.getD a 0 < 0 by omega), if_true, if_neg (show ¬ (a : Int) ≥ (l.length : Int) by omega), if_pos h6, if_pos h60, if_pos h61, if_pos he, w64 (show a < 9223372036854775807 by omega)]
    exact hgo
  | succ d ih =>
    intro a ha hu
    refine ev_succ ?_
    simp only [colophonlaw08_RunsJoin.l2, if_pos (show (a : Int) < (l.length : Int) by omega), if_pos (Int.natCast_nonneg a), rd_nat, if_pos (neg_of (by omega) (hu a (Nat.le_refl _) (by omega))), w64 (show a < 9223372036854775807 by omega)]
    exact ih (a + 1) (by omega) (fun j h1 h2 => hu j (by omega) h2)
include hl in
theorem join_l1 (h : Nat) (hh : isH l h = true) (hhl : h < l.length) (P0 R : List Nat) (rest : List Nat) (hR : R = run l l.length h) (hK : kps l l.length = P0 ++ (R ++ rest)) (x4 : Int) (hne : l.getD h 0 ≠ x4) (L : List (List Int)) (N r : Int)
    (hgo : Ev (fun k => colophonlaw08_RunsJoin.l0 k l (pos (P0 ++ R) : Int) (l.getD h 0) L N (wrap64 (r + 1))) true) :
    ∀ (d j : Nat), j + d = R.length → Ev (fun k => colophonlaw08_RunsJoin.l1 k l (pos (P0 ++ R.take j) : Int) x4 (toI R) L N r (toI R) ((toI R).length : Int) (j : Int)) true := by
  obtain ⟨t, ht⟩ := run_head hh hhl
  rw [← hR] at ht
  have hR0 : rd (toI R) 0 = (h : Int) := by rw [ht]; rfl
  have hRl : 0 < R.length := by rw [ht]; simp
  have hRn : R.length ≤ l.length := by
    have := sorted_len R 0 l.length (by rw [hR]; exact run_sorted _ _ _) (fun x hx => ⟨Nat.zero_le _, by rw [hR] at hx; exact (mem_run.1 hx).1⟩)
    omega
  intro d
  induction d with
  | zero =>
    intro j hj
    obtain rfl : j = R.length := by omega
    refine ev_succ ?_
    simp only [colophonlaw08_RunsJoin.l1, toI_length, if_neg (show ¬ (R.length : Int) < (R.length : Int) by omega), if_pos (show (0 : Int) < (R.length : Int) by omega), hR0, if_pos (Int.natCast_nonneg h), if_pos (show (h : Int) < (l.length : Int) by omega), rd_nat, if_neg hne, List.take_length]
    exact hgo
  | succ d ih =>
    intro j hj
    have hjl : j < R.length := by omega
    refine ev_succ ?_
    simp only [colophonlaw08_RunsJoin.l1, toI_length, if_pos (show (j : Int) < (R.length : Int) by omega), if_pos (Int.natCast_nonneg j)]
    have hrd : rd (toI R) (j : Int) = (R[j] : Int) := by rw [rd_nat]; simp [toI, hjl]
    rw [hrd]
    have hsp : kps l l.length = (P0 ++ R.take j) ++ R[j] :: (R.drop (j + 1) ++ rest) := by
      rw [hK, List.append_assoc]
      congr 1
      rw [← List.cons_append, ← List.append_assoc, ← List.drop_eq_getElem_cons hjl, List.take_append_drop]
    obtain ⟨g1, g2, g3, g4⟩ := gap hsp
    have hmem : R[j] ∈ run l l.length h := by rw [← hR]; exact List.getElem_mem hjl
    obtain ⟨_, _, m3⟩ := mem_run.1 hmem
    have hlev := hd_level R[j] g4
    rw [m3, getD_same l _ g3, getD_same l h hhl] at hlev
    have hnext := ih (j + 1) (by omega)
    rw [List.take_succ_eq_append_getElem hjl, ← List.append_assoc, pos_snoc] at hnext
    rw [toI_length] at hnext
    refine join_l2 l hl x4 (toI R) (toI R) L N r (R.length : Int) (j : Int) R[j] g3 g4 (by rw [toI_length]; omega) (by rw [hR0]; omega) (by rw [hR0]; omega) (by rw [hR0, rd_nat]; exact hlev.symm) ?_ (R[j] - pos (P0 ++ R.take j)) (pos (P0 ++ R.take j)) (by omega) g1
    rw [w64 (show j < 9223372036854775807 by omega)]
    exact hnext
include hl in
theorem join_l0 : ∀ (d r : Nat), r + d = (heads l l.length).length → ∀ P rest : List Nat, kps l l.length = P ++ rest → P = (((heads l l.length).take r).map (run l l.length)).flatten → rest = (((heads l l.length).drop r).map (run l l.length)).flatten →
    Ev (fun k => colophonlaw08_RunsJoin.l0 k l (pos P : Int) (match P.getLast? with | none => -1 | some q => l.getD q 0) (levI l l.length) ((levI l l.length).length : Int) (r : Int)) true := by
  have hlen : (levI l l.length).length = (heads l l.length).length := by rw [levI_length, lev_eq, List.length_map]
  have hle : (heads l l.length).length ≤ l.length := by
    have := sorted_len _ 0 l.length (heads_sorted l l.length) (fun x hx => ⟨Nat.zero_le _, (mem_heads.1 hx).1⟩)
    omega
  intro d
  induction d with
  | zero =>
    intro r hr P rest hK hP hrest
    refine ev_succ ?_
    simp only [colophonlaw08_RunsJoin.l0, hlen, if_neg (show ¬ (r : Int) < ((heads l l.length).length : Int) by omega)]
    rw [List.drop_eq_nil_of_le (by omega)] at hrest
    simp only [List.map_nil, List.flatten_nil] at hrest
    rw [hrest, List.append_nil] at hK
    exact join_l3 l hl (l.length - pos P) (pos P) (by have := pos_le (l := l) (n := l.length) (P := P) (R := []) (by rw [List.append_nil]; exact hK); omega) (gapEnd hK)
  | succ d ih =>
    intro r hr P rest hK hP hrest
    have hrl : r < (heads l l.length).length := by omega
    obtain ⟨h, hh⟩ : ∃ h, (heads l l.length)[r] = h := ⟨_, rfl⟩
    have hmem := mem_heads.1 (hh ▸ List.getElem_mem hrl : h ∈ heads l l.length)
    have hrow : rd_L1 (levI l l.length) (r : Int) = toI (run l l.length h) := by
      unfold rd_L1 levI
      rw [Int.toNat_natCast, lev_eq, List.map_map, List.getD_eq_getElem?_getD, List.getElem?_map, List.getElem?_eq_getElem hrl, hh]
      rfl
    obtain ⟨t, ht⟩ := run_head hmem.2 hmem.1
    refine ev_succ ?_
    simp only [colophonlaw08_RunsJoin.l0, hlen, if_pos (show (r : Int) < ((heads l l.length).length : Int) by omega), if_pos (Int.natCast_nonneg r), hrow, toI_length, if_neg (show ¬ ((run l l.length h).length : Int) = 0 by rw [ht]; simp; omega)]
    have hdrop : rest = run l l.length h ++ (((heads l l.length).drop (r + 1)).map (run l l.length)).flatten := by
      rw [hrest, List.drop_eq_getElem_cons hrl, hh]
      simp
    have hP2 : P ++ run l l.length h = (((heads l l.length).take (r + 1)).map (run l l.length)).flatten := by
      rw [List.take_succ_eq_append_getElem hrl, hh, hP]
      simp
    have hK2 : kps l l.length = (P ++ run l l.length h) ++ (((heads l l.length).drop (r + 1)).map (run l l.length)).flatten := by rw [hK, hdrop, List.append_assoc]
    have hgo := ih (r + 1) (by omega) _ _ hK2 hP2 rfl
    have hne : l.getD h 0 ≠ (match P.getLast? with | none => -1 | some q => l.getD q 0) := by
      have hnn := nonneg_of hmem.1 (isH_kp hmem.2)
      cases hq : P.getLast? with
      | none => simp only; omega
      | some q =>
        simp only
        have hK3 : kps l l.length = P ++ h :: (t ++ (((heads l l.length).drop (r + 1)).map (run l l.length)).flatten) := by rw [hK, hdrop, ht]; simp
        obtain ⟨g1, g2, _, _⟩ := gap hK3
        have hp : pos P = q + 1 := by unfold pos; rw [hq]
        have hqm : q ∈ kps l l.length := by rw [hK]; exact List.mem_append_left _ (List.mem_of_getLast? hq)
        obtain ⟨hql, hqk⟩ := kps_mem.1 hqm
        have := isH_ne hmem.2 (prv_of l (i := h) (q := q) (by omega) hqk (fun j h1 h2 => g1 j (by omega) h2))
        rw [getD_same l q hql, getD_same l h hmem.1] at this
        exact fun e => this e.symm
    have hlast : (match (P ++ run l l.length h).getLast? with | none => -1 | some q => l.getD q 0) = l.getD h 0 := by
      have hne' : run l l.length h ≠ [] := by rw [ht]; simp
      rw [List.getLast?_append, List.getLast?_eq_some_getLast hne']
      simp only [Option.some_or]
      have hm := List.getLast_mem hne'
      obtain ⟨m1, m2, m3⟩ := mem_run.1 hm
      have := hd_level _ m2
      rw [m3, getD_same l _ m1, getD_same l h hmem.1] at this
      exact this.symm
    rw [hlast, hlen] at hgo
    have hfin := join_l1 l hl h hmem.2 hmem.1 P (run l l.length h) _ rfl (by rw [hK, hdrop]) _ hne (levI l l.length) ((heads l l.length).length : Int) (r : Int) (by rw [w64 (show r < 9223372036854775807 by omega)]; exact hgo) (run l l.length h).length 0 (Nat.zero_add _)
    simp only [List.take_zero, List.append_nil, toI_length] at hfin
    exact hfin
end
theorem RunsJoin : Upto.RunsJoin := by
  intro l _ _ _ hl
  refine Ev.rounds (g := fun k => colophonlaw08_RunsJoin.f k l) ?_
  simp only [colophonlaw08_RunsJoin.f, colophonlaw08_works.f, Option.bind_some, if_true]
  refine Ev.bind (Levels_ev l hl) ?_
  have hK : kps l l.length = [] ++ ((heads l l.length).map (run l l.length)).flatten := by rw [← lev_flatten, lev_eq, List.nil_append]
  exact join_l0 l hl (heads l l.length).length 0 (Nat.zero_add _) [] _ hK (by simp) (by simp)
end Go.Proofs.Yteldofimjklckaa.Pure
