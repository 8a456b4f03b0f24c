/- What the document's Levels comes to. -/
import Derived.Test.YteldofimjklckaaX4
import Derived.Test.YteldofimjklckaaSeqP
namespace Go.Proofs.Yteldofimjklckaa.Run
open Go.RowKit Go.Proofs.Yteldofimjklckaa.X Go.Proofs.YteldofimjklckaaW.PrintWords Go.Proofs.YteldofimjklckaaW.PrintLast Go.Proofs.Yteldofimjklckaa.Iso Go.Proofs.Yteldofimjklckaa.Exp
set_option linter.unusedVariables false
set_option linter.unusedSimpArgs false

/-- A place, or -1. -/
def orM (o : Option Nat) : Int := match o with | none => -1 | some q => (q : Int)
theorem nb_j (k : Nat) (l : List Int) (s i : Int) (h0 : 0 ≤ i) (h1 : i < (l.length : Int)) : colophonref08_neighbour.l0 (k + 1 + 1) l s i = if rd l i ≥ 0 then some i else colophonref08_neighbour.l0 k l s (wrap64 (i + s)) := by
  simp only [colophonref08_neighbour.l0, colophonref08_neighbour.j1, if_pos (show i ≥ 0 from h0), decide_eq_true h1, if_true, if_pos h0, if_pos h1]
theorem nb_out (k : Nat) (l : List Int) (s i : Int) (h : i < 0 ∨ (l.length : Int) ≤ i) : colophonref08_neighbour.l0 (k + 1 + 1) l s i = some (-1) := by
  simp only [colophonref08_neighbour.l0, colophonref08_neighbour.j1]
  split
  · rw [decide_eq_false (by omega)]
    simp
  · simp
theorem nbB_ev (l : List Int) (hl : l.length ≤ 1048576) : ∀ i : Nat, i ≤ l.length → Ev (fun k => colophonref08_neighbour.l0 k l (-1) ((i : Int) - 1)) (orM (prv l i)) := by
  intro i
  induction i with
  | zero =>
    intro _
    refine ev_succ (ev_succ ?_)
    simp only [nb_out _ l (-1) (((0 : Nat) : Int) - 1) (by omega)]
    exact Ev.now _
  | succ i ih =>
    intro hi
    have ih' := ih (by omega)
    have e0 : (((i + 1 : Nat) : Int) - 1) = (i : Int) := by omega
    refine ev_succ (ev_succ ?_)
    simp only [e0, nb_j _ l (-1) (i : Int) (by omega) (by omega)]
    obtain ⟨h1, h2⟩ := kp_rd l i (by omega)
    by_cases hk : kp l i = true
    · simp only [if_pos (h1.2 hk)]
      rw [prv, if_pos hk]
      exact Ev.now _
    · simp only [if_neg (fun q => hk (h1.1 q))]
      rw [prv, if_neg hk, show wrap64 ((i : Int) + -1) = (i : Int) - 1 by unfold wrap64; omega]
      exact ih'
theorem nbA_ev (l : List Int) (hl : l.length ≤ 1048576) : ∀ (d i : Nat), i + d = l.length → Ev (fun k => colophonref08_neighbour.l0 k l 1 (i : Int)) (orM (nxt l d i)) := by
  intro d
  induction d with
  | zero =>
    intro i hi
    refine ev_succ (ev_succ ?_)
    simp only [nb_out _ l 1 (i : Int) (by omega)]
    exact Ev.now _
  | succ d ih =>
    intro i hi
    have ih' := ih (i + 1) (by omega)
    refine ev_succ (ev_succ ?_)
    simp only [nb_j _ l 1 (i : Int) (by omega) (by omega)]
    obtain ⟨h1, h2⟩ := kp_rd l i (by omega)
    by_cases hk : kp l i = true
    · simp only [if_pos (h1.2 hk)]
      rw [nxt, if_pos hk]
      exact Ev.now _
    · simp only [if_neg (fun q => hk (h1.1 q))]
      rw [nxt, if_neg hk, w64 (by omega)]
      exact ih'
theorem neighbourB_ev (l : List Int) (hl : l.length ≤ 1048576) (i : Nat) (hi : i ≤ l.length) : Ev (fun k => colophonref08_neighbour.f k l (i : Int) (-1)) (orM (prv l i)) := by
  simp only [colophonref08_neighbour.f]
  rw [show wrap64 ((i : Int) + -1) = (i : Int) - 1 by unfold wrap64; omega]
  exact nbB_ev l hl i hi
theorem neighbourA_ev (l : List Int) (hl : l.length ≤ 1048576) (i : Nat) (hi : i < l.length) : Ev (fun k => colophonref08_neighbour.f k l (i : Int) 1) (orM (nxt l (l.length - (i + 1)) (i + 1))) := by
  simp only [colophonref08_neighbour.f]
  rw [w64 (by omega)]
  exact nbA_ev l hl (l.length - (i + 1)) (i + 1) (by omega)
theorem first_ev (l : List Int) (hl : l.length ≤ 1048576) (i : Nat) (hi : i < l.length) : Ev (fun k => colophonref08_first.f k l (i : Int)) (isH l i) := by
  simp only [colophonref08_first.f, if_pos (Int.natCast_nonneg i), if_pos (show (i : Int) < (l.length : Int) by omega)]
  obtain ⟨h1, h2⟩ := kp_rd l i hi
  by_cases hk : kp l i = true
  · have h3 := h1.2 hk
    simp only [if_neg (show ¬ rd l (i : Int) < 0 by omega)]
    have hnb := neighbourB_ev l hl i (by omega)
    unfold isH
    rw [hk]
    cases hp : prv l i with
    | none =>
      rw [hp] at hnb
      change Ev _ (-1 : Int) at hnb
      refine Ev.bind hnb ?_
      simp only [show ((-1 : Int) < 0) = True by decide, if_true]
      exact Ev.now _
    | some q =>
      rw [hp] at hnb
      change Ev _ (q : Int) at hnb
      obtain ⟨p1, p2, _⟩ := prv_some l hp
      refine Ev.bind hnb ?_
      simp only [if_neg (show ¬ (q : Int) < 0 by omega), if_pos (Int.natCast_nonneg q), if_pos (show (q : Int) < (l.length : Int) by omega)]
      rw [(kp_rd l q (by omega)).2, h2]
      exact Ev.now _
  · have h3 : rd l (i : Int) < 0 := by
      rcases Int.lt_or_le (rd l (i : Int)) 0 with h | h
      · exact h
      · exact absurd (h1.1 h) hk
    simp only [if_pos h3]
    have : isH l i = false := by unfold isH; rw [show kp l i = false by simpa using hk]; rfl
    rw [this]
    exact Ev.now _
/-- Behind a run's last place: nothing, or another run. -/
theorem run_end {l : List Int} {n h q e : Nat} (hn : n = l.length) (hh : isH l h = true) (he : e ∈ run l n h) (hlast : ∀ j ∈ run l n h, j ≤ e) (hq : nxt l (n - (e + 1)) (e + 1) = some q) : l.getD q (-1) ≠ l.getD h (-1) := by
  obtain ⟨m1, m2, m3⟩ := mem_run.1 he
  obtain ⟨q1, q2, q3, q4⟩ := nxt_some l hq
  have hpv : prv l q = some e := prv_of l (by omega) m2 (fun j a b => q4 j (by omega) b)
  have hH : isH l q = true := by
    cases hc : isH l q with
    | true => rfl
    | false =>
      exfalso
      have hs : hd l (q + 1) = hd l (e + 1) := hd_same l (by omega) (fun k a b => by
        rcases Nat.lt_or_ge k q with h5 | h5
        · cases hk : isH l k with
          | false => rfl
          | true => have := q4 k (by omega) h5; rw [isH_kp hk] at this; cases this
        · obtain rfl : k = q := by omega
          exact hc)
      have := hlast q (mem_run.2 ⟨by omega, q3, by rw [hs, m3]⟩)
      omega
  have h1 := isH_ne hH hpv
  have h2 := hd_level e m2
  rw [m3] at h2
  rw [h2]
  exact fun e => h1 e.symm
theorem run_next {l : List Int} {n h : Nat} (hn : n = l.length) (t : Nat) (ht : t + 1 < (run l n h).length) : nxt l (n - ((run l n h)[t] + 1)) ((run l n h)[t] + 1) = some (run l n h)[t + 1] := by
  have hlt := List.pairwise_iff_getElem.1 (run_sorted l n h) t (t + 1) (by omega) ht (by omega)
  obtain ⟨m1, m2, m3⟩ := mem_run.1 (List.getElem_mem ht)
  cases hq : nxt l (n - ((run l n h)[t] + 1)) ((run l n h)[t] + 1) with
  | none =>
    have := nxt_none l hq (run l n h)[t + 1] (by omega) (by omega)
    rw [m2] at this
    cases this
  | some q =>
    obtain ⟨q1, q2, q3, q4⟩ := nxt_some l hq
    rcases Nat.lt_trichotomy q (run l n h)[t + 1] with h1 | h1 | h1
    · have := run_gap l n h t q ht (by omega) h1
      rw [q3] at this
      cases this
    · rw [h1]
    · have := q4 (run l n h)[t + 1] (by omega) h1
      rw [m2] at this
      cases this
theorem refrun_l0 (l : List Int) (hl : l.length ≤ 1048576) (h : Nat) (hh : isH l h = true) (hhl : h < l.length) : ∀ (d t : Nat), t + 1 + d = (run l l.length h).length → Ev (fun k => colophonref08_run.l0 k l (h : Int) (toI ((run l l.length h).take (t + 1)))) (toI (run l l.length h)) := by
  have hrl : (run l l.length h).length ≤ l.length := by
    have := List.length_filter_le (fun j => kp l j && hd l (j + 1) == h) (List.range l.length)
    simpa [run] using this
  intro d
  induction d with
  | zero =>
    intro t ht
    have htl : t < (run l l.length h).length := by omega
    obtain ⟨e, he⟩ : ∃ e, (run l l.length h)[t] = e := ⟨_, rfl⟩
    have hm : e ∈ run l l.length h := he ▸ List.getElem_mem htl
    obtain ⟨m1, m2, m3⟩ := mem_run.1 hm
    have hlast : ∀ j ∈ run l l.length h, j ≤ e := fun j hj => by
      obtain ⟨z, hz, rfl⟩ := List.mem_iff_getElem.1 hj
      rcases Nat.lt_or_ge z t with h1 | h1
      · have := List.pairwise_iff_getElem.1 (run_sorted l l.length h) z t hz htl h1
        omega
      · obtain rfl : z = t := by omega
        omega
    refine ev_succ ?_
    have hlen : (toI ((run l l.length h).take (t + 1))).length = t + 1 := by rw [toI_length, List.length_take]; omega
    have hw : wrap64 (((toI ((run l l.length h).take (t + 1))).length : Int) - 1) = (t : Int) := by rw [hlen]; unfold wrap64; omega
    have hrd : rd (toI ((run l l.length h).take (t + 1))) (t : Int) = (e : Int) := by rw [rd_nat]; simp [toI, htl, he]
    simp only [colophonref08_run.l0, hw, if_pos (Int.natCast_nonneg t), if_pos (show (t : Int) < ((toI ((run l l.length h).take (t + 1))).length : Int) by rw [hlen]; omega), hrd]
    have hnb := neighbourA_ev l hl e m1
    rw [List.take_of_length_le (by omega)]
    cases hq : nxt l (l.length - (e + 1)) (e + 1) with
    | none =>
      rw [hq] at hnb
      change Ev _ (-1 : Int) at hnb
      refine Ev.bind hnb ?_
      simp only [show ((-1 : Int) < 0) = True by decide, if_true]
      exact Ev.now _
    | some q =>
      rw [hq] at hnb
      change Ev _ (q : Int) at hnb
      have hne := run_end rfl hh hm hlast hq
      obtain ⟨q1, q2, q3, q4⟩ := nxt_some l hq
      refine Ev.bind hnb ?_
      simp only [if_neg (show ¬ (q : Int) < 0 by omega), if_pos (Int.natCast_nonneg q), if_pos (show (q : Int) < (l.length : Int) by omega), if_pos (Int.natCast_nonneg h), if_pos (show (h : Int) < (l.length : Int) by omega)]
      simp only [if_neg (show ¬ rd l (q : Int) = rd l (h : Int) by rw [(kp_rd l q (by omega)).2, (kp_rd l h hhl).2]; exact hne)]
      exact Ev.now _
  | succ d ih =>
    intro t ht
    have htl : t + 1 < (run l l.length h).length := by omega
    have hnx := run_next (l := l) (h := h) rfl t htl
    obtain ⟨e, he⟩ : ∃ e, (run l l.length h)[t] = e := ⟨_, rfl⟩
    obtain ⟨q, hq⟩ : ∃ q, (run l l.length h)[t + 1] = q := ⟨_, rfl⟩
    rw [he, hq] at hnx
    obtain ⟨m1, m2, m3⟩ := mem_run.1 (he ▸ List.getElem_mem (by omega) : e ∈ run l l.length h)
    obtain ⟨n1, n2, n3⟩ := mem_run.1 (hq ▸ List.getElem_mem htl : q ∈ run l l.length h)
    have hlv := hd_level q n2
    rw [n3] at hlv
    have hnext := ih (t + 1) (by omega)
    refine ev_succ ?_
    have hlen : (toI ((run l l.length h).take (t + 1))).length = t + 1 := by rw [toI_length, List.length_take]; omega
    have hw : wrap64 (((toI ((run l l.length h).take (t + 1))).length : Int) - 1) = (t : Int) := by rw [hlen]; unfold wrap64; omega
    have hrd : rd (toI ((run l l.length h).take (t + 1))) (t : Int) = (e : Int) := by rw [rd_nat]; simp [toI, show t < (run l l.length h).length by omega, he]
    simp only [colophonref08_run.l0, hw, if_pos (Int.natCast_nonneg t), if_pos (show (t : Int) < ((toI ((run l l.length h).take (t + 1))).length : Int) by rw [hlen]; omega), hrd]
    have hnb := neighbourA_ev l hl e m1
    rw [hnx] at hnb
    change Ev _ (q : Int) at hnb
    refine Ev.bind hnb ?_
    simp only [if_neg (show ¬ (q : Int) < 0 by omega), if_pos (Int.natCast_nonneg q), if_pos (show (q : Int) < (l.length : Int) by omega), if_pos (Int.natCast_nonneg h), if_pos (show (h : Int) < (l.length : Int) by omega), if_pos (show (toI ((run l l.length h).take (t + 1))).length < 17592186044416 by rw [hlen]; omega)]
    simp only [if_pos (show rd l (q : Int) = rd l (h : Int) by rw [(kp_rd l q n1).2, (kp_rd l h hhl).2]; exact hlv.symm)]
    rw [show toI ((run l l.length h).take (t + 1)) ++ [(q : Int)] = toI ((run l l.length h).take (t + 1 + 1)) by
      rw [List.take_succ_eq_append_getElem htl, toI_append, hq]
      rfl]
    exact hnext
theorem refrun_ev (l : List Int) (hl : l.length ≤ 1048576) (h : Nat) (hh : isH l h = true) (hhl : h < l.length) : Ev (fun k => colophonref08_run.f k l (h : Int)) (toI (run l l.length h)) := by
  simp only [colophonref08_run.f]
  obtain ⟨t, ht⟩ := run_head hh hhl
  have := refrun_l0 l hl h hh hhl ((run l l.length h).length - 1) 0 (by rw [ht]; simp; omega)
  rw [show toI ((run l l.length h).take (0 + 1)) = [(h : Int)] by rw [ht]; rfl] at this
  exact this
theorem refLevels_l0 (l : List Int) (hl : l.length ≤ 1048576) : ∀ (d i : Nat), i + d = l.length → Ev (fun k => colophonref08_Levels.l0 k l ((heads l i).map (fun h => toI (run l l.length h))) (i : Int)) (levI l l.length) := by
  intro d
  induction d with
  | zero =>
    intro i hi
    obtain rfl : i = l.length := by omega
    refine ev_succ ?_
    simp only [colophonref08_Levels.l0, if_neg (show ¬ (l.length : Int) < (l.length : Int) by omega)]
    have : (heads l l.length).map (fun h => toI (run l l.length h)) = levI l l.length := by unfold levI; rw [lev_eq, List.map_map]; rfl
    rw [this]
    exact Ev.now _
  | succ d ih =>
    intro i hi
    have hnext := ih (i + 1) (by omega)
    have hlen : ((heads l i).map (fun h => toI (run l l.length h))).length ≤ 1048576 := by
      rw [List.length_map]
      have := List.length_filter_le (isH l) (List.range i)
      rw [List.length_range] at this
      show (heads l i).length ≤ _
      unfold heads
      omega
    refine ev_succ ?_
    simp only [colophonref08_Levels.l0, if_pos (show (i : Int) < (l.length : Int) by omega)]
    refine Ev.bind (first_ev l hl i (by omega)) ?_
    rw [heads_succ] at hnext
    by_cases hh : isH l i = true
    · rw [if_pos hh, List.map_append] at hnext
      simp only [hh, if_true]
      refine Ev.bind (refrun_ev l hl i hh (by omega)) ?_
      simp only [if_pos (show ((heads l i).map (fun h => toI (run l l.length h))).length < 5864062014805 by omega), w64 (show i < 9223372036854775807 by omega)]
      exact hnext
    · rw [if_neg hh, List.append_nil] at hnext
      simp only [if_neg hh, w64 (show i < 9223372036854775807 by omega)]
      exact hnext
theorem refLevels_ev (l : List Int) (hl : l.length ≤ 1048576) : Ev (fun k => colophonref08_Levels.f k l) (levI l l.length) := by
  have := refLevels_l0 l hl l.length 0 (Nat.zero_add _)
  exact this
end Go.Proofs.Yteldofimjklckaa.Run
