/- What runs.Levels comes to. -/
import Derived.Test.YteldofimjklckaaX1
import Derived.Test.YteldofimjklckaaRunM
import Derived.Test.YteldofimjklckaaIsoP
namespace Go.Proofs.Yteldofimjklckaa.Run
open Go.RowKit Go.Proofs.Yteldofimjklckaa.X Go.Proofs.YteldofimjklckaaW.PrintWords Go.Proofs.YteldofimjklckaaW.PrintLast Go.Proofs.Yteldofimjklckaa.Iso
set_option linter.unusedVariables false
set_option linter.unusedSimpArgs false

def toI (r : List Nat) : List Int := r.map (fun (n : Nat) => (n : Int))
theorem toI_length (r : List Nat) : (toI r).length = r.length := List.length_map _
theorem toI_append (r s : List Nat) : toI (r ++ s) = toI r ++ toI s := List.map_append
def levI (l : List Int) (i : Nat) : List (List Int) := (lev l i).map toI
theorem levI_length (l : List Int) (i : Nat) : (levI l i).length = (lev l i).length := List.length_map _
theorem lev_count (l : List Int) : ∀ i, (lev l i).length ≤ i
  | 0 => Nat.le_refl _
  | i + 1 => by
    have := lev_count l i
    simp only [lev]
    split
    · split
      · simp; omega
      · simp; omega
    · omega
theorem lev_lens (l : List Int) : ∀ i, ∀ r ∈ lev l i, r.length ≤ i
  | 0, r, h => by simp [lev] at h
  | i + 1, r, h => by
    rw [lev_eq] at h
    obtain ⟨g, hg, rfl⟩ := List.mem_map.1 h
    have := List.length_filter_le (fun j => kp l j && hd l (j + 1) == g) (List.range (i + 1))
    simpa [run] using this
theorem set_last {α : Type} (H : List α) (z v : α) (n : Nat) (hn : n = H.length) : (H ++ [z]).set n v = H ++ [v] := by
  subst hn
  rw [List.set_append_right _ _ (Nat.le_refl _)]
  simp
/-- The level of the last kept place, -1: there is none. -/
def lastL (l : List Int) (i : Nat) : Int := match prv l i with | none => -1 | some q => l.getD q (-1)
theorem getD_same (l : List Int) (i : Nat) (h : i < l.length) : l.getD i (-1) = l.getD i 0 := by
  rw [List.getD_eq_getElem?_getD, List.getD_eq_getElem?_getD, List.getElem?_eq_getElem h]
  rfl
theorem Levels_l0 (l : List Int) (hl : l.length ≤ 1048576) : ∀ (d i : Nat), i + d = l.length → Ev (fun k => runs_Levels.l0 k (levI l i) (lastL l i) l (l.length : Int) (i : Int)) (levI l l.length) := by
  intro d
  induction d with
  | zero =>
    intro i hi
    refine ev_succ ?_
    obtain rfl : i = l.length := by omega
    simp only [runs_Levels.l0, if_neg (show ¬ (l.length : Int) < (l.length : Int) by omega)]
    exact Ev.now _
  | succ d ih =>
    intro i hi
    have hil : i < l.length := by omega
    refine ev_succ ?_
    simp only [runs_Levels.l0, if_pos (show (i : Int) < (l.length : Int) by omega), if_pos (Int.natCast_nonneg i), rd_nat, w64 (show i < 9223372036854775807 by omega)]
    have hgo := ih (i + 1) (by omega)
    have hv := getD_same l i hil
    by_cases h1 : l.getD i 0 < 0
    · simp only [if_pos h1]
      have hk : kp l i = false := by unfold kp; rw [hv]; exact decide_eq_false (by omega)
      have e1 : levI l (i + 1) = levI l i := by unfold levI; rw [lev, hk]; rfl
      have e2 : lastL l (i + 1) = lastL l i := by unfold lastL; rw [prv, hk]; rfl
      rw [e1, e2] at hgo
      exact hgo
    · simp only [if_neg h1]
      have hk : kp l i = true := by unfold kp; rw [hv]; exact decide_eq_true (by omega)
      have e2 : lastL l (i + 1) = l.getD i 0 := by unfold lastL; rw [prv, if_pos hk]; exact hv
      rw [e2] at hgo
      have hc := lev_count l i
      by_cases h2 : l.getD i 0 = lastL l i
      · simp only [if_pos h2]
        obtain ⟨q, hq⟩ : ∃ q, prv l i = some q := by
          cases hp : prv l i with
          | none => unfold lastL at h2; rw [hp] at h2; simp only at h2; omega
          | some q => exact ⟨q, rfl⟩
        have hh : isH l i = false := by
          unfold isH
          rw [hk, hq]
          unfold lastL at h2
          rw [hq] at h2
          simp only at h2
          simp only [Bool.true_and]
          rw [hv, ← h2]
          simp
        obtain ⟨H, hH, _⟩ := heads_last l i (by rw [hq]; simp)
        have hle := lev_eq l i
        rw [hH, List.map_append] at hle
        simp only [List.map_cons, List.map_nil] at hle
        generalize List.map (run l i) H = H' at hle
        generalize hz : run l i (hd l i) = z at hle
        have e1 : lev l (i + 1) = H' ++ [z ++ [i]] := by
          simp only [lev]
          rw [if_pos hk, if_neg (by rw [hh]; simp), hle, List.dropLast_concat]
          simp
        have hzl : z.length ≤ i := lev_lens l i z (by rw [hle]; simp)
        have e3 : levI l i = H'.map toI ++ [toI z] := by unfold levI; rw [hle]; simp
        have e4 : levI l (i + 1) = H'.map toI ++ [toI z ++ [(i : Int)]] := by unfold levI; rw [e1]; simp [toI]
        have hlen : (levI l i).length = H'.length + 1 := by rw [e3]; simp
        have hH' : H'.length + 1 ≤ i := by rw [hle] at hc; simpa using hc
        have hw : wrap64 (((levI l i).length : Int) - 1) = (H'.length : Int) := by rw [hlen]; unfold wrap64; omega
        simp only [hw, if_pos (Int.natCast_nonneg H'.length), if_pos (show (H'.length : Int) < ((levI l i).length : Int) by rw [hlen]; omega)]
        have hrd : rd_L1 (levI l i) (H'.length : Int) = toI z := by
          unfold rd_L1
          rw [e3, Int.toNat_natCast, List.getD_eq_getElem?_getD, List.getElem?_append_right (by simp)]
          simp
        simp only [hrd, if_pos (show (toI z).length < 17592186044416 by rw [toI_length]; omega), Int.toNat_natCast]
        rw [e3, set_last _ _ _ _ (by simp), ← e4]
        exact hgo
      · simp only [if_neg h2]
        have hh : isH l i = true := by
          unfold isH
          rw [hk]
          cases hp : prv l i with
          | none => rfl
          | some q =>
            unfold lastL at h2
            rw [hp] at h2
            simp only at h2
            simp only [Bool.true_and, bne_iff_ne, ne_eq]
            rw [hv]
            exact fun e => h2 e.symm
        have e1 : lev l (i + 1) = lev l i ++ [[i]] := by simp only [lev]; rw [if_pos hk, if_pos hh]
        have e4 : levI l (i + 1) = levI l i ++ [([(i : Int)] : List Int)] := by unfold levI; rw [e1]; simp [toI]
        have hcl : (levI l i).length ≤ i := by rw [levI_length]; exact hc
        simp only [if_pos (show (levI l i).length < 5864062014805 by omega), Option.bind_some]
        have hw : wrap64 (((levI l i ++ [([] : List Int)]).length : Int) - 1) = ((levI l i).length : Int) := by rw [List.length_append]; unfold wrap64; simp only [List.length_singleton]; omega
        simp only [hw, if_pos (Int.natCast_nonneg (levI l i).length), if_pos (show ((levI l i).length : Int) < ((levI l i ++ [([] : List Int)]).length : Int) by rw [List.length_append, List.length_singleton]; omega)]
        have hrd : rd_L1 (levI l i ++ [([] : List Int)]) ((levI l i).length : Int) = [] := by
          unfold rd_L1
          rw [Int.toNat_natCast, List.getD_eq_getElem?_getD, List.getElem?_append_right (Nat.le_refl _)]
          simp
        simp only [hrd, if_pos (show ([] : List Int).length < 17592186044416 by simp), Int.toNat_natCast, List.nil_append]
        rw [set_last _ _ _ _ rfl, ← e4]
        exact hgo
theorem Levels_ev (l : List Int) (hl : l.length ≤ 1048576) : Ev (fun k => runs_Levels.f k l) (levI l l.length) := Levels_l0 l hl l.length 0 (by omega)
end Go.Proofs.Yteldofimjklckaa.Run
