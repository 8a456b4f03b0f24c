/- The rows on Resolve's way, and what fits. Plain. -/
import Derived.Test.YteldofimjklckaaHStM
import Derived.Test.YteldofimjklckaaRunM
namespace Go.Proofs.Yteldofimjklckaa.Exp
open Go.Proofs.Yteldofimjklckaa.Iso Go.Proofs.Yteldofimjklckaa.G

def lvp (c : List Int) (base : Int) (i : Nat) : List Int := (List.range c.length).map (fun j => if j < i then lv c base j else 0)
def typ (c : List Int) (base : Int) (i : Nat) : List Int := (List.range c.length).map (fun j => if j < i then ty c base j else c.getD j 0)
theorem lvp_length (c : List Int) (base : Int) (i : Nat) : (lvp c base i).length = c.length := by simp [lvp]
theorem typ_length (c : List Int) (base : Int) (i : Nat) : (typ c base i).length = c.length := by simp [typ]
theorem lvp_get (c : List Int) (base : Int) (i j : Nat) (h : j < c.length) : (lvp c base i).getD j 0 = if j < i then lv c base j else 0 := by simp [lvp, List.getD_eq_getElem?_getD, h]
theorem typ_get (c : List Int) (base : Int) (i j : Nat) (h : j < c.length) : (typ c base i).getD j 0 = if j < i then ty c base j else c.getD j 0 := by simp [typ, List.getD_eq_getElem?_getD, h]
theorem lvp_zero (c : List Int) (base : Int) : lvp c base 0 = List.replicate c.length 0 := ext_getD (by simp [lvp]) fun j hj => by
  rw [lvp_length] at hj
  rw [lvp_get c base 0 j hj, if_neg (by omega)]
  simp [List.getD_eq_getElem?_getD, hj]
theorem typ_zero (c : List Int) (base : Int) : typ c base 0 = c := ext_getD (by simp [typ]) fun j hj => by
  rw [typ_length] at hj
  rw [typ_get c base 0 j hj, if_neg (by omega)]
theorem lvp_all (c : List Int) (base : Int) : lvp c base c.length = lvs c base := ext_getD (by rw [lvp_length, lvs_length]) fun j hj => by
  rw [lvp_length] at hj
  rw [lvp_get c base _ j hj, if_pos hj, lvs_get c base j hj]
theorem typ_all (c : List Int) (base : Int) : typ c base c.length = tys c base := ext_getD (by rw [typ_length, tys_length]) fun j hj => by
  rw [typ_length] at hj
  rw [typ_get c base _ j hj, if_pos hj, tys_get c base j hj]
theorem set_get (l : List Int) (i j : Nat) (x : Int) (hi : i < l.length) : (l.set i x).getD j 0 = if j = i then x else l.getD j 0 := by
  rw [List.getD_eq_getElem?_getD, List.getElem?_set]
  by_cases h : i = j
  · subst h; simp [hi]
  · rw [if_neg h, if_neg (Ne.symm h), List.getD_eq_getElem?_getD]
theorem lvp_set (c : List Int) (base : Int) (i : Nat) (hi : i < c.length) {x : Int} (hx : x = lv c base i) : (lvp c base i).set i x = lvp c base (i + 1) := ext_getD (by rw [List.length_set, lvp_length, lvp_length]) fun j hj => by
  rw [List.length_set, lvp_length] at hj
  rw [set_get _ _ _ _ (by rw [lvp_length]; exact hi), lvp_get c base _ j hj, lvp_get c base _ j hj]
  by_cases h : j = i
  · subst h; rw [if_pos rfl, if_pos (by omega), hx]
  · rw [if_neg h]
    by_cases h2 : j < i
    · rw [if_pos h2, if_pos (by omega)]
    · rw [if_neg h2, if_neg (by omega)]
theorem typ_set (c : List Int) (base : Int) (i : Nat) (hi : i < c.length) {x : Int} (hx : x = ty c base i) : (typ c base i).set i x = typ c base (i + 1) := ext_getD (by rw [List.length_set, typ_length, typ_length]) fun j hj => by
  rw [List.length_set, typ_length] at hj
  rw [set_get _ _ _ _ (by rw [typ_length]; exact hi), typ_get c base _ j hj, typ_get c base _ j hj]
  by_cases h : j = i
  · subst h; rw [if_pos rfl, if_pos (by omega), hx]
  · rw [if_neg h]
    by_cases h2 : j < i
    · rw [if_pos h2, if_pos (by omega)]
    · rw [if_neg h2, if_neg (by omega)]
theorem typ_keep (c : List Int) (base : Int) (i : Nat) (hi : i < c.length) (hx : c.getD i 0 = ty c base i) : typ c base i = typ c base (i + 1) := ext_getD (by rw [typ_length, typ_length]) fun j hj => by
  rw [typ_length] at hj
  rw [typ_get c base _ j hj, typ_get c base _ j hj]
  by_cases h : j = i
  · subst h; rw [if_neg (by omega), if_pos (by omega), hx]
  · by_cases h2 : j < i
    · rw [if_pos h2, if_pos (by omega)]
    · rw [if_neg h2, if_neg (by omega)]
theorem Good.len {base : Int} : ∀ {l : List E}, Good base l → (l.length : Int) ≤ (l.headD ⟨0, 0, false⟩).lvl - base + 1
  | [], h => h.elim
  | e :: t, h => by
    rcases h with ⟨rfl, rfl⟩ | ⟨h1, _, _, _, h4⟩
    · simp
    · have := Good.len h4
      simp only [List.length_cons, List.headD_cons]
      omega
theorem fits (c : List Int) {base : Int} (hB : base = 0 ∨ base = 1) (hl : c.length ≤ 17592186043904) (i : Nat) (hi : i ≤ c.length) : Fits (sts c base i) := by
  have hI := sts_inv c (base := base) (by omega) i
  have hS := sts_small c base i
  have hd := hI.good.hd (by omega)
  have hn := hI.good.len
  refine ⟨hI.good.ne, ?_, ?_, ?_, by omega, by omega, by omega⟩
  · show 0 ≤ (top (sts c base i)).lvl
    unfold top; omega
  · show (top (sts c base i)).lvl ≤ 125
    unfold top; omega
  · have := hd.2.1
    omega
/-! ### one class -/
theorem emd_rem {x : Int} (h : emd x = true) : rem x = true := by
  unfold emd at h; unfold rem
  simp only [Bool.or_eq_true] at h ⊢
  rcases h with ((h | h) | h) | h <;> simp [h]
theorem one_rem (c : List Int) (base : Int) (i : Nat) (hi : i < c.length) (h : rem (c.getD i 0) = true) : (lvp c base i).set i (-1) = lvp c base (i + 1) ∧ typ c base i = typ c base (i + 1) :=
  ⟨lvp_set c base i hi (by unfold lv; rw [if_pos h]), typ_keep c base i hi (by unfold ty; rw [if_pos (.inl h)])⟩
theorem one_sep (c : List Int) (base : Int) (i : Nat) (hi : i < c.length) (h : c.getD i 0 = 11) : (lvp c base i).set i base = lvp c base (i + 1) ∧ typ c base i = typ c base (i + 1) :=
  ⟨lvp_set c base i hi (by unfold lv; rw [if_neg (by rw [h]; decide), if_pos h]), typ_keep c base i hi (by unfold ty; rw [if_pos (.inr h)])⟩
theorem one_take (c : List Int) {base : Int} (hB : base = 0 ∨ base = 1) (i : Nat) (hi : i < c.length) (h1 : rem (c.getD i 0) = false) (h2 : c.getD i 0 ≠ 11) : tkL (met c base i) (lvp c base i) i = lvp c base (i + 1) ∧ tkT (met c base i) (typ c base i) i = typ c base (i + 1) := by
  constructor
  · unfold tkL
    exact lvp_set c base i hi (by unfold lv; rw [if_neg (by rw [h1]; simp), if_neg h2])
  · have hd := ((met_inv c (base := base) (by omega) i).good.hd (by omega)).2.2
    have hf : (top (met c base i)).frc = 0 ∨ (top (met c base i)).frc = 1 ∨ (top (met c base i)).frc = 2 := hd
    have ht : ty c base i = if (top (met c base i)).frc ≠ 0 then (top (met c base i)).frc else c.getD i 0 := by
      unfold ty; rw [if_neg (fun h => h.elim (fun h => by rw [h1] at h; cases h) h2)]
    unfold tkT
    rcases hf with e | e | e <;> rw [e] at ht ⊢
    · rw [if_neg (by decide), if_neg (by decide)]
      exact typ_keep c base i hi (by rw [ht, if_neg (by simp)])
    · rw [if_pos rfl]
      exact typ_set c base i hi (by rw [ht, if_pos (by decide)])
    · rw [if_neg (by decide), if_pos rfl]
      exact typ_set c base i hi (by rw [ht, if_pos (by decide)])
theorem met_at (c : List Int) (base : Int) (i : Nat) (h : c.getD i 0 ≠ 23) : met c base i = sts c base i := by unfold met; rw [if_neg h]
theorem met_end (c : List Int) (base : Int) (i : Nat) (h : c.getD i 0 = 23) : met c base i = fin (sts c base i) := by
  unfold met
  rw [if_pos h]
  show step _ _ _ = _
  rw [h]; rfl
theorem sts_succ (c : List Int) (base : Int) (i : Nat) : sts c base (i + 1) = step (sts c base i) (c.getD i 0) (rt c i) := rfl
end Go.Proofs.Yteldofimjklckaa.Exp
