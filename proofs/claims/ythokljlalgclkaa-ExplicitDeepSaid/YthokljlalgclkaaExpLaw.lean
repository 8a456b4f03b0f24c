/- Explicit levels in plain Lean: what lies in an isolate hides; embeddings alone; a plain paragraph. -/
import Derived.Test.YthokljlalgclkaaExpT
namespace Go.Proofs.Ythokljlalgclkaa.Exp
open Go.Proofs.Ythokljlalgclkaa.Iso

/-! ### what lies in an isolate -/
def shut (x : List Int) : Prop := ∀ y ∈ x, st y = false ∧ y ≠ 23
def one (a x b : List Int) : List Int := a ++ 21 :: (x ++ 23 :: b)
theorem bs_shut : ∀ (x : List Int), shut x → ∀ (z : List Int) (n : Nat), 1 ≤ n → bs (x ++ z) n = bs z n
  | [], _, z, n, _ => rfl
  | y :: x, h, z, n, hn => by
    have hy := h y (by simp)
    rw [List.cons_append]
    simp only [bs]
    rw [if_neg (by rw [hy.1]; simp), if_neg hy.2, if_neg (by omega), if_neg (by omega)]
    exact bs_shut x (fun q hq => h q (by simp [hq])) z n hn
theorem bs_wrap (x b : List Int) (hx : shut x) : ∀ (l : List Int) (n : Nat), bs (l ++ 21 :: (x ++ 23 :: b)) n = bs (l ++ b) n
  | [], n => by
    rw [List.nil_append, List.nil_append]
    simp only [bs]
    rw [if_pos (by decide), bs_shut x hx _ _ (by omega)]
    simp only [bs]
    rw [if_neg (by decide), if_pos trivial, Nat.add_sub_cancel]
  | y :: l, n => by
    rw [List.cons_append, List.cons_append]
    simp only [bs]
    rw [bs_wrap x b hx l (n + 1), bs_wrap x b hx l (n - 1), bs_wrap x b hx l n]
theorem par_shut : ∀ (x : List Int), shut x → ∀ (z : List Int) (n off : Nat), par n (x ++ z) off = par n z (off + x.length)
  | [], _, z, n, off => rfl
  | y :: x, h, z, n, off => by
    have hy := h y (by simp)
    rw [List.cons_append]
    simp only [par]
    rw [if_neg (by rw [hy.1]; simp), if_neg hy.2, par_shut x (fun q hq => h q (by simp [hq])) z n (off + 1), List.length_cons]
    congr 1
    omega
def past (p m k : Nat) : Nat := if p < m then p else p + k
theorem par_wrap (x b : List Int) (hx : shut x) : ∀ (l : List Int) (n off : Nat), 1 ≤ n → par n (l ++ 21 :: (x ++ 23 :: b)) off = past (par n (l ++ b) off) (off + l.length) (x.length + 2)
  | [], n, off, hn => by
    rw [List.nil_append, List.nil_append]
    have hg := par_ge b n off
    unfold past
    rw [if_neg (by simp; omega)]
    simp only [par]
    rw [if_pos (by decide), par_shut x hx]
    simp only [par]
    rw [if_neg (by decide), if_pos trivial, if_neg (by omega), Nat.add_sub_cancel, show off + 1 + x.length + 1 = off + (x.length + 2) by omega, par_shift]
  | y :: l, n, off, hn => by
    rw [List.cons_append, List.cons_append, List.length_cons]
    simp only [par]
    rw [show off + (l.length + 1) = off + 1 + l.length by omega]
    by_cases h1 : st y = true
    · rw [if_pos h1, if_pos h1]
      exact par_wrap x b hx l (n + 1) (off + 1) (by omega)
    · rw [if_neg h1, if_neg h1]
      by_cases h2 : y = 23
      · rw [if_pos h2, if_pos h2]
        by_cases h3 : n ≤ 1
        · unfold past
          rw [if_pos h3, if_pos h3, if_pos (by omega)]
        · rw [if_neg h3, if_neg h3]
          exact par_wrap x b hx l (n - 1) (off + 1) (by omega)
      · rw [if_neg h2, if_neg h2]
        exact par_wrap x b hx l n (off + 1) hn
theorem rt_left (a x b : List Int) (hx : shut x) (i : Nat) (hi : i < a.length) : rt (one a x b) i = rt (a ++ b) i := by
  unfold rt
  have e0 : (one a x b).getD i 0 = (a ++ b).getD i 0 := by unfold one; rw [getD_left hi, getD_left hi]
  rw [e0]
  have e1 : (one a x b).drop (i + 1) = a.drop (i + 1) ++ 21 :: (x ++ 23 :: b) := by unfold one; rw [List.drop_append_of_le_length (by omega)]
  have e2 : (a ++ b).drop (i + 1) = a.drop (i + 1) ++ b := by rw [List.drop_append_of_le_length (by omega)]
  have hp := par_wrap x b hx (a.drop (i + 1)) 1 (i + 1) (Nat.le_refl _)
  rw [← e1, ← e2, List.length_drop] at hp
  have hp' : partner (one a x b) i = past (partner (a ++ b) i) (i + 1 + (a.length - (i + 1))) (x.length + 2) := hp
  unfold past at hp'
  rw [show i + 1 + (a.length - (i + 1)) = a.length by omega] at hp'
  generalize partner (a ++ b) i = q at hp' ⊢
  by_cases hq : q < a.length
  · rw [if_pos hq] at hp'
    rw [hp', show (one a x b).take q = (a ++ b).take q by unfold one; rw [List.take_append_of_le_length (by omega), List.take_append_of_le_length (by omega)]]
  · rw [if_neg hq] at hp'
    have e3 : (one a x b).take (q + (x.length + 2)) = a ++ 21 :: (x ++ 23 :: b.take (q - a.length)) := by
      unfold one
      rw [List.take_append, List.take_of_length_le (by omega), show q + (x.length + 2) - a.length = (q - a.length + 1 + x.length) + 1 by omega, List.take_succ_cons, List.take_append, List.take_of_length_le (by omega), show q - a.length + 1 + x.length - x.length = (q - a.length) + 1 by omega, List.take_succ_cons]
    have e4 : (a ++ b).take q = a ++ b.take (q - a.length) := by rw [List.take_append, List.take_of_length_le (by omega)]
    rw [hp', e3, e4, List.drop_append_of_le_length (by omega), List.drop_append_of_le_length (by omega), bs_wrap x _ hx]
theorem sts_left (a x b : List Int) (hx : shut x) (base : Int) : ∀ i, i ≤ a.length → sts (one a x b) base i = sts (a ++ b) base i
  | 0, _ => rfl
  | i + 1, h => by
    simp only [sts]
    rw [sts_left a x b hx base i (by omega), rt_left a x b hx i (by omega), show (one a x b).getD i 0 = (a ++ b).getD i 0 by unfold one; rw [getD_left (by omega), getD_left (by omega)]]
theorem one_length (a x b : List Int) : (one a x b).length = a.length + 2 + x.length + b.length := by simp [one]; omega
theorem one_rli (a x b : List Int) : (one a x b).getD a.length 0 = 21 := by
  simp [one]
theorem one_partner (a x b : List Int) (hx : shut x) : partner (one a x b) a.length = a.length + 1 + x.length := by
  unfold partner
  rw [show (one a x b).drop (a.length + 1) = x ++ 23 :: b by unfold one; rw [List.drop_append, List.drop_of_length_le (by omega)]; simp, par_shut x hx]
  simp only [par]
  rw [if_neg (by decide), if_pos trivial, if_pos (Nat.le_refl _)]
theorem sts_mid (a x b : List Int) (hx : shut x) (base : Int) : sts (one a x b) base (a.length + 2 + x.length) = sts (a ++ b) base a.length := by
  have hl := one_length a x b
  have hp := one_partner a x b hx
  have := sts_skip (one a x b) base a.length (by omega) (by rw [one_rli]; decide) (by omega)
  rw [hp, sts_left a x b hx base a.length (Nat.le_refl _)] at this
  rw [← this]
  congr 1
  omega
theorem rt_right (a b : List Int) (j : Nat) : rt (a ++ b) (a.length + j) = rt b j := by
  unfold rt
  rw [getD_right, partner_right, List.take_append, List.drop_append, show a.length + j + 1 = a.length + (j + 1) by omega, show a.length + partner b j - a.length = partner b j by omega, List.take_of_length_le (by omega), List.drop_of_length_le (by omega), show a.length + (j + 1) - a.length = j + 1 by omega, List.nil_append]
theorem one_eq (a x b : List Int) : one a x b = (a ++ 21 :: (x ++ [23])) ++ b := by simp [one]
theorem one_behind (a x b : List Int) (j : Nat) : (one a x b).getD (a.length + 2 + x.length + j) 0 = b.getD j 0 ∧ rt (one a x b) (a.length + 2 + x.length + j) = rt b j := by
  have hl : (a ++ 21 :: (x ++ [23])).length = a.length + 2 + x.length := by simp; omega
  rw [one_eq, ← hl]
  exact ⟨getD_right j, rt_right _ b j⟩
theorem sts_right (a x b : List Int) (hx : shut x) (base : Int) : ∀ j, sts (one a x b) base (a.length + 2 + x.length + j) = sts (a ++ b) base (a.length + j)
  | 0 => sts_mid a x b hx base
  | j + 1 => by
    rw [← Nat.add_assoc, ← Nat.add_assoc]
    simp only [sts]
    rw [sts_right a x b hx base j, (one_behind a x b j).1, (one_behind a x b j).2, getD_right, rt_right]
theorem one_pdi (a x b : List Int) : (one a x b).getD (a.length + 1 + x.length) 0 = 23 := by
  have := getD_right (a := a ++ 21 :: x) (b := 23 :: b) 0
  rw [show (a ++ 21 :: x).length + 0 = a.length + 1 + x.length by simp; omega] at this
  rw [← show (a ++ 21 :: x) ++ 23 :: b = one a x b by simp [one]]
  simpa using this
/-- The state that a place takes its level from does not hang on what lies in the isolate. -/
theorem met_left (a x b : List Int) (hx : shut x) (base : Int) (i : Nat) (hi : i < a.length) : met (one a x b) base i = met (a ++ b) base i := by
  unfold met
  rw [show (one a x b).getD i 0 = (a ++ b).getD i 0 by unfold one; rw [getD_left hi, getD_left hi], sts_left a x b hx base (i + 1) (by omega), sts_left a x b hx base i (by omega)]
theorem met_rli (a x b : List Int) (hx : shut x) (base : Int) : met (one a x b) base a.length = sts (a ++ b) base a.length := by
  unfold met
  rw [one_rli, if_neg (by decide), sts_left a x b hx base _ (Nat.le_refl _)]
theorem met_pdi (a x b : List Int) (hx : shut x) (base : Int) : met (one a x b) base (a.length + 1 + x.length) = sts (a ++ b) base a.length := by
  unfold met
  rw [one_pdi, if_pos rfl, show a.length + 1 + x.length + 1 = a.length + 2 + x.length by omega, sts_mid a x b hx base]
theorem met_right (a x b : List Int) (hx : shut x) (base : Int) (j : Nat) : met (one a x b) base (a.length + 2 + x.length + j) = met (a ++ b) base (a.length + j) := by
  unfold met
  rw [(one_behind a x b j).1, getD_right, sts_right a x b hx base j, Nat.add_assoc (a.length + 2 + x.length), sts_right a x b hx base (j + 1)]
  rfl
theorem hide_left (a x y b : List Int) (hx : shut x) (hy : shut y) (base : Int) (i : Nat) (hi : i ≤ a.length) : lv (one a x b) base i = lv (one a y b) base i ∧ ty (one a x b) base i = ty (one a y b) base i := by
  rcases Nat.lt_or_ge i a.length with h | h
  · have e : (one a x b).getD i 0 = (one a y b).getD i 0 := by unfold one; rw [getD_left h, getD_left h]
    unfold lv ty
    rw [e, met_left a x b hx base i h, met_left a y b hy base i h]
    exact ⟨rfl, rfl⟩
  · obtain rfl : i = a.length := by omega
    unfold lv ty
    rw [one_rli, one_rli, met_rli a x b hx, met_rli a y b hy]
    exact ⟨rfl, rfl⟩
theorem hide_right (a x y b : List Int) (hx : shut x) (hy : shut y) (base : Int) (j : Nat) : lv (one a x b) base (a.length + 1 + x.length + j) = lv (one a y b) base (a.length + 1 + y.length + j) ∧ ty (one a x b) base (a.length + 1 + x.length + j) = ty (one a y b) base (a.length + 1 + y.length + j) := by
  cases j with
  | zero =>
    unfold lv ty
    rw [show ∀ m : Nat, m + 0 = m from fun _ => rfl, show a.length + 1 + y.length + 0 = a.length + 1 + y.length from rfl, one_pdi, one_pdi, met_pdi a x b hx, met_pdi a y b hy]
    exact ⟨rfl, rfl⟩
  | succ j =>
    unfold lv ty
    rw [show a.length + 1 + x.length + (j + 1) = a.length + 2 + x.length + j by omega, show a.length + 1 + y.length + (j + 1) = a.length + 2 + y.length + j by omega, (one_behind a x b j).1, (one_behind a y b j).1, met_right a x b hx, met_right a y b hy]
    exact ⟨rfl, rfl⟩
theorem one_formed (a x b : List Int) (hx : ∀ z ∈ x, 1 ≤ z ∧ z ≤ 23 ∧ z ≠ 11) : formed (one a x b) ↔ (∀ z ∈ a, 1 ≤ z ∧ z ≤ 23 ∧ z ≠ 11) ∧ formed b := by
  have hl := one_length a x b
  constructor
  · intro h
    constructor
    · intro z hz
      obtain ⟨i, hi, rfl⟩ := List.getElem_of_mem hz
      have := h i (by omega)
      unfold okc at this
      rw [show (one a x b).getD i 0 = a[i] by unfold one; rw [getD_left hi]; simp [hi]] at this
      exact ⟨this.1, this.2.1, fun e => by have := this.2.2 e; omega⟩
    · intro j hj
      have := h (a.length + 2 + x.length + j) (by omega)
      unfold okc at this ⊢
      rw [(one_behind a x b j).1] at this
      exact ⟨this.1, this.2.1, fun e => by have := this.2.2 e; omega⟩
  · rintro ⟨ha, hb⟩ i hi
    have key : ∀ z ∈ a ++ 21 :: (x ++ [23]), 1 ≤ z ∧ z ≤ 23 ∧ z ≠ 11 := by
      intro z hz
      simp only [List.mem_append, List.mem_cons, List.not_mem_nil, or_false] at hz
      rcases hz with hz | rfl | hz | rfl
      · exact ha z hz
      · decide
      · exact hx z hz
      · decide
    have hl2 : (a ++ 21 :: (x ++ [23])).length = a.length + 2 + x.length := by simp; omega
    rcases Nat.lt_or_ge i (a.length + 2 + x.length) with h | h
    · unfold okc
      rw [one_eq, getD_left (by omega)]
      have := key _ (List.getElem_mem (by omega : i < (a ++ 21 :: (x ++ [23])).length))
      rw [List.getD_eq_getElem?_getD, List.getElem?_eq_getElem (by omega)]
      exact ⟨this.1, this.2.1, fun e => absurd e this.2.2⟩
    · obtain ⟨j, rfl⟩ : ∃ j, i = a.length + 2 + x.length + j := ⟨i - (a.length + 2 + x.length), by omega⟩
      have := hb j (by omega)
      unfold okc at this ⊢
      rw [(one_behind a x b j).1]
      exact ⟨this.1, this.2.1, fun e => by have := this.2.2 e; omega⟩
/-! ### plain paragraphs -/
theorem plain_sts (c : List Int) (base : Int) : ∀ i, (∀ k, k < i → emd (c.getD k 0) = false ∧ st (c.getD k 0) = false) → sts c base i = s0 base
  | 0, _ => rfl
  | i + 1, h => by
    simp only [sts]
    rw [plain_sts c base i (fun k hk => h k (by omega))]
    have := h i (by omega)
    simp only [step]
    rw [if_neg (by rw [this.1]; simp), if_neg (by rw [this.2]; simp)]
    split
    · rfl
    · split <;> rfl
/-! ### embeddings, one within another -/
theorem emd_sts (c : List Int) (base : Int) : ∀ i, (∀ k, k < i → emd (c.getD k 0) = true) → (sts c base i).isl = 0 ∧ (sts c base i).val = 0 ∧ (sts c base i).emb + (sts c base i).stk.length = i + 1
  | 0, _ => ⟨rfl, rfl, rfl⟩
  | i + 1, h => by
    obtain ⟨h1, h2, h3⟩ := emd_sts c base i (fun k hk => h k (by omega))
    simp only [sts, step]
    rw [if_pos (h i (by omega))]
    unfold embed
    split
    · exact ⟨h1, h2, by simp [push]; omega⟩
    · exact ⟨h1, h2, by show (sts c base i).emb + 1 + (sts c base i).stk.length = _; omega⟩
theorem pops_sts (c : List Int) {base : Int} (hb : base ≤ 125) (n : Nat) (h : ∀ k, k < n → emd (c.getD k 0) = true) (hn : c.getD n 0 = 1) (hp : ∀ k, k < n → c.getD (n + 1 + k) 0 = 19) : ∀ t, t ≤ n →
    (sts c base (n + 1 + t)).isl = 0 ∧ (sts c base (n + 1 + t)).val = 0 ∧ (sts c base (n + 1 + t)).emb + (sts c base (n + 1 + t)).stk.length = n + 1 - t
  | 0, _ => by
    have := emd_sts c base n h
    rw [Nat.add_zero]
    simp only [sts, step]
    rw [hn, if_neg (by decide), if_neg (by decide), if_neg (by decide), if_neg (by decide)]
    exact this
  | t + 1, ht => by
    obtain ⟨h1, h2, h3⟩ := pops_sts c hb n h hn hp t (by omega)
    have hI := sts_inv c hb (n + 1 + t)
    rw [← Nat.add_assoc]
    simp only [sts, step]
    rw [hp t (by omega), if_neg (by decide), if_neg (by decide), if_neg (by decide), if_pos rfl]
    generalize sts c base (n + 1 + t) = s at *
    have hne := hI.good.ne
    have hlen : 0 < s.stk.length := List.length_pos_iff.2 hne
    have hiso : (top s).iso = false := by
      have hv := hI.val
      rw [h2] at hv
      unfold top
      cases hs : s.stk with
      | nil => rfl
      | cons e t =>
        rw [hs] at hv
        cases he : e.iso with
        | false => simp [he]
        | true => simp [cnt, he] at hv
    unfold pop
    rw [if_neg (by omega)]
    by_cases h4 : 0 < s.emb
    · rw [if_pos h4]
      exact ⟨h1, h2, by show s.emb - 1 + s.stk.length = _; omega⟩
    · rw [if_neg h4, if_pos ⟨hiso, by omega⟩]
      exact ⟨h1, h2, by show s.emb + s.stk.tail.length = _; rw [List.length_tail]; omega⟩
theorem deep_end (c : List Int) {base : Int} (hb : base ≤ 125) (n : Nat) (h : ∀ k, k < n → emd (c.getD k 0) = true) (hn : c.getD n 0 = 1) (hp : ∀ k, k < n → c.getD (n + 1 + k) 0 = 19) (hr : c.getD (2 * n + 1) 0 = 2) : lv c base (2 * n + 1) = base := by
  obtain ⟨_, _, h3⟩ := pops_sts c hb n h hn hp n (Nat.le_refl _)
  have hI := sts_inv c hb (n + 1 + n)
  unfold lv met
  rw [hr, if_neg (by decide), if_neg (by decide), if_neg (by decide), show 2 * n + 1 = n + 1 + n by omega]
  have hne := hI.good.ne
  have hlen : 0 < (sts c base (n + 1 + n)).stk.length := List.length_pos_iff.2 hne
  have := (hI.good.bottom hb).2 (by omega)
  unfold top
  rw [this]
/-- Where no further level may be, embeddings change no stack. -/
theorem full_sts (c : List Int) (base : Int) (i : Nat) (h0 : can (sts c base i) (rgt (c.getD i 0)) = false) (hz : (sts c base i).isl = 0) : ∀ d, (∀ k, i ≤ k → k < i + d → emd (c.getD k 0) = true) → (sts c base (i + d)).stk = (sts c base i).stk ∧ (0 < d → 0 < (sts c base (i + d)).emb) ∧ (sts c base (i + d)).isl = 0
  | 0, _ => ⟨rfl, fun h => absurd h (by omega), hz⟩
  | d + 1, h => by
    obtain ⟨h1, h2, h3⟩ := full_sts c base i h0 hz d (fun k hk hk2 => h k hk (by omega))
    rw [← Nat.add_assoc]
    simp only [sts, step]
    rw [if_pos (h (i + d) (by omega) (by omega))]
    unfold embed
    have hc : can (sts c base (i + d)) (rgt (c.getD (i + d) 0)) = false := by
      rcases Nat.eq_zero_or_pos d with h4 | h4
      · subst h4; exact h0
      · have := h2 h4
        unfold can
        exact decide_eq_false (by omega)
    rw [if_neg (by rw [hc]; simp), if_pos h3]
    exact ⟨h1, fun _ => by show 0 < (sts c base (i + d)).emb + 1; omega, h3⟩
end Go.Proofs.Ythokljlalgclkaa.Exp
