/- Isolates in plain Lean: which places are open ahead of a place, where an initiator's end lies, and how many isolates a place lies in. No program, no memory. -/
namespace Go.Proofs.Yteldofimjklckaa.Iso

def st (x : Int) : Bool := x == 20 || x == 21 || x == 22
theorem st_ne {x : Int} (h : st x = true) : x ≠ 23 := by
  rintro rfl
  exact absurd h (by decide)
theorem st_iff (x : Int) : st x = true ↔ x = 20 ∨ x = 21 ∨ x = 22 := by
  simp [st, or_assoc]

/-- The open initiators ahead of place i, the last one first. -/
def R (c : List Int) : Nat → List Nat
  | 0 => []
  | i + 1 => if st (c.getD i 0) = true then i :: R c i else if c.getD i 0 = 23 then (R c i).tail else R c i

/-- Where n isolates end. -/
def par : Nat → List Int → Nat → Nat
  | _, [], off => off
  | n, x :: t, off => if st x = true then par (n + 1) t (off + 1) else if x = 23 then (if n ≤ 1 then off else par (n - 1) t (off + 1)) else par n t (off + 1)

def partner (c : List Int) (i : Nat) : Nat := par 1 (c.drop (i + 1)) (i + 1)

theorem par_ge : ∀ (l : List Int) (n off : Nat), off ≤ par n l off
  | [], n, off => by simp [par]
  | x :: t, n, off => by
    simp only [par]
    split
    · have := par_ge t (n + 1) (off + 1); omega
    · split
      · split
        · omega
        · have := par_ge t (n - 1) (off + 1); omega
      · have := par_ge t n (off + 1); omega
theorem par_le : ∀ (l : List Int) (n off : Nat), par n l off ≤ off + l.length
  | [], n, off => by simp [par]
  | x :: t, n, off => by
    simp only [par, List.length_cons]
    split
    · have := par_le t (n + 1) (off + 1); omega
    · split
      · split
        · omega
        · have := par_le t (n - 1) (off + 1); omega
      · have := par_le t n (off + 1); omega
theorem par_pdi : ∀ (l : List Int) (n off : Nat), par n l off < off + l.length → l.getD (par n l off - off) 0 = 23
  | [], n, off, h => by simp [par] at h
  | x :: t, n, off, h => by
    simp only [par, List.length_cons] at h ⊢
    split at h
    · rename_i h1
      have hg := par_ge t (n + 1) (off + 1)
      have ih := par_pdi t (n + 1) (off + 1) (by omega)
      rw [if_pos h1, show par (n + 1) t (off + 1) - off = (par (n + 1) t (off + 1) - (off + 1)) + 1 from by omega, List.getD_cons_succ]
      exact ih
    · rename_i h1
      rw [if_neg h1]
      split at h
      · rename_i h2
        rw [if_pos h2]
        split at h
        · rename_i h3
          rw [if_pos h3, Nat.sub_self, List.getD_cons_zero]
          exact h2
        · rename_i h3
          have hg := par_ge t (n - 1) (off + 1)
          have ih := par_pdi t (n - 1) (off + 1) (by omega)
          rw [if_neg h3, show par (n - 1) t (off + 1) - off = (par (n - 1) t (off + 1) - (off + 1)) + 1 from by omega, List.getD_cons_succ]
          exact ih
      · rename_i h2
        have hg := par_ge t n (off + 1)
        have ih := par_pdi t n (off + 1) (by omega)
        rw [if_neg h2, show par n t (off + 1) - off = (par n t (off + 1) - (off + 1)) + 1 from by omega, List.getD_cons_succ]
        exact ih

theorem drop_cons (c : List Int) (i : Nat) (h : i < c.length) : c.drop i = c.getD i 0 :: c.drop (i + 1) := by
  rw [List.drop_eq_getElem_cons h]
  simp [List.getD_eq_getElem?_getD, List.getElem?_eq_getElem h]

theorem partner_gt (c : List Int) (i : Nat) : i < partner c i := par_ge (c.drop (i + 1)) 1 (i + 1)
theorem partner_le (c : List Int) (i : Nat) (h : i < c.length) : partner c i ≤ c.length := by
  have := par_le (c.drop (i + 1)) 1 (i + 1)
  rw [List.length_drop] at this
  unfold partner
  omega
theorem partner_pdi (c : List Int) (i : Nat) (h : i < c.length) (hp : partner c i < c.length) : c.getD (partner c i) 0 = 23 := by
  have hg := partner_gt c i
  have := par_pdi (c.drop (i + 1)) 1 (i + 1) (by rw [List.length_drop]; unfold partner at hp; omega)
  unfold partner at hg hp ⊢
  simp only [List.getD_eq_getElem?_getD, List.getElem?_drop] at this ⊢
  rwa [show i + 1 + (par 1 (List.drop (i + 1) c) (i + 1) - (i + 1)) = par 1 (List.drop (i + 1) c) (i + 1) from by omega] at this

theorem R_par (c : List Int) : ∀ i, i ≤ c.length → ∀ p k, (R c i)[p]? = some k → partner c k = par (p + 1) (c.drop i) i
  | 0, _, p, k, h => by simp [R] at h
  | i + 1, hi, p, k, h => by
    have hd := drop_cons c i (by omega)
    have ih := R_par c i (by omega)
    simp only [R] at h
    by_cases h1 : st (c.getD i 0) = true
    · rw [if_pos h1] at h
      cases p with
      | zero =>
        simp only [List.getElem?_cons_zero, Option.some.injEq] at h
        subst h
        rfl
      | succ p =>
        rw [List.getElem?_cons_succ] at h
        rw [ih p k h, hd]
        simp only [par]
        rw [if_pos h1]
    · rw [if_neg h1] at h
      by_cases h2 : c.getD i 0 = 23
      · rw [if_pos h2, List.getElem?_tail] at h
        rw [ih (p + 1) k h, hd]
        simp only [par]
        rw [if_neg h1, if_pos h2, if_neg (by omega)]
        rfl
      · rw [if_neg h2] at h
        rw [ih p k h, hd]
        simp only [par]
        rw [if_neg h1, if_neg h2]

theorem R_lt (c : List Int) : ∀ i k, k ∈ R c i → k < i
  | 0, k, h => by simp [R] at h
  | i + 1, k, h => by
    have ih := R_lt c i
    simp only [R] at h
    split at h
    · rcases List.mem_cons.1 h with rfl | h
      · omega
      · have := ih k h; omega
    · split at h
      · have := ih k (List.mem_of_mem_tail h); omega
      · have := ih k h; omega
theorem R_st (c : List Int) : ∀ i k, k ∈ R c i → st (c.getD k 0) = true
  | 0, k, h => by simp [R] at h
  | i + 1, k, h => by
    have ih := R_st c i
    simp only [R] at h
    split at h
    · rename_i h1
      rcases List.mem_cons.1 h with rfl | h
      · exact h1
      · exact ih k h
    · split at h
      · exact ih k (List.mem_of_mem_tail h)
      · exact ih k h
theorem R_length (c : List Int) : ∀ i, (R c i).length ≤ i
  | 0 => by simp [R]
  | i + 1 => by
    have ih := R_length c i
    simp only [R]
    split
    · simp; omega
    · split
      · simp; omega
      · omega
theorem R_sorted (c : List Int) : ∀ i, (R c i).Pairwise (· > ·)
  | 0 => by simp [R]
  | i + 1 => by
    have ih := R_sorted c i
    simp only [R]
    split
    · exact List.Pairwise.cons (fun k hk => R_lt c i k hk) ih
    · split
      · exact ih.tail
      · exact ih

theorem R_top {c : List Int} {i k : Nat} {t : List Nat} (hi : i < c.length) (h : R c i = k :: t) (h2 : c.getD i 0 = 23) : partner c k = i := by
  have := R_par c i (by omega) 0 k (by rw [h]; rfl)
  rw [this, drop_cons c i hi]
  simp only [par]
  rw [if_neg (by rw [h2]; decide), if_pos h2, if_pos (by omega)]
theorem R_rest {c : List Int} {i k j : Nat} {t : List Nat} (hi : i < c.length) (h : R c i = k :: t) (h2 : c.getD i 0 = 23) (hj : j ∈ t) : i < partner c j := by
  obtain ⟨p, hp⟩ := List.mem_iff_getElem?.1 hj
  have := R_par c i (by omega) (p + 1) j (by rw [h, List.getElem?_cons_succ]; exact hp)
  rw [this, drop_cons c i hi]
  simp only [par]
  rw [if_neg (by rw [h2]; decide), if_pos h2, if_neg (by omega)]
  exact par_ge _ _ _
theorem R_ge {c : List Int} {i k : Nat} (hi : i ≤ c.length) (h : k ∈ R c i) : i ≤ partner c k := by
  obtain ⟨p, hp⟩ := List.mem_iff_getElem?.1 h
  rw [R_par c i hi p k hp]
  exact par_ge _ _ _
theorem R_gt {c : List Int} {i k : Nat} (hi : i < c.length) (h : k ∈ R c i) (h2 : c.getD i 0 ≠ 23) : i < partner c k := by
  obtain ⟨p, hp⟩ := List.mem_iff_getElem?.1 h
  rw [R_par c i (by omega) p k hp, drop_cons c i hi]
  simp only [par]
  split
  · exact par_ge _ _ _
  · exact par_ge _ _ _
theorem R_mem (c : List Int) : ∀ i, i ≤ c.length → ∀ k, k < i → st (c.getD k 0) = true → i ≤ partner c k → k ∈ R c i
  | 0, _, k, h, _, _ => by omega
  | i + 1, hi, k, hk, hs, hp => by
    have ih := R_mem c i (by omega) k
    simp only [R]
    by_cases e : k = i
    · subst e
      rw [if_pos hs]
      exact List.mem_cons_self
    · have hm := ih (by omega) hs (by omega)
      by_cases h1 : st (c.getD i 0) = true
      · rw [if_pos h1]
        exact List.mem_cons_of_mem _ hm
      · rw [if_neg h1]
        by_cases h2 : c.getD i 0 = 23
        · rw [if_pos h2]
          cases hR : R c i with
          | nil => rw [hR] at hm; simp at hm
          | cons a t =>
            rw [hR] at hm
            rcases List.mem_cons.1 hm with rfl | hm
            · have := R_top (by omega) hR h2
              omega
            · exact hm
        · rw [if_neg h2]
          exact hm
theorem R_iff {c : List Int} {i k : Nat} (hi : i ≤ c.length) : k ∈ R c i ↔ k < i ∧ st (c.getD k 0) = true ∧ i ≤ partner c k :=
  ⟨fun h => ⟨R_lt c i k h, R_st c i k h, R_ge hi h⟩, fun ⟨h1, h2, h3⟩ => R_mem c i hi k h1 h2 h3⟩

/-- Ahead of an initiator's end the initiator is open still, and what was open ahead of it lies beneath it. -/
theorem R_suffix (c : List Int) (k : Nat) (hs : st (c.getD k 0) = true) : ∀ j, k < j → j ≤ partner c k → j ≤ c.length → ∃ u, R c j = u ++ k :: R c k
  | 0, h, _, _ => by omega
  | j + 1, h, hp, hl => by
    by_cases e : k = j
    · subst e
      exact ⟨[], by simp only [R]; rw [if_pos hs]; rfl⟩
    · obtain ⟨u, hu⟩ := R_suffix c k hs j (by omega) (by omega) (by omega)
      simp only [R]
      by_cases h1 : st (c.getD j 0) = true
      · exact ⟨j :: u, by rw [if_pos h1, hu]; rfl⟩
      · rw [if_neg h1]
        by_cases h2 : c.getD j 0 = 23
        · rw [if_pos h2]
          cases u with
          | nil =>
            have := R_top (by omega) hu h2
            omega
          | cons a u => exact ⟨u, by rw [hu]; rfl⟩
        · exact ⟨u, by rw [if_neg h2, hu]⟩

/-- What a place belongs to. -/
def mate (l : List Nat) : Int := match l with
  | [] => -1
  | k :: _ => (k : Int)
def mtc (c : List Int) (i : Nat) : Int := if st (c.getD i 0) = true then (partner c i : Int) else if c.getD i 0 = 23 then mate (R c i) else (i : Int)
/-- In how many isolates it lies. -/
def dp (c : List Int) (i : Nat) : Int := if c.getD i 0 = 23 then (((R c i).length - 1 : Nat) : Int) else ((R c i).length : Int)
def mts (c : List Int) : List Int := (List.range c.length).map (mtc c)
def dps (c : List Int) : List Int := (List.range c.length).map (dp c)
theorem mts_length (c : List Int) : (mts c).length = c.length := by simp [mts]
theorem dps_length (c : List Int) : (dps c).length = c.length := by simp [dps]
theorem mts_get (c : List Int) (i : Nat) (h : i < c.length) : (mts c).getD i 0 = mtc c i := by simp [mts, List.getD_eq_getElem?_getD, h]
theorem dps_get (c : List Int) (i : Nat) (h : i < c.length) : (dps c).getD i 0 = dp c i := by simp [dps, List.getD_eq_getElem?_getD, h]
theorem ext_getD {l m : List Int} (hl : l.length = m.length) (h : ∀ j, j < l.length → l.getD j 0 = m.getD j 0) : l = m := by
  apply List.ext_getElem hl
  intro i h1 h2
  have := h i h1
  simpa [List.getD_eq_getElem?_getD, h1, h2] using this

/-- While places below i have been told: what is told of place j. -/
def cur (c : List Int) (i j : Nat) : Int := if st (c.getD j 0) = true then (if partner c j < i then (partner c j : Int) else (c.length : Int)) else mtc c j
theorem cur_end (c : List Int) (j : Nat) (h : j < c.length) : cur c c.length j = mtc c j := by
  unfold cur mtc
  split
  · have := partner_le c j h
    split
    · rfl
    · have : partner c j = c.length := by omega
      rw [this]
  · rfl

/-- Counting. -/
def cntP (p : Nat → Bool) : Nat → Nat
  | 0 => 0
  | j + 1 => if p j = true then cntP p j + 1 else cntP p j
theorem cntP_le (p : Nat → Bool) : ∀ j, cntP p j ≤ j
  | 0 => Nat.le_refl _
  | j + 1 => by
    have := cntP_le p j
    simp only [cntP]
    split <;> omega
theorem cntP_eq (p : Nat → Bool) : ∀ j (S : List Nat), S.Pairwise (· > ·) → (∀ k, k ∈ S ↔ k < j ∧ p k = true) → cntP p j = S.length
  | 0, S, _, h => by
    have : S = [] := List.eq_nil_iff_forall_not_mem.2 fun k hk => by have := (h k).1 hk; omega
    subst this
    rfl
  | j + 1, S, hs, h => by
    simp only [cntP]
    by_cases hp : p j = true
    · rw [if_pos hp]
      have hj : j ∈ S := (h j).2 ⟨by omega, hp⟩
      cases S with
      | nil => simp at hj
      | cons a t =>
        have ha := (h a).1 List.mem_cons_self
        have hat : ∀ x ∈ t, x < a := fun x hx => (List.pairwise_cons.1 hs).1 x hx
        have haj : a = j := by
          rcases List.mem_cons.1 hj with e | e
          · exact e.symm
          · have := hat j e; omega
        subst haj
        rw [cntP_eq p a t (List.pairwise_cons.1 hs).2 (fun k => ⟨fun hk => ⟨hat k hk, ((h k).1 (List.mem_cons_of_mem _ hk)).2⟩, fun hk => by
          rcases List.mem_cons.1 ((h k).2 ⟨by omega, hk.2⟩) with e | e
          · omega
          · exact e⟩)]
        rfl
    · rw [if_neg hp]
      refine cntP_eq p j S hs fun k => ⟨fun hk => ?_, fun hk => (h k).2 ⟨by omega, hk.2⟩⟩
      have := (h k).1 hk
      refine ⟨?_, this.2⟩
      rcases Nat.lt_or_ge k j with e | e
      · exact e
      · have : k = j := by omega
        subst this
        exact absurd this.2 hp
/-- The document's count is the depth. -/
theorem dp_cnt (c : List Int) (i : Nat) (hi : i < c.length) : dp c i = (cntP (fun k => st (c.getD k 0) && decide (i < partner c k)) i : Int) := by
  unfold dp
  by_cases h2 : c.getD i 0 = 23
  · rw [if_pos h2]
    cases hR : R c i with
    | nil =>
      rw [cntP_eq _ i [] List.Pairwise.nil (fun k => ⟨fun h => by simp at h, fun ⟨h, h'⟩ => by
        simp only [Bool.and_eq_true, decide_eq_true_eq] at h'
        have := R_mem c i (by omega) k h h'.1 (by omega)
        rw [hR] at this
        exact this⟩)]
      rfl
    | cons a t =>
      have hq : ∀ k, k ∈ t ↔ k < i ∧ (st (c.getD k 0) && decide (i < partner c k)) = true := by
        intro k
        refine ⟨fun h => ?_, fun ⟨h, h'⟩ => ?_⟩
        · have hm : k ∈ R c i := by rw [hR]; exact List.mem_cons_of_mem _ h
          exact ⟨R_lt c i k hm, by simp only [Bool.and_eq_true, decide_eq_true_eq]; exact ⟨R_st c i k hm, R_rest hi hR h2 h⟩⟩
        · simp only [Bool.and_eq_true, decide_eq_true_eq] at h'
          have := R_mem c i (by omega) k h h'.1 (by omega)
          rw [hR] at this
          rcases List.mem_cons.1 this with rfl | e
          · have := R_top hi hR h2
            omega
          · exact e
      rw [cntP_eq _ i t (by have := R_sorted c i; rw [hR] at this; exact this.tail) hq]
      simp
  · have hq : ∀ k, k ∈ R c i ↔ k < i ∧ (st (c.getD k 0) && decide (i < partner c k)) = true := by
      intro k
      refine ⟨fun h => ?_, fun ⟨h, h'⟩ => ?_⟩
      · exact ⟨R_lt c i k h, by simp only [Bool.and_eq_true, decide_eq_true_eq]; exact ⟨R_st c i k h, R_gt hi h h2⟩⟩
      · simp only [Bool.and_eq_true, decide_eq_true_eq] at h'
        exact R_mem c i (by omega) k h h'.1 (by omega)
    rw [if_neg h2, cntP_eq _ i (R c i) (R_sorted c i) hq]

/-- The last place below j that p has; -1: there is none. -/
def lastP (p : Nat → Bool) : Nat → Int
  | 0 => -1
  | j + 1 => if p j = true then (j : Int) else lastP p j
theorem lastP_none (p : Nat → Bool) : ∀ j, (∀ k, k < j → p k = false) → lastP p j = -1
  | 0, _ => rfl
  | j + 1, h => by
    simp only [lastP]
    rw [if_neg (by rw [h j (by omega)]; decide)]
    exact lastP_none p j fun k hk => h k (by omega)
theorem lastP_one (p : Nat → Bool) (k : Nat) (hp : p k = true) (h1 : ∀ m, p m = true → m = k) : ∀ j, k < j → lastP p j = (k : Int)
  | 0, h => by omega
  | j + 1, h => by
    simp only [lastP]
    by_cases e : p j = true
    · rw [if_pos e, h1 j e]
    · rw [if_neg e]
      refine lastP_one p k hp h1 j ?_
      rcases Nat.lt_or_ge k j with h' | h'
      · exact h'
      · have : k = j := by omega
        subst this
        exact absurd hp e
theorem mate_last (c : List Int) (i : Nat) (hi : i < c.length) (h2 : c.getD i 0 = 23) : lastP (fun k => st (c.getD k 0) && decide (partner c k = i)) i = mate (R c i) := by
  cases hR : R c i with
  | nil =>
    refine lastP_none _ i fun k hk => ?_
    rw [Bool.eq_false_iff]
    intro h
    simp only [Bool.and_eq_true, decide_eq_true_eq] at h
    have := R_mem c i (by omega) k hk h.1 (by omega)
    rw [hR] at this
    simp at this
  | cons a t =>
    have hm : a ∈ R c i := by rw [hR]; exact List.mem_cons_self
    refine lastP_one _ a ?_ ?_ i (R_lt c i a hm)
    · simp only [Bool.and_eq_true, decide_eq_true_eq]
      exact ⟨R_st c i a hm, R_top hi hR h2⟩
    · intro m h
      simp only [Bool.and_eq_true, decide_eq_true_eq] at h
      have hmi : m < i := by have := partner_gt c m; omega
      have := R_mem c i (by omega) m hmi h.1 (by omega)
      rw [hR] at this
      rcases List.mem_cons.1 this with e | e
      · exact e
      · have := R_rest hi hR h2 e
        omega

/-- The base direction: n isolates are open. -/
def bs : List Int → Nat → Int
  | [], _ => 0
  | x :: t, n => if st x = true then bs t (n + 1) else if x = 23 then bs t (n - 1) else if n = 0 ∧ x = 1 then 0 else if n = 0 ∧ (x = 2 ∨ x = 3) then 1 else bs t n
theorem bs_par : ∀ (l : List Int) (n off : Nat), 1 ≤ n → bs l n = bs (l.drop (par n l off - off)) 0
  | [], n, off, _ => by simp [bs]
  | x :: t, n, off, hn => by
    simp only [par]
    by_cases h1 : st x = true
    · have hg := par_ge t (n + 1) (off + 1)
      rw [if_pos h1, show par (n + 1) t (off + 1) - off = (par (n + 1) t (off + 1) - (off + 1)) + 1 from by omega, List.drop_succ_cons, ← bs_par t (n + 1) (off + 1) (by omega)]
      simp only [bs]
      rw [if_pos h1]
    · rw [if_neg h1]
      by_cases h2 : x = 23
      · rw [if_pos h2]
        by_cases h3 : n ≤ 1
        · rw [if_pos h3, Nat.sub_self, List.drop_zero]
          simp only [bs]
          rw [if_neg h1, if_pos h2, if_neg h1, if_pos h2, show n - 1 = 0 - 1 from by omega]
        · have hg := par_ge t (n - 1) (off + 1)
          rw [if_neg h3, show par (n - 1) t (off + 1) - off = (par (n - 1) t (off + 1) - (off + 1)) + 1 from by omega, List.drop_succ_cons, ← bs_par t (n - 1) (off + 1) (by omega)]
          simp only [bs]
          rw [if_neg h1, if_pos h2]
      · have hg := par_ge t n (off + 1)
        rw [if_neg h2, show par n t (off + 1) - off = (par n t (off + 1) - (off + 1)) + 1 from by omega, List.drop_succ_cons, ← bs_par t n (off + 1) hn]
        simp only [bs]
        rw [if_neg h1, if_neg h2, if_neg (by omega), if_neg (by omega)]
theorem bs_skip (c : List Int) (i : Nat) (hi : i < c.length) (hs : st (c.getD i 0) = true) : bs (c.drop i) 0 = bs (c.drop (partner c i)) 0 := by
  have hg := partner_gt c i
  rw [drop_cons c i hi]
  simp only [bs]
  rw [if_pos hs, bs_par (c.drop (i + 1)) (0 + 1) (i + 1) (by omega), List.drop_drop]
  unfold partner at hg ⊢
  rw [show i + 1 + (par (0 + 1) (List.drop (i + 1) c) (i + 1) - (i + 1)) = par 1 (List.drop (i + 1) c) (i + 1) from by simp only [Nat.zero_add]; omega]
theorem bs_range (l : List Int) : ∀ n, bs l n = 0 ∨ bs l n = 1 := by
  induction l with
  | nil => intro n; exact .inl rfl
  | cons x t ih =>
    intro n
    simp only [bs]
    split
    · exact ih _
    · split
      · exact ih _
      · split
        · exact .inl rfl
        · split
          · exact .inr rfl
          · exact ih _

/-- An initiator is the last one open at its end. -/
theorem R_at {c : List Int} {i : Nat} (hi : i < c.length) (hs : st (c.getD i 0) = true) (hp : partner c i < c.length) : R c (partner c i) = i :: R c i := by
  have h2 := partner_pdi c i hi hp
  obtain ⟨u, hu⟩ := R_suffix c i hs (partner c i) (partner_gt c i) (Nat.le_refl _) (by omega)
  cases u with
  | nil => exact hu
  | cons a u =>
    have := R_rest hp hu h2 (j := i) (by simp)
    omega
theorem dp_inside {c : List Int} {i j : Nat} (hs : st (c.getD i 0) = true) (hij : i < j) (hj : j < partner c i) (hl : j < c.length) : dp c i < dp c j := by
  obtain ⟨u, hu⟩ := R_suffix c i hs j hij (by omega) (by omega)
  unfold dp
  rw [if_neg (st_ne hs)]
  by_cases h2 : c.getD j 0 = 23
  · rw [if_pos h2]
    cases u with
    | nil =>
      have := R_top hl hu h2
      omega
    | cons a u =>
      rw [hu]
      simp
      omega
  · rw [if_neg h2, hu]
    simp
    omega

theorem bs_hide (c y : List Int) (hl : y.length = c.length)
    (hy : ∀ j, j < c.length → y.getD j 0 = c.getD j 0 ∨ 0 < dp c j ∧ ¬ st (c.getD j 0) = true ∧ c.getD j 0 ≠ 23 ∧ ¬ st (y.getD j 0) = true ∧ y.getD j 0 ≠ 23) :
    ∀ d i, i + d = c.length → bs (y.drop i) (R c i).length = bs (c.drop i) (R c i).length := by
  intro d
  induction d with
  | zero =>
    intro i hi
    rw [List.drop_eq_nil_of_le (by omega), List.drop_eq_nil_of_le (by omega)]
  | succ d ih =>
    intro i hi
    have ih := ih (i + 1) (by omega)
    have hstep : R c (i + 1) = if st (c.getD i 0) = true then i :: R c i else if c.getD i 0 = 23 then (R c i).tail else R c i := rfl
    rw [drop_cons c i (by omega), drop_cons y i (by omega)]
    simp only [bs]
    rcases hy i (by omega) with e | ⟨hd, h1, h2, h3, h4⟩
    · rw [e]
      by_cases h1 : st (c.getD i 0) = true
      · rw [if_pos h1, if_pos h1]
        rw [if_pos h1] at hstep
        rw [hstep, List.length_cons] at ih
        exact ih
      · rw [if_neg h1, if_neg h1]
        rw [if_neg h1] at hstep
        by_cases h2 : c.getD i 0 = 23
        · rw [if_pos h2, if_pos h2]
          rw [if_pos h2] at hstep
          rw [hstep, List.length_tail] at ih
          exact ih
        · rw [if_neg h2, if_neg h2]
          rw [if_neg h2] at hstep
          rw [hstep] at ih
          rw [ih]
    · unfold dp at hd
      rw [if_neg h2] at hd
      rw [if_neg h1, if_neg h2] at hstep
      rw [hstep] at ih
      rw [if_neg h1, if_neg h2, if_neg h3, if_neg h4, if_neg (by omega), if_neg (by omega), if_neg (by omega), if_neg (by omega)]
      exact ih

/-! ### One stretch behind another -/
theorem getD_left {a b : List Int} {i : Nat} (h : i < a.length) : (a ++ b).getD i 0 = a.getD i 0 := by
  simp [List.getD_eq_getElem?_getD, List.getElem?_append_left h]
theorem getD_right {a b : List Int} (j : Nat) : (a ++ b).getD (a.length + j) 0 = b.getD j 0 := by
  simp [List.getD_eq_getElem?_getD, List.getElem?_append_right]
theorem R_left (a b : List Int) : ∀ i, i ≤ a.length → R (a ++ b) i = R a i
  | 0, _ => rfl
  | i + 1, h => by
    simp only [R]
    rw [R_left a b i (by omega), getD_left (by omega)]
theorem par_left : ∀ (l m : List Int) (n off : Nat), par n l off < off + l.length → par n (l ++ m) off = par n l off
  | [], m, n, off, h => by simp [par] at h
  | x :: t, m, n, off, h => by
    simp only [par, List.length_cons, List.cons_append] at h ⊢
    by_cases h1 : st x = true
    · rw [if_pos h1] at h ⊢
      rw [if_pos h1]
      exact par_left t m (n + 1) (off + 1) (by omega)
    · rw [if_neg h1] at h ⊢
      rw [if_neg h1]
      by_cases h2 : x = 23
      · rw [if_pos h2] at h ⊢
        rw [if_pos h2]
        by_cases h3 : n ≤ 1
        · rw [if_pos h3, if_pos h3]
        · rw [if_neg h3] at h ⊢
          rw [if_neg h3]
          exact par_left t m (n - 1) (off + 1) (by omega)
      · rw [if_neg h2] at h ⊢
        rw [if_neg h2]
        exact par_left t m n (off + 1) (by omega)
theorem partner_left {a b : List Int} {i : Nat} (hi : i < a.length) (hp : partner a i < a.length) : partner (a ++ b) i = partner a i := by
  unfold partner at hp ⊢
  rw [List.drop_append_of_le_length (by omega)]
  exact par_left _ _ _ _ (by rw [List.length_drop]; omega)
theorem par_shift : ∀ (l : List Int) (n off d : Nat), par n l (off + d) = par n l off + d
  | [], n, off, d => rfl
  | x :: t, n, off, d => by
    have e : off + d + 1 = (off + 1) + d := by omega
    simp only [par, e, par_shift t]
    split
    · rfl
    · split
      · split <;> rfl
      · rfl
theorem partner_right (a b : List Int) (j : Nat) : partner (a ++ b) (a.length + j) = a.length + partner b j := by
  unfold partner
  rw [show a.length + j + 1 = a.length + (j + 1) from by omega, List.drop_append, Nat.add_comm a.length (j + 1), par_shift, Nat.add_comm a.length, List.drop_eq_nil_of_le (by omega), List.nil_append, show j + 1 + a.length - a.length = j + 1 from by omega]
theorem R_right (a b : List Int) (h0 : R a a.length = []) : ∀ j, R (a ++ b) (a.length + j) = (R b j).map (· + a.length)
  | 0 => by
    rw [Nat.add_zero, R_left a b a.length (Nat.le_refl _), h0]
    rfl
  | j + 1 => by
    rw [show a.length + (j + 1) = (a.length + j) + 1 from by omega]
    simp only [R]
    rw [R_right a b h0 j, getD_right]
    split
    · simp [Nat.add_comm]
    · split
      · rw [List.map_tail]
      · rfl
theorem R_end (a : List Int) (h : ∀ i, i < a.length → st (a.getD i 0) = true → partner a i ≠ a.length) : R a a.length = [] := by
  rw [List.eq_nil_iff_forall_not_mem]
  intro k hk
  have h1 := R_lt a _ k hk
  have h2 := R_ge (Nat.le_refl _) hk
  have h3 := partner_le a k h1
  exact h k h1 (R_st a _ k hk) (by omega)
theorem mt_left {a b : List Int} (h : ∀ i, i < a.length → st (a.getD i 0) = true → partner a i ≠ a.length) {i : Nat} (hi : i < a.length) : mtc (a ++ b) i = mtc a i := by
  unfold mtc
  rw [getD_left hi, R_left a b i (by omega)]
  by_cases h1 : st (a.getD i 0) = true
  · have := partner_le a i hi
    have := h i hi h1
    rw [if_pos h1, if_pos h1, partner_left hi (by omega)]
  · rw [if_neg h1, if_neg h1]
theorem mt_right {a b : List Int} (h0 : R a a.length = []) {j : Nat} (hj : b.getD j 0 = 23 → 0 ≤ mtc b j) : mtc (a ++ b) (a.length + j) = (a.length : Int) + mtc b j := by
  unfold mtc at hj ⊢
  rw [getD_right, R_right a b h0 j, partner_right]
  by_cases h1 : st (b.getD j 0) = true
  · rw [if_pos h1, if_pos h1]
    omega
  · rw [if_neg h1, if_neg h1]
    rw [if_neg h1] at hj
    by_cases h2 : b.getD j 0 = 23
    · rw [if_pos h2, if_pos h2]
      have hj := hj h2
      rw [if_pos h2] at hj
      cases hR : R b j with
      | nil => rw [hR] at hj; simp [mate] at hj
      | cons k t =>
        simp only [List.map_cons, mate]
        omega
    · rw [if_neg h2, if_neg h2]
      omega
/-- How many isolates are open behind a stretch. -/
def nf : List Int → Nat → Nat
  | [], n => n
  | x :: t, n => if st x = true then nf t (n + 1) else if x = 23 then nf t (n - 1) else nf t n
theorem nf_R (c : List Int) : ∀ d i, i + d = c.length → nf (c.drop i) (R c i).length = (R c c.length).length := by
  intro d
  induction d with
  | zero =>
    intro i hi
    rw [List.drop_eq_nil_of_le (by omega), show i = c.length by omega]
    rfl
  | succ d ih =>
    intro i hi
    have ih := ih (i + 1) (by omega)
    have hstep : R c (i + 1) = if st (c.getD i 0) = true then i :: R c i else if c.getD i 0 = 23 then (R c i).tail else R c i := rfl
    rw [drop_cons c i (by omega)]
    simp only [nf]
    by_cases h1 : st (c.getD i 0) = true
    · rw [if_pos h1] at hstep ⊢
      rw [hstep, List.length_cons] at ih
      exact ih
    · rw [if_neg h1] at hstep ⊢
      by_cases h2 : c.getD i 0 = 23
      · rw [if_pos h2] at hstep ⊢
        rw [hstep, List.length_tail] at ih
        exact ih
      · rw [if_neg h2] at hstep ⊢
        rw [hstep] at ih
        exact ih
theorem bs_append (b : List Int) : ∀ (l : List Int) (n : Nat), (bs l n = 1 → bs (l ++ b) n = 1) ∧ (bs (l ++ b) n = bs l n ∨ bs (l ++ b) n = bs b (nf l n))
  | [], n => ⟨fun h => by simp [bs] at h, .inr rfl⟩
  | x :: t, n => by
    simp only [bs, nf, List.cons_append]
    by_cases h1 : st x = true
    · simp only [if_pos h1]
      exact bs_append b t (n + 1)
    · simp only [if_neg h1]
      by_cases h2 : x = 23
      · simp only [if_pos h2]
        exact bs_append b t (n - 1)
      · simp only [if_neg h2]
        by_cases h3 : n = 0 ∧ x = 1
        · simp only [if_pos h3]
          exact ⟨fun h => h, .inl trivial⟩
        · simp only [if_neg h3]
          by_cases h4 : n = 0 ∧ (x = 2 ∨ x = 3)
          · simp only [if_pos h4]
            exact ⟨fun h => h, .inl trivial⟩
          · simp only [if_neg h4]
            exact bs_append b t n
theorem bs_join (a b : List Int) (h0 : R a a.length = []) : (bs a 0 = 1 → bs (a ++ b) 0 = 1) ∧ (bs (a ++ b) 0 = bs a 0 ∨ bs (a ++ b) 0 = bs b 0) := by
  have := bs_append b a 0
  have hn := nf_R a a.length 0 (by omega)
  rw [h0] at hn
  have hn' : nf a 0 = 0 := hn
  rwa [hn'] at this

/-! ### As many ends as there are initiators without one -/
theorem par_reps : ∀ (u p off : Nat), p < u → par (p + 1) (List.replicate u 23) off = off + p
  | 0, p, off, h => by omega
  | u + 1, p, off, h => by
    simp only [List.replicate_succ, par]
    rw [if_neg (by decide), if_pos trivial]
    by_cases e : p + 1 ≤ 1
    · rw [if_pos e]
      omega
    · obtain ⟨q, rfl⟩ : ∃ q, p = q + 1 := ⟨p - 1, by omega⟩
      rw [if_neg e, show q + 1 + 1 - 1 = q + 1 from rfl, par_reps u q (off + 1) (by omega)]
      omega
theorem R_reps (c : List Int) (u : Nat) : ∀ t, t ≤ u → R (c ++ List.replicate u 23) (c.length + t) = (R c c.length).drop t
  | 0, _ => by
    rw [Nat.add_zero, R_left c _ c.length (Nat.le_refl _)]
    rfl
  | t + 1, h => by
    rw [show c.length + (t + 1) = (c.length + t) + 1 from by omega]
    simp only [R]
    have e : (c ++ List.replicate u 23).getD (c.length + t) 0 = 23 := by
      rw [getD_right]
      simp [List.getD_eq_getElem?_getD, show t < u by omega]
    rw [e, if_neg (by decide), if_pos rfl, R_reps c u t (by omega), List.tail_drop]
theorem shut_open (c : List Int) {i : Nat} (hi : i < c.length) (hs : st (c.getD i 0) = true) (hp : partner c i = c.length) :
    c.length ≤ partner (c ++ List.replicate (R c c.length).length 23) i ∧ partner (c ++ List.replicate (R c c.length).length 23) i < c.length + (R c c.length).length := by
  have hm := R_mem c c.length (Nat.le_refl _) i hi hs (by omega)
  obtain ⟨p, hpk⟩ := List.mem_iff_getElem?.1 hm
  have hlt := (List.getElem?_eq_some_iff.1 hpk).1
  have := R_par (c ++ List.replicate (R c c.length).length 23) c.length (by simp) p i (by rw [R_left c _ _ (Nat.le_refl _)]; exact hpk)
  rw [this, List.drop_left, par_reps _ p _ hlt]
  omega
end Go.Proofs.Yteldofimjklckaa.Iso
/- Explicit levels in plain Lean: the stack on the way, what stays true of it, and that an isolate leaves it as it met it. No program, no memory. -/
namespace Go.Proofs.Yteldofimjklckaa.Exp
open Go.Proofs.Yteldofimjklckaa.Iso

structure E where
  lvl : Int
  frc : Int
  iso : Bool
structure S where
  stk : List E
  isl : Nat
  emb : Nat
  val : Nat

def nl (l : Int) (r : Bool) : Int := if decide ((l + 1) % 2 = 1) = r then l + 1 else l + 2
def top (s : S) : E := s.stk.headD ⟨0, 0, false⟩
def can (s : S) (r : Bool) : Bool := decide (nl (top s).lvl r ≤ 125 ∧ s.isl = 0 ∧ s.emb = 0)
def push (s : S) (r : Bool) (f : Int) (i : Bool) : S := ⟨⟨nl (top s).lvl r, f, i⟩ :: s.stk, s.isl, s.emb, s.val⟩
/-- Without the last isolate, and what lies above it. -/
def unto : List E → List E
  | [] => []
  | x :: t => if x.iso = true then t else unto t
def fin (s : S) : S := if 0 < s.isl then ⟨s.stk, s.isl - 1, s.emb, s.val⟩ else if 0 < s.val then ⟨unto s.stk, s.isl, 0, s.val - 1⟩ else s
def pop (s : S) : S := if 0 < s.isl then s else if 0 < s.emb then ⟨s.stk, s.isl, s.emb - 1, s.val⟩ else if (top s).iso = false ∧ 1 < s.stk.length then ⟨s.stk.tail, s.isl, s.emb, s.val⟩ else s
def emd (x : Int) : Bool := x == 17 || x == 15 || x == 18 || x == 16
def rem (x : Int) : Bool := x == 17 || x == 15 || x == 18 || x == 16 || x == 19 || x == 10
def frcOf (x : Int) : Int := if x = 18 then 2 else if x = 16 then 1 else 0
def rgt (x : Int) : Bool := x == 17 || x == 18
def embed (s : S) (x : Int) : S := if can s (rgt x) = true then push s (rgt x) (frcOf x) false else if s.isl = 0 then ⟨s.stk, s.isl, s.emb + 1, s.val⟩ else s
def begin_ (s : S) (r : Bool) : S := if can s r = true then ⟨⟨nl (top s).lvl r, 0, true⟩ :: s.stk, s.isl, s.emb, s.val + 1⟩ else ⟨s.stk, s.isl + 1, s.emb, s.val⟩
def step (s : S) (x : Int) (r : Bool) : S := if emd x = true then embed s x else if st x = true then begin_ s r else if x = 23 then fin s else if x = 19 then pop s else s
/-- Does an initiator go to odd levels? -/
def rt (c : List Int) (i : Nat) : Bool := if c.getD i 0 = 22 then decide (bs ((c.take (partner c i)).drop (i + 1)) 0 = 1) else decide (c.getD i 0 = 21)
def s0 (base : Int) : S := ⟨[⟨base, 0, false⟩], 0, 0, 0⟩
def sts (c : List Int) (base : Int) : Nat → S
  | 0 => s0 base
  | i + 1 => step (sts c base i) (c.getD i 0) (rt c i)
def met (c : List Int) (base : Int) (i : Nat) : S := if c.getD i 0 = 23 then sts c base (i + 1) else sts c base i
def lv (c : List Int) (base : Int) (i : Nat) : Int := if rem (c.getD i 0) = true then -1 else if c.getD i 0 = 11 then base else (top (met c base i)).lvl
def ty (c : List Int) (base : Int) (i : Nat) : Int := if rem (c.getD i 0) = true ∨ c.getD i 0 = 11 then c.getD i 0 else if (top (met c base i)).frc ≠ 0 then (top (met c base i)).frc else c.getD i 0
def lvs (c : List Int) (base : Int) : List Int := (List.range c.length).map (lv c base)
def tys (c : List Int) (base : Int) : List Int := (List.range c.length).map (ty c base)
def okc (c : List Int) (i : Nat) : Prop := 1 ≤ c.getD i 0 ∧ c.getD i 0 ≤ 23 ∧ (c.getD i 0 = 11 → i + 1 = c.length)
/-- May classes be a paragraph's? -/
def formed (c : List Int) : Prop := ∀ i, i < c.length → okc c i
theorem lvs_length (c : List Int) (base : Int) : (lvs c base).length = c.length := by simp [lvs]
theorem tys_length (c : List Int) (base : Int) : (tys c base).length = c.length := by simp [tys]
theorem lvs_get (c : List Int) (base : Int) (i : Nat) (h : i < c.length) : (lvs c base).getD i 0 = lv c base i := by simp [lvs, List.getD_eq_getElem?_getD, h]
theorem tys_get (c : List Int) (base : Int) (i : Nat) (h : i < c.length) : (tys c base).getD i 0 = ty c base i := by simp [tys, List.getD_eq_getElem?_getD, h]

theorem nl_gt (l : Int) (r : Bool) : l < nl l r ∧ nl l r ≤ l + 2 := by unfold nl; split <;> omega
/-! ### what stays true -/
def cnt (l : List E) : Nat := (l.filter (·.iso)).length
/-- A stack over the base. -/
def Good (base : Int) : List E → Prop
  | [] => False
  | e :: t => (e = ⟨base, 0, false⟩ ∧ t = []) ∨ ((t.headD ⟨0, 0, false⟩).lvl < e.lvl ∧ e.lvl ≤ 125 ∧ (e.frc = 0 ∨ e.frc = 1 ∨ e.frc = 2) ∧ (e.iso = true → e.frc = 0) ∧ Good base t)
structure Inv (base : Int) (s : S) : Prop where
  good : Good base s.stk
  val : s.val = cnt s.stk
theorem Good.ne {base : Int} {l : List E} (h : Good base l) : l ≠ [] := by cases l with | nil => exact h.elim | cons => simp
theorem Good.hd {base : Int} : ∀ {l : List E}, Good base l → base ≤ 125 → base ≤ (l.headD ⟨0, 0, false⟩).lvl ∧ (l.headD ⟨0, 0, false⟩).lvl ≤ 125 ∧ ((l.headD ⟨0, 0, false⟩).frc = 0 ∨ (l.headD ⟨0, 0, false⟩).frc = 1 ∨ (l.headD ⟨0, 0, false⟩).frc = 2)
  | [], h, _ => h.elim
  | e :: t, h, hb => by
    rcases h with ⟨rfl, rfl⟩ | ⟨h1, h2, h3, _, h4⟩
    · simp; exact hb
    · have := Good.hd h4 hb
      exact ⟨by simp only [List.headD_cons]; omega, h2, h3⟩
theorem Good.up {base : Int} {e : E} : ∀ {u t : List E}, Good base (u ++ e :: t) → t ≠ [] → (t.headD ⟨0, 0, false⟩).lvl < ((u ++ e :: t).headD ⟨0, 0, false⟩).lvl
  | [], t, h, hne => by
    rcases h with ⟨_, rfl⟩ | ⟨h1, _⟩
    · exact absurd rfl hne
    · exact h1
  | x :: u, t, h, hne => by
    rcases h with ⟨_, h⟩ | ⟨h1, _, _, _, h⟩
    · simp at h
    · have := Good.up (u := u) h hne
      change ((u ++ e :: t).headD ⟨0, 0, false⟩).lvl < x.lvl at h1
      simp only [List.cons_append, List.headD_cons] at h1 ⊢
      omega
theorem Good.unto {base : Int} : ∀ {l : List E}, Good base l → 0 < cnt l → Good base (unto l) ∧ cnt (unto l) = cnt l - 1
  | [], h, _ => h.elim
  | e :: t, h, hc => by
    rcases h with ⟨rfl, rfl⟩ | ⟨_, _, _, _, h⟩
    · simp [cnt] at hc
    · by_cases hi : e.iso = true
      · simp only [Exp.unto]
        rw [if_pos hi]
        exact ⟨h, by simp [cnt, hi]⟩
      · have e1 : cnt (e :: t) = cnt t := by simp [cnt, hi]
        simp only [Exp.unto]
        rw [if_neg hi, e1]
        exact Good.unto h (by omega)
theorem Good.tail {base : Int} {l : List E} (h : Good base l) (hl : 1 < l.length) : Good base l.tail := by
  cases l with
  | nil => exact h.elim
  | cons e t =>
    rcases h with ⟨_, rfl⟩ | ⟨_, _, _, _, h⟩
    · simp at hl
    · exact h
/-- The bottom is the one entry like it. -/
theorem Good.bottom {base : Int} {l : List E} (h : Good base l) (hb : base ≤ 125) : (l.headD ⟨0, 0, false⟩ = ⟨base, 0, false⟩) ↔ l.length = 1 := by
  cases l with
  | nil => exact h.elim
  | cons e t =>
    rcases h with ⟨rfl, rfl⟩ | ⟨h1, _, _, _, h⟩
    · simp
    · have h2 := h.hd hb
      constructor
      · intro he
        simp only [List.headD_cons] at he
        rw [he] at h1
        simp only at h1
        omega
      · intro hl
        simp at hl
        subst hl
        exact h.elim
theorem Inv.push {base : Int} {s : S} (h : Inv base s) (hb : base ≤ 125) (r : Bool) (f : Int) (hf : f = 0 ∨ f = 1 ∨ f = 2) (hc : can s r = true) : Good base (push s r f false).stk ∧ cnt (push s r f false).stk = cnt s.stk := by
  have h1 := h.good.hd hb
  have h2 := nl_gt (top s).lvl r
  have h3 := of_decide_eq_true hc
  refine ⟨.inr ⟨?_, h3.1, hf, by simp, h.good⟩, by simp [Exp.push, cnt]⟩
  exact h2.1
theorem Inv.step {base : Int} {s : S} (h : Inv base s) (hb : base ≤ 125) (x : Int) (r : Bool) : Inv base (step s x r) := by
  unfold Exp.step
  split
  · unfold embed
    split
    · rename_i hc
      have hp := h.push hb (rgt x) (frcOf x) (by unfold frcOf; (repeat' split) <;> simp) hc
      exact ⟨hp.1, by rw [hp.2]; exact h.val⟩
    · split
      · exact ⟨h.good, h.val⟩
      · exact h
  · split
    · unfold begin_
      split
      · rename_i hc
        have h1 := h.good.hd hb
        have h2 := nl_gt (top s).lvl r
        have h3 := of_decide_eq_true hc
        exact ⟨.inr ⟨h2.1, h3.1, .inl rfl, fun _ => rfl, h.good⟩, by simp [cnt]; exact h.val⟩
      · exact ⟨h.good, h.val⟩
    · split
      · unfold fin
        split
        · exact ⟨h.good, h.val⟩
        · split
          · rename_i hv
            have hu := h.good.unto (by rw [← h.val]; exact hv)
            exact ⟨hu.1, by rw [hu.2, h.val]⟩
          · exact h
      · split
        · unfold pop
          split
          · exact h
          · split
            · exact ⟨h.good, h.val⟩
            · split
              · rename_i hp
                refine ⟨h.good.tail hp.2, ?_⟩
                have hv := h.val
                have hi := hp.1
                unfold top at hi
                show s.val = cnt s.stk.tail
                rw [hv]
                cases hs : s.stk with
                | nil => rfl
                | cons e t =>
                  rw [hs] at hi
                  simp at hi
                  simp [cnt, hi]
              · exact h
        · exact h
theorem inv0 (base : Int) : Inv base (s0 base) := ⟨.inl ⟨rfl, rfl⟩, rfl⟩
theorem sts_inv (c : List Int) {base : Int} (hb : base ≤ 125) : ∀ i, Inv base (sts c base i)
  | 0 => inv0 base
  | i + 1 => (sts_inv c hb i).step hb _ _
theorem met_inv (c : List Int) {base : Int} (hb : base ≤ 125) (i : Nat) : Inv base (met c base i) := by
  unfold met; split <;> exact sts_inv c hb _
theorem emd_st {x : Int} (h : emd x = true) : st x = false := by
  simp [emd] at h
  rcases h with ((rfl | rfl) | rfl) | rfl <;> rfl
theorem st_emd {x : Int} (h : st x = true) : emd x = false := by
  rcases (st_iff x).1 h with rfl | rfl | rfl <;> rfl
/-! ### counts -/
theorem sts_small (c : List Int) (base : Int) : ∀ i, (sts c base i).isl ≤ i ∧ (sts c base i).emb ≤ i ∧ (sts c base i).val ≤ i ∧ (sts c base i).stk.length ≤ i + 1
  | 0 => by simp [sts, s0]
  | i + 1 => by
    have ih := sts_small c base i
    have hu : ∀ l : List E, (unto l).length ≤ l.length := by
      intro l
      induction l with
      | nil => simp [unto]
      | cons e t iht => simp only [unto]; split <;> simp <;> omega
    have hu1 := hu (sts c base i).stk
    simp only [sts, step, embed, begin_, fin, pop, push]
    repeat' split
    all_goals ((try simp only [List.length_cons, List.length_tail]); omega)
/-! ### an isolate leaves the stack as it met it -/
theorem cnt_append (a b : List E) : cnt (a ++ b) = cnt a + cnt b := by simp [cnt]
theorem unto_none : ∀ (u : List E) (e : E) (t : List E), cnt u = 0 → e.iso = true → unto (u ++ e :: t) = t
  | [], e, t, _, he => by simp [unto, he]
  | x :: u, e, t, hc, he => by
    have hx : x.iso = false := by
      cases hx : x.iso with
      | false => rfl
      | true => simp [cnt, hx] at hc
    have : cnt (x :: u) = cnt u := by simp [cnt, hx]
    rw [List.cons_append]
    simp only [unto]
    rw [if_neg (by simp [hx])]
    exact unto_none u e t (by omega) he
theorem unto_some : ∀ (u t : List E), 0 < cnt u → ∃ v, unto (u ++ t) = v ++ t ∧ cnt v = cnt u - 1
  | [], t, h => by simp [cnt] at h
  | x :: u, t, h => by
    rw [List.cons_append]
    simp only [unto]
    by_cases hx : x.iso = true
    · rw [if_pos hx]
      exact ⟨u, rfl, by simp [cnt, hx]⟩
    · rw [if_neg hx]
      have e1 : cnt (x :: u) = cnt u := by simp [cnt, hx]
      rw [e1] at h ⊢
      exact unto_some u t h
/-- How many isolates are open between an initiator and a place behind it. -/
def dep (c : List Int) (i j : Nat) : Nat := (R c j).length - (R c i).length - 1
theorem R_in {c : List Int} {i j : Nat} (hs : st (c.getD i 0) = true) (h1 : i < j) (h2 : j ≤ partner c i) (h3 : j ≤ c.length) : (R c j).length = dep c i j + 1 + (R c i).length := by
  obtain ⟨u, hu⟩ := R_suffix c i hs j h1 h2 h3
  unfold dep
  rw [hu]
  simp
  omega
theorem R_step (c : List Int) (j : Nat) : R c (j + 1) = if st (c.getD j 0) = true then j :: R c j else if c.getD j 0 = 23 then (R c j).tail else R c j := rfl
theorem inside_yes (c : List Int) (base : Int) (i : Nat) (hi : i < c.length) (hs : st (c.getD i 0) = true) (hc : can (sts c base i) (rt c i) = true) : ∀ j, i < j → j ≤ partner c i → j ≤ c.length →
    ∃ u e, e.iso = true ∧ (sts c base j).stk = u ++ e :: (sts c base i).stk ∧ (sts c base j).isl + cnt u = dep c i j ∧ (sts c base j).val = (sts c base i).val + 1 + cnt u
  | 0, h, _, _ => by omega
  | j + 1, h1, h2, h3 => by
    have hz := of_decide_eq_true hc
    have hD := R_in hs h1 h2 h3
    rcases Nat.lt_or_ge i j with hij | hij
    · obtain ⟨u, e, he, hk, hd, hv⟩ := inside_yes c base i hi hs hc j hij (by omega) (by omega)
      have hD0 := R_in hs hij (by omega) (by omega)
      rw [R_step] at hD
      simp only [sts]
      generalize hS : sts c base j = s at hk hd hv ⊢
      generalize hx : c.getD j 0 = x at hD ⊢
      by_cases h5 : st x = true
      · rw [if_pos h5, List.length_cons] at hD
        simp only [step]
        rw [if_neg (by rw [st_emd h5]; simp), if_pos h5]
        unfold begin_
        split
        · refine ⟨⟨nl (top s).lvl (rt c j), 0, true⟩ :: u, e, he, by rw [hk]; rfl, ?_, ?_⟩
          · simp [cnt] at hd ⊢; omega
          · simp [cnt] at hv ⊢; omega
        · exact ⟨u, e, he, hk, by show s.isl + 1 + cnt u = _; omega, hv⟩
      · rw [if_neg h5] at hD
        by_cases h6 : x = 23
        · rw [if_pos h6, List.length_tail] at hD
          have hpos : 0 < dep c i j := by
            rcases Nat.eq_zero_or_pos (dep c i j) with h0 | h0
            · omega
            · exact h0
          simp only [step]
          rw [if_neg (by rw [h6]; decide), if_neg h5, if_pos h6]
          unfold fin
          split
          · exact ⟨u, e, he, hk, by show s.isl - 1 + cnt u = _; omega, hv⟩
          · rename_i h7
            rw [if_pos (by omega)]
            obtain ⟨v, hu, hvc⟩ := unto_some u (e :: (sts c base i).stk) (by omega)
            exact ⟨v, e, he, by rw [hk]; exact hu, by show s.isl + cnt v = _; omega, by show s.val - 1 = _; omega⟩
        · rw [if_neg h6] at hD
          have hde : dep c i (j + 1) = dep c i j := by omega
          rw [hde]
          simp only [step]
          by_cases h8 : emd x = true
          · rw [if_pos h8]
            unfold embed
            split
            · refine ⟨⟨nl (top s).lvl (rgt x), frcOf x, false⟩ :: u, e, he, by show _ :: s.stk = _; rw [hk]; rfl, ?_, ?_⟩
              · show s.isl + _ = _; simp [cnt] at hd ⊢; omega
              · show s.val = _; simp [cnt] at hv ⊢; omega
            · split
              · exact ⟨u, e, he, hk, hd, hv⟩
              · exact ⟨u, e, he, hk, hd, hv⟩
          · rw [if_neg h8, if_neg h5, if_neg h6]
            split
            · unfold pop
              split
              · exact ⟨u, e, he, hk, hd, hv⟩
              · split
                · exact ⟨u, e, he, hk, hd, hv⟩
                · split
                  · rename_i hp
                    cases u with
                    | nil =>
                      unfold top at hp
                      rw [hk] at hp
                      simp [he] at hp
                    | cons y u =>
                      have hy : y.iso = false := by
                        have := hp.1
                        unfold top at this
                        rw [hk] at this
                        simpa using this
                      refine ⟨u, e, he, by show s.stk.tail = _; rw [hk]; rfl, ?_, ?_⟩
                      · show s.isl + _ = _; simp [cnt, hy] at hd ⊢; omega
                      · show s.val = _; simp [cnt, hy] at hv ⊢; omega
                  · exact ⟨u, e, he, hk, hd, hv⟩
            · exact ⟨u, e, he, hk, hd, hv⟩
    · obtain rfl : j = i := by omega
      rw [R_step, if_pos hs, List.length_cons] at hD
      simp only [sts, step]
      rw [if_neg (by rw [st_emd hs]; simp), if_pos hs]
      unfold begin_
      rw [if_pos hc]
      exact ⟨[], ⟨_, 0, true⟩, rfl, rfl, by show (sts c base j).isl + 0 = _; omega, by simp [cnt]⟩
theorem inside_no (c : List Int) (base : Int) (i : Nat) (hi : i < c.length) (hs : st (c.getD i 0) = true) (hc : ¬ can (sts c base i) (rt c i) = true) : ∀ j, i < j → j ≤ partner c i → j ≤ c.length →
    sts c base j = ⟨(sts c base i).stk, (sts c base i).isl + 1 + dep c i j, (sts c base i).emb, (sts c base i).val⟩
  | 0, h, _, _ => by omega
  | j + 1, h1, h2, h3 => by
    have hD := R_in hs h1 h2 h3
    rcases Nat.lt_or_ge i j with hij | hij
    · have ih := inside_no c base i hi hs hc j hij (by omega) (by omega)
      have hD0 := R_in hs hij (by omega) (by omega)
      rw [R_step] at hD
      simp only [sts]
      rw [ih]
      generalize sts c base i = s at *
      generalize hx : c.getD j 0 = x at hD ⊢
      have hcan : ∀ r, can ⟨s.stk, s.isl + 1 + dep c i j, s.emb, s.val⟩ r = false := fun r => by simp [can]
      by_cases h5 : st x = true
      · rw [if_pos h5, List.length_cons] at hD
        simp only [step]
        rw [if_neg (by rw [st_emd h5]; simp), if_pos h5]
        unfold begin_
        rw [if_neg (by rw [hcan]; simp)]
        congr 1
        show s.isl + 1 + dep c i j + 1 = _
        omega
      · rw [if_neg h5] at hD
        by_cases h6 : x = 23
        · rw [if_pos h6, List.length_tail] at hD
          have hpos : 0 < dep c i j := by
            rcases Nat.eq_zero_or_pos (dep c i j) with h0 | h0
            · omega
            · exact h0
          simp only [step]
          rw [if_neg (by rw [h6]; decide), if_neg h5, if_pos h6]
          unfold fin
          rw [if_pos (by show 0 < s.isl + 1 + dep c i j; omega)]
          congr 1
          show s.isl + 1 + dep c i j - 1 = _
          omega
        · rw [if_neg h6] at hD
          have hde : dep c i (j + 1) = dep c i j := by omega
          rw [hde]
          simp only [step]
          by_cases h8 : emd x = true
          · rw [if_pos h8]
            unfold embed
            rw [if_neg (by rw [hcan]; simp), if_neg (by show ¬ s.isl + 1 + dep c i j = 0; omega)]
          · rw [if_neg h8, if_neg h5, if_neg h6]
            split
            · unfold pop
              rw [if_pos (by show 0 < s.isl + 1 + dep c i j; omega)]
            · rfl
    · obtain rfl : j = i := by omega
      rw [R_step, if_pos hs, List.length_cons] at hD
      simp only [sts, step]
      rw [if_neg (by rw [st_emd hs]; simp), if_pos hs]
      unfold begin_
      rw [if_neg hc]
      congr 1
      omega
theorem sts_skip (c : List Int) (base : Int) (i : Nat) (hi : i < c.length) (hs : st (c.getD i 0) = true) (hp : partner c i < c.length) : sts c base (partner c i + 1) = sts c base i := by
  have hg := partner_gt c i
  have h23 := partner_pdi c i hi hp
  have hD := R_in hs hg (Nat.le_refl _) (by omega)
  rw [R_at hi hs hp, List.length_cons] at hD
  have hd : dep c i (partner c i) = 0 := by omega
  simp only [sts, step]
  rw [h23, if_neg (by decide), if_neg (by decide), if_pos rfl]
  by_cases hc : can (sts c base i) (rt c i) = true
  · have hz := of_decide_eq_true hc
    obtain ⟨u, e, he, hk, hl, hv⟩ := inside_yes c base i hi hs hc _ hg (Nat.le_refl _) (by omega)
    unfold fin
    rw [if_neg (by omega), if_pos (by omega), hk, unto_none u e _ (by omega) he, show (sts c base (partner c i)).isl = (sts c base i).isl by omega, show (sts c base (partner c i)).val - 1 = (sts c base i).val by omega]
    rw [show (0 : Nat) = (sts c base i).emb from hz.2.2.symm]
  · rw [inside_no c base i hi hs hc _ hg (Nat.le_refl _) (by omega), hd]
    unfold fin
    rw [if_pos (by show 0 < (sts c base i).isl + 1 + 0; omega)]
    show (⟨(sts c base i).stk, (sts c base i).isl + 1 + 0 - 1, (sts c base i).emb, (sts c base i).val⟩ : S) = _
    rw [show (sts c base i).isl + 1 + 0 - 1 = (sts c base i).isl by omega]
end Go.Proofs.Yteldofimjklckaa.Exp
/- Explicit levels in plain Lean: what lies in an isolate hides; embeddings alone; a plain paragraph. -/
namespace Go.Proofs.Yteldofimjklckaa.Exp
open Go.Proofs.Yteldofimjklckaa.Iso

/-! ### what lies in an isolate -/
def shut (x : List Int) : Prop := ∀ y ∈ x, st y = false ∧ y ≠ 23
def one (a x b : List Int) : List Int := a ++ 21 :: (x ++ 23 :: b)
theorem bs_shut : ∀ (x : List Int), shut x → ∀ (z : List Int) (n : Nat), 1 ≤ n → bs (x ++ z) n = bs z n
  | [], _, z, n, _ => rfl
  | y :: x, h, z, n, hn => by
    have hy := h y (by simp)
    rw [List.cons_append]
    simp only [bs]
    rw [if_neg (by rw [hy.1]; simp), if_neg hy.2, if_neg (by omega), if_neg (by omega)]
    exact bs_shut x (fun q hq => h q (by simp [hq])) z n hn
theorem bs_wrap (x b : List Int) (hx : shut x) : ∀ (l : List Int) (n : Nat), bs (l ++ 21 :: (x ++ 23 :: b)) n = bs (l ++ b) n
  | [], n => by
    rw [List.nil_append, List.nil_append]
    simp only [bs]
    rw [if_pos (by decide), bs_shut x hx _ _ (by omega)]
    simp only [bs]
    rw [if_neg (by decide), if_pos trivial, Nat.add_sub_cancel]
  | y :: l, n => by
    rw [List.cons_append, List.cons_append]
    simp only [bs]
    rw [bs_wrap x b hx l (n + 1), bs_wrap x b hx l (n - 1), bs_wrap x b hx l n]
theorem par_shut : ∀ (x : List Int), shut x → ∀ (z : List Int) (n off : Nat), par n (x ++ z) off = par n z (off + x.length)
  | [], _, z, n, off => rfl
  | y :: x, h, z, n, off => by
    have hy := h y (by simp)
    rw [List.cons_append]
    simp only [par]
    rw [if_neg (by rw [hy.1]; simp), if_neg hy.2, par_shut x (fun q hq => h q (by simp [hq])) z n (off + 1), List.length_cons]
    congr 1
    omega
def past (p m k : Nat) : Nat := if p < m then p else p + k
theorem par_wrap (x b : List Int) (hx : shut x) : ∀ (l : List Int) (n off : Nat), 1 ≤ n → par n (l ++ 21 :: (x ++ 23 :: b)) off = past (par n (l ++ b) off) (off + l.length) (x.length + 2)
  | [], n, off, hn => by
    rw [List.nil_append, List.nil_append]
    have hg := par_ge b n off
    unfold past
    rw [if_neg (by simp; omega)]
    simp only [par]
    rw [if_pos (by decide), par_shut x hx]
    simp only [par]
    rw [if_neg (by decide), if_pos trivial, if_neg (by omega), Nat.add_sub_cancel, show off + 1 + x.length + 1 = off + (x.length + 2) by omega, par_shift]
  | y :: l, n, off, hn => by
    rw [List.cons_append, List.cons_append, List.length_cons]
    simp only [par]
    rw [show off + (l.length + 1) = off + 1 + l.length by omega]
    by_cases h1 : st y = true
    · rw [if_pos h1, if_pos h1]
      exact par_wrap x b hx l (n + 1) (off + 1) (by omega)
    · rw [if_neg h1, if_neg h1]
      by_cases h2 : y = 23
      · rw [if_pos h2, if_pos h2]
        by_cases h3 : n ≤ 1
        · unfold past
          rw [if_pos h3, if_pos h3, if_pos (by omega)]
        · rw [if_neg h3, if_neg h3]
          exact par_wrap x b hx l (n - 1) (off + 1) (by omega)
      · rw [if_neg h2, if_neg h2]
        exact par_wrap x b hx l n (off + 1) hn
theorem rt_left (a x b : List Int) (hx : shut x) (i : Nat) (hi : i < a.length) : rt (one a x b) i = rt (a ++ b) i := by
  unfold rt
  have e0 : (one a x b).getD i 0 = (a ++ b).getD i 0 := by unfold one; rw [getD_left hi, getD_left hi]
  rw [e0]
  have e1 : (one a x b).drop (i + 1) = a.drop (i + 1) ++ 21 :: (x ++ 23 :: b) := by unfold one; rw [List.drop_append_of_le_length (by omega)]
  have e2 : (a ++ b).drop (i + 1) = a.drop (i + 1) ++ b := by rw [List.drop_append_of_le_length (by omega)]
  have hp := par_wrap x b hx (a.drop (i + 1)) 1 (i + 1) (Nat.le_refl _)
  rw [← e1, ← e2, List.length_drop] at hp
  have hp' : partner (one a x b) i = past (partner (a ++ b) i) (i + 1 + (a.length - (i + 1))) (x.length + 2) := hp
  unfold past at hp'
  rw [show i + 1 + (a.length - (i + 1)) = a.length by omega] at hp'
  generalize partner (a ++ b) i = q at hp' ⊢
  by_cases hq : q < a.length
  · rw [if_pos hq] at hp'
    rw [hp', show (one a x b).take q = (a ++ b).take q by unfold one; rw [List.take_append_of_le_length (by omega), List.take_append_of_le_length (by omega)]]
  · rw [if_neg hq] at hp'
    have e3 : (one a x b).take (q + (x.length + 2)) = a ++ 21 :: (x ++ 23 :: b.take (q - a.length)) := by
      unfold one
      rw [List.take_append, List.take_of_length_le (by omega), show q + (x.length + 2) - a.length = (q - a.length + 1 + x.length) + 1 by omega, List.take_succ_cons, List.take_append, List.take_of_length_le (by omega), show q - a.length + 1 + x.length - x.length = (q - a.length) + 1 by omega, List.take_succ_cons]
    have e4 : (a ++ b).take q = a ++ b.take (q - a.length) := by rw [List.take_append, List.take_of_length_le (by omega)]
    rw [hp', e3, e4, List.drop_append_of_le_length (by omega), List.drop_append_of_le_length (by omega), bs_wrap x _ hx]
theorem sts_left (a x b : List Int) (hx : shut x) (base : Int) : ∀ i, i ≤ a.length → sts (one a x b) base i = sts (a ++ b) base i
  | 0, _ => rfl
  | i + 1, h => by
    simp only [sts]
    rw [sts_left a x b hx base i (by omega), rt_left a x b hx i (by omega), show (one a x b).getD i 0 = (a ++ b).getD i 0 by unfold one; rw [getD_left (by omega), getD_left (by omega)]]
theorem one_length (a x b : List Int) : (one a x b).length = a.length + 2 + x.length + b.length := by simp [one]; omega
theorem one_rli (a x b : List Int) : (one a x b).getD a.length 0 = 21 := by
  simp [one]
theorem one_partner (a x b : List Int) (hx : shut x) : partner (one a x b) a.length = a.length + 1 + x.length := by
  unfold partner
  rw [show (one a x b).drop (a.length + 1) = x ++ 23 :: b by unfold one; rw [List.drop_append, List.drop_of_length_le (by omega)]; simp, par_shut x hx]
  simp only [par]
  rw [if_neg (by decide), if_pos trivial, if_pos (Nat.le_refl _)]
theorem sts_mid (a x b : List Int) (hx : shut x) (base : Int) : sts (one a x b) base (a.length + 2 + x.length) = sts (a ++ b) base a.length := by
  have hl := one_length a x b
  have hp := one_partner a x b hx
  have := sts_skip (one a x b) base a.length (by omega) (by rw [one_rli]; decide) (by omega)
  rw [hp, sts_left a x b hx base a.length (Nat.le_refl _)] at this
  rw [← this]
  congr 1
  omega
theorem rt_right (a b : List Int) (j : Nat) : rt (a ++ b) (a.length + j) = rt b j := by
  unfold rt
  rw [getD_right, partner_right, List.take_append, List.drop_append, show a.length + j + 1 = a.length + (j + 1) by omega, show a.length + partner b j - a.length = partner b j by omega, List.take_of_length_le (by omega), List.drop_of_length_le (by omega), show a.length + (j + 1) - a.length = j + 1 by omega, List.nil_append]
theorem one_eq (a x b : List Int) : one a x b = (a ++ 21 :: (x ++ [23])) ++ b := by simp [one]
theorem one_behind (a x b : List Int) (j : Nat) : (one a x b).getD (a.length + 2 + x.length + j) 0 = b.getD j 0 ∧ rt (one a x b) (a.length + 2 + x.length + j) = rt b j := by
  have hl : (a ++ 21 :: (x ++ [23])).length = a.length + 2 + x.length := by simp; omega
  rw [one_eq, ← hl]
  exact ⟨getD_right j, rt_right _ b j⟩
theorem sts_right (a x b : List Int) (hx : shut x) (base : Int) : ∀ j, sts (one a x b) base (a.length + 2 + x.length + j) = sts (a ++ b) base (a.length + j)
  | 0 => sts_mid a x b hx base
  | j + 1 => by
    rw [← Nat.add_assoc, ← Nat.add_assoc]
    simp only [sts]
    rw [sts_right a x b hx base j, (one_behind a x b j).1, (one_behind a x b j).2, getD_right, rt_right]
theorem one_pdi (a x b : List Int) : (one a x b).getD (a.length + 1 + x.length) 0 = 23 := by
  have := getD_right (a := a ++ 21 :: x) (b := 23 :: b) 0
  rw [show (a ++ 21 :: x).length + 0 = a.length + 1 + x.length by simp; omega] at this
  rw [← show (a ++ 21 :: x) ++ 23 :: b = one a x b by simp [one]]
  simpa using this
/-- The state that a place takes its level from does not hang on what lies in the isolate. -/
theorem met_left (a x b : List Int) (hx : shut x) (base : Int) (i : Nat) (hi : i < a.length) : met (one a x b) base i = met (a ++ b) base i := by
  unfold met
  rw [show (one a x b).getD i 0 = (a ++ b).getD i 0 by unfold one; rw [getD_left hi, getD_left hi], sts_left a x b hx base (i + 1) (by omega), sts_left a x b hx base i (by omega)]
theorem met_rli (a x b : List Int) (hx : shut x) (base : Int) : met (one a x b) base a.length = sts (a ++ b) base a.length := by
  unfold met
  rw [one_rli, if_neg (by decide), sts_left a x b hx base _ (Nat.le_refl _)]
theorem met_pdi (a x b : List Int) (hx : shut x) (base : Int) : met (one a x b) base (a.length + 1 + x.length) = sts (a ++ b) base a.length := by
  unfold met
  rw [one_pdi, if_pos rfl, show a.length + 1 + x.length + 1 = a.length + 2 + x.length by omega, sts_mid a x b hx base]
theorem met_right (a x b : List Int) (hx : shut x) (base : Int) (j : Nat) : met (one a x b) base (a.length + 2 + x.length + j) = met (a ++ b) base (a.length + j) := by
  unfold met
  rw [(one_behind a x b j).1, getD_right, sts_right a x b hx base j, Nat.add_assoc (a.length + 2 + x.length), sts_right a x b hx base (j + 1)]
  rfl
theorem hide_left (a x y b : List Int) (hx : shut x) (hy : shut y) (base : Int) (i : Nat) (hi : i ≤ a.length) : lv (one a x b) base i = lv (one a y b) base i ∧ ty (one a x b) base i = ty (one a y b) base i := by
  rcases Nat.lt_or_ge i a.length with h | h
  · have e : (one a x b).getD i 0 = (one a y b).getD i 0 := by unfold one; rw [getD_left h, getD_left h]
    unfold lv ty
    rw [e, met_left a x b hx base i h, met_left a y b hy base i h]
    exact ⟨rfl, rfl⟩
  · obtain rfl : i = a.length := by omega
    unfold lv ty
    rw [one_rli, one_rli, met_rli a x b hx, met_rli a y b hy]
    exact ⟨rfl, rfl⟩
theorem hide_right (a x y b : List Int) (hx : shut x) (hy : shut y) (base : Int) (j : Nat) : lv (one a x b) base (a.length + 1 + x.length + j) = lv (one a y b) base (a.length + 1 + y.length + j) ∧ ty (one a x b) base (a.length + 1 + x.length + j) = ty (one a y b) base (a.length + 1 + y.length + j) := by
  cases j with
  | zero =>
    unfold lv ty
    rw [show ∀ m : Nat, m + 0 = m from fun _ => rfl, show a.length + 1 + y.length + 0 = a.length + 1 + y.length from rfl, one_pdi, one_pdi, met_pdi a x b hx, met_pdi a y b hy]
    exact ⟨rfl, rfl⟩
  | succ j =>
    unfold lv ty
    rw [show a.length + 1 + x.length + (j + 1) = a.length + 2 + x.length + j by omega, show a.length + 1 + y.length + (j + 1) = a.length + 2 + y.length + j by omega, (one_behind a x b j).1, (one_behind a y b j).1, met_right a x b hx, met_right a y b hy]
    exact ⟨rfl, rfl⟩
theorem one_formed (a x b : List Int) (hx : ∀ z ∈ x, 1 ≤ z ∧ z ≤ 23 ∧ z ≠ 11) : formed (one a x b) ↔ (∀ z ∈ a, 1 ≤ z ∧ z ≤ 23 ∧ z ≠ 11) ∧ formed b := by
  have hl := one_length a x b
  constructor
  · intro h
    constructor
    · intro z hz
      obtain ⟨i, hi, rfl⟩ := List.getElem_of_mem hz
      have := h i (by omega)
      unfold okc at this
      rw [show (one a x b).getD i 0 = a[i] by unfold one; rw [getD_left hi]; simp [hi]] at this
      exact ⟨this.1, this.2.1, fun e => by have := this.2.2 e; omega⟩
    · intro j hj
      have := h (a.length + 2 + x.length + j) (by omega)
      unfold okc at this ⊢
      rw [(one_behind a x b j).1] at this
      exact ⟨this.1, this.2.1, fun e => by have := this.2.2 e; omega⟩
  · rintro ⟨ha, hb⟩ i hi
    have key : ∀ z ∈ a ++ 21 :: (x ++ [23]), 1 ≤ z ∧ z ≤ 23 ∧ z ≠ 11 := by
      intro z hz
      simp only [List.mem_append, List.mem_cons, List.not_mem_nil, or_false] at hz
      rcases hz with hz | rfl | hz | rfl
      · exact ha z hz
      · decide
      · exact hx z hz
      · decide
    have hl2 : (a ++ 21 :: (x ++ [23])).length = a.length + 2 + x.length := by simp; omega
    rcases Nat.lt_or_ge i (a.length + 2 + x.length) with h | h
    · unfold okc
      rw [one_eq, getD_left (by omega)]
      have := key _ (List.getElem_mem (by omega : i < (a ++ 21 :: (x ++ [23])).length))
      rw [List.getD_eq_getElem?_getD, List.getElem?_eq_getElem (by omega)]
      exact ⟨this.1, this.2.1, fun e => absurd e this.2.2⟩
    · obtain ⟨j, rfl⟩ : ∃ j, i = a.length + 2 + x.length + j := ⟨i - (a.length + 2 + x.length), by omega⟩
      have := hb j (by omega)
      unfold okc at this ⊢
      rw [(one_behind a x b j).1]
      exact ⟨this.1, this.2.1, fun e => by have := this.2.2 e; omega⟩
/-! ### plain paragraphs -/
theorem plain_sts (c : List Int) (base : Int) : ∀ i, (∀ k, k < i → emd (c.getD k 0) = false ∧ st (c.getD k 0) = false) → sts c base i = s0 base
  | 0, _ => rfl
  | i + 1, h => by
    simp only [sts]
    rw [plain_sts c base i (fun k hk => h k (by omega))]
    have := h i (by omega)
    simp only [step]
    rw [if_neg (by rw [this.1]; simp), if_neg (by rw [this.2]; simp)]
    split
    · rfl
    · split <;> rfl
/-! ### embeddings, one within another -/
theorem emd_sts (c : List Int) (base : Int) : ∀ i, (∀ k, k < i → emd (c.getD k 0) = true) → (sts c base i).isl = 0 ∧ (sts c base i).val = 0 ∧ (sts c base i).emb + (sts c base i).stk.length = i + 1
  | 0, _ => ⟨rfl, rfl, rfl⟩
  | i + 1, h => by
    obtain ⟨h1, h2, h3⟩ := emd_sts c base i (fun k hk => h k (by omega))
    simp only [sts, step]
    rw [if_pos (h i (by omega))]
    unfold embed
    split
    · exact ⟨h1, h2, by simp [push]; omega⟩
    · exact ⟨h1, h2, by show (sts c base i).emb + 1 + (sts c base i).stk.length = _; omega⟩
theorem pops_sts (c : List Int) {base : Int} (hb : base ≤ 125) (n : Nat) (h : ∀ k, k < n → emd (c.getD k 0) = true) (hn : c.getD n 0 = 1) (hp : ∀ k, k < n → c.getD (n + 1 + k) 0 = 19) : ∀ t, t ≤ n →
    (sts c base (n + 1 + t)).isl = 0 ∧ (sts c base (n + 1 + t)).val = 0 ∧ (sts c base (n + 1 + t)).emb + (sts c base (n + 1 + t)).stk.length = n + 1 - t
  | 0, _ => by
    have := emd_sts c base n h
    rw [Nat.add_zero]
    simp only [sts, step]
    rw [hn, if_neg (by decide), if_neg (by decide), if_neg (by decide), if_neg (by decide)]
    exact this
  | t + 1, ht => by
    obtain ⟨h1, h2, h3⟩ := pops_sts c hb n h hn hp t (by omega)
    have hI := sts_inv c hb (n + 1 + t)
    rw [← Nat.add_assoc]
    simp only [sts, step]
    rw [hp t (by omega), if_neg (by decide), if_neg (by decide), if_neg (by decide), if_pos rfl]
    generalize sts c base (n + 1 + t) = s at *
    have hne := hI.good.ne
    have hlen : 0 < s.stk.length := List.length_pos_iff.2 hne
    have hiso : (top s).iso = false := by
      have hv := hI.val
      rw [h2] at hv
      unfold top
      cases hs : s.stk with
      | nil => rfl
      | cons e t =>
        rw [hs] at hv
        cases he : e.iso with
        | false => simp [he]
        | true => simp [cnt, he] at hv
    unfold pop
    rw [if_neg (by omega)]
    by_cases h4 : 0 < s.emb
    · rw [if_pos h4]
      exact ⟨h1, h2, by show s.emb - 1 + s.stk.length = _; omega⟩
    · rw [if_neg h4, if_pos ⟨hiso, by omega⟩]
      exact ⟨h1, h2, by show s.emb + s.stk.tail.length = _; rw [List.length_tail]; omega⟩
theorem deep_end (c : List Int) {base : Int} (hb : base ≤ 125) (n : Nat) (h : ∀ k, k < n → emd (c.getD k 0) = true) (hn : c.getD n 0 = 1) (hp : ∀ k, k < n → c.getD (n + 1 + k) 0 = 19) (hr : c.getD (2 * n + 1) 0 = 2) : lv c base (2 * n + 1) = base := by
  obtain ⟨_, _, h3⟩ := pops_sts c hb n h hn hp n (Nat.le_refl _)
  have hI := sts_inv c hb (n + 1 + n)
  unfold lv met
  rw [hr, if_neg (by decide), if_neg (by decide), if_neg (by decide), show 2 * n + 1 = n + 1 + n by omega]
  have hne := hI.good.ne
  have hlen : 0 < (sts c base (n + 1 + n)).stk.length := List.length_pos_iff.2 hne
  have := (hI.good.bottom hb).2 (by omega)
  unfold top
  rw [this]
/-- Where no further level may be, embeddings change no stack. -/
theorem full_sts (c : List Int) (base : Int) (i : Nat) (h0 : can (sts c base i) (rgt (c.getD i 0)) = false) (hz : (sts c base i).isl = 0) : ∀ d, (∀ k, i ≤ k → k < i + d → emd (c.getD k 0) = true) → (sts c base (i + d)).stk = (sts c base i).stk ∧ (0 < d → 0 < (sts c base (i + d)).emb) ∧ (sts c base (i + d)).isl = 0
  | 0, _ => ⟨rfl, fun h => absurd h (by omega), hz⟩
  | d + 1, h => by
    obtain ⟨h1, h2, h3⟩ := full_sts c base i h0 hz d (fun k hk hk2 => h k hk (by omega))
    rw [← Nat.add_assoc]
    simp only [sts, step]
    rw [if_pos (h (i + d) (by omega) (by omega))]
    unfold embed
    have hc : can (sts c base (i + d)) (rgt (c.getD (i + d) 0)) = false := by
      rcases Nat.eq_zero_or_pos d with h4 | h4
      · subst h4; exact h0
      · have := h2 h4
        unfold can
        exact decide_eq_false (by omega)
    rw [if_neg (by rw [hc]; simp), if_pos h3]
    exact ⟨h1, fun _ => by show 0 < (sts c base (i + d)).emb + 1; omega, h3⟩
end Go.Proofs.Yteldofimjklckaa.Exp
/- Level runs in plain Lean: their heads, their places. No program, no memory. -/
namespace Go.Proofs.Yteldofimjklckaa.Run

def kp (l : List Int) (i : Nat) : Bool := decide (0 ≤ l.getD i (-1))
theorem kp_lt {l : List Int} {i : Nat} (h : kp l i = true) : i < l.length := by
  rcases Nat.lt_or_ge i l.length with h1 | h1
  · exact h1
  · have := of_decide_eq_true h
    rw [List.getD_eq_getElem?_getD, List.getElem?_eq_none h1] at this
    simp at this
/-- The last kept place ahead of one. -/
def prv (l : List Int) : Nat → Option Nat
  | 0 => none
  | i + 1 => if kp l i = true then some i else prv l i
theorem prv_some (l : List Int) : ∀ {i q : Nat}, prv l i = some q → q < i ∧ kp l q = true ∧ ∀ j, q < j → j < i → kp l j = false
  | 0, q, h => by simp [prv] at h
  | i + 1, q, h => by
    simp only [prv] at h
    split at h
    · rename_i hk
      injection h with h
      subst h
      exact ⟨by omega, hk, fun j h1 h2 => by omega⟩
    · rename_i hk
      obtain ⟨h1, h2, h3⟩ := prv_some l h
      refine ⟨by omega, h2, fun j h4 h5 => ?_⟩
      rcases Nat.lt_or_ge j i with h6 | h6
      · exact h3 j h4 h6
      · obtain rfl : j = i := by omega
        simpa using hk
theorem prv_none (l : List Int) : ∀ {i : Nat}, prv l i = none → ∀ j, j < i → kp l j = false
  | 0, _, j, hj => by omega
  | i + 1, h, j, hj => by
    simp only [prv] at h
    split at h
    · exact absurd h (by simp)
    · rename_i hk
      rcases Nat.lt_or_ge j i with h6 | h6
      · exact prv_none l h j h6
      · obtain rfl : j = i := by omega
        simpa using hk
theorem prv_of (l : List Int) {i q : Nat} (h1 : q < i) (h2 : kp l q = true) (h3 : ∀ j, q < j → j < i → kp l j = false) : prv l i = some q := by
  cases h : prv l i with
  | none => have := prv_none l h q h1; rw [h2] at this; exact absurd this (by simp)
  | some p =>
    obtain ⟨g1, g2, g3⟩ := prv_some l h
    rcases Nat.lt_trichotomy p q with h4 | h4 | h4
    · have := g3 q h4 h1; rw [h2] at this; exact absurd this (by simp)
    · rw [h4]
    · have := h3 p h4 g1; rw [g2] at this; exact absurd this (by simp)
/-- Does a level run begin at a place? -/
def isH (l : List Int) (i : Nat) : Bool := kp l i && (match prv l i with | none => true | some k => l.getD k (-1) != l.getD i (-1))
theorem isH_kp {l : List Int} {i : Nat} (h : isH l i = true) : kp l i = true := by
  unfold isH at h
  exact (Bool.and_eq_true_iff.1 h).1
theorem isH_ne {l : List Int} {i q : Nat} (h : isH l i = true) (hq : prv l i = some q) : l.getD q (-1) ≠ l.getD i (-1) := by
  unfold isH at h
  have := (Bool.and_eq_true_iff.1 h).2
  rw [hq] at this
  simpa using this
theorem notH {l : List Int} {i : Nat} (hk : kp l i = true) (h : isH l i = false) : ∃ q, prv l i = some q ∧ l.getD q (-1) = l.getD i (-1) := by
  unfold isH at h
  rw [hk] at h
  cases hp : prv l i with
  | none => rw [hp] at h; simp at h
  | some q => rw [hp] at h; exact ⟨q, rfl, by simpa using h⟩
/-- The last head up to a place. -/
def hd (l : List Int) : Nat → Nat
  | 0 => 0
  | i + 1 => if isH l i = true then i else hd l i
theorem hd_le (l : List Int) : ∀ i, hd l i ≤ i - 1
  | 0 => by simp [hd]
  | i + 1 => by
    have := hd_le l i
    simp only [hd]
    split <;> omega
theorem hd_mono1 (l : List Int) (i : Nat) : hd l i ≤ hd l (i + 1) := by
  have := hd_le l i
  simp only [hd]
  split <;> omega
theorem hd_mono (l : List Int) {i j : Nat} (h : i ≤ j) : hd l i ≤ hd l j := by
  induction j with
  | zero => obtain rfl : i = 0 := by omega
            exact Nat.le_refl _
  | succ j ih =>
    rcases Nat.lt_or_ge j i with h1 | h1
    · obtain rfl : i = j + 1 := by omega
      exact Nat.le_refl _
    · exact Nat.le_trans (ih h1) (hd_mono1 l j)
theorem hd_self {l : List Int} {h : Nat} (hh : isH l h = true) : hd l (h + 1) = h := by simp only [hd]; rw [if_pos hh]
theorem hd_ge {l : List Int} {h j : Nat} (hh : isH l h = true) (hj : h < j) : h ≤ hd l j := by
  have := hd_mono l (i := h + 1) (j := j) hj
  rw [hd_self hh] at this
  exact this
/-- Between two places without a head the last head is one. -/
theorem hd_same (l : List Int) {i j : Nat} (hij : i ≤ j) (h : ∀ k, i ≤ k → k < j → isH l k = false) : hd l j = hd l i := by
  induction j with
  | zero => obtain rfl : i = 0 := by omega
            rfl
  | succ j ih =>
    rcases Nat.lt_or_ge j i with h1 | h1
    · obtain rfl : i = j + 1 := by omega
      rfl
    · simp only [hd]
      rw [if_neg (by rw [h j h1 (by omega)]; simp)]
      exact ih h1 (fun k h2 h3 => h k h2 (by omega))
theorem hd_isH {l : List Int} : ∀ {j k : Nat}, kp l k = true → k < j → isH l (hd l j) = true
  | 0, k, _, h => by omega
  | j + 1, k, hk, h => by
    simp only [hd]
    split
    · assumption
    · rename_i hn
      rcases Nat.lt_or_ge k j with h1 | h1
      · exact hd_isH hk h1
      · obtain rfl : k = j := by omega
        obtain ⟨q, hq, _⟩ := notH hk (by simpa using hn)
        obtain ⟨h2, h3, _⟩ := prv_some l hq
        exact hd_isH h3 h2
/-- A run has one level. -/
theorem hd_level {l : List Int} : ∀ (j : Nat), kp l j = true → l.getD (hd l (j + 1)) (-1) = l.getD j (-1) := by
  intro j
  induction j using Nat.strongRecOn with
  | ind j ih =>
    intro hk
    by_cases hh : isH l j = true
    · rw [hd_self hh]
    · obtain ⟨q, hq, he⟩ := notH hk (by simpa using hh)
      obtain ⟨h2, h3, h4⟩ := prv_some l hq
      have := ih q h2 h3
      rw [hd_same l (i := q + 1) (j := j + 1) (by omega), this, he]
      intro k h5 h6
      rcases Nat.lt_or_ge k j with h7 | h7
      · cases hc : isH l k with
        | false => rfl
        | true => have := isH_kp hc; rw [h4 k (by omega) h7] at this; exact absurd this (by simp)
      · obtain rfl : k = j := by omega
        simpa using hh
def heads (l : List Int) (n : Nat) : List Nat := (List.range n).filter (isH l)
def run (l : List Int) (n h : Nat) : List Nat := (List.range n).filter (fun j => kp l j && hd l (j + 1) == h)
theorem mem_heads {l : List Int} {n h : Nat} : h ∈ heads l n ↔ h < n ∧ isH l h = true := by simp [heads]
theorem mem_run {l : List Int} {n h j : Nat} : j ∈ run l n h ↔ j < n ∧ kp l j = true ∧ hd l (j + 1) = h := by simp [run]
theorem heads_succ (l : List Int) (n : Nat) : heads l (n + 1) = heads l n ++ (if isH l n = true then [n] else []) := by
  unfold heads
  rw [List.range_succ, List.filter_append]
  congr 1
  by_cases h : isH l n = true
  · simp [h]
  · simp [h]
theorem run_succ (l : List Int) (n h : Nat) : run l (n + 1) h = run l n h ++ (if kp l n = true ∧ hd l (n + 1) = h then [n] else []) := by
  unfold run
  rw [List.range_succ, List.filter_append]
  congr 1
  by_cases h1 : kp l n = true ∧ hd l (n + 1) = h
  · rw [if_pos h1]; simp [h1.1, h1.2]
  · rw [if_neg h1]
    simp
    intro h2 h3
    exact h1 ⟨h2, h3⟩
theorem heads_last (l : List Int) : ∀ n, prv l n ≠ none → ∃ H, heads l n = H ++ [hd l n] ∧ ∀ h ∈ H, h < hd l n
  | 0, h => absurd rfl h
  | n + 1, h => by
    rw [heads_succ]
    simp only [hd]
    by_cases hh : isH l n = true
    · rw [if_pos hh, if_pos hh]
      exact ⟨heads l n, rfl, fun x hx => (mem_heads.1 hx).1⟩
    · rw [if_neg hh, if_neg hh, List.append_nil]
      refine heads_last l n ?_
      by_cases hk : kp l n = true
      · obtain ⟨q, hq, _⟩ := notH hk (by simpa using hh)
        rw [hq]; simp
      · simpa [prv, hk] using h
/-- As the program has them: place by place. -/
def lev (l : List Int) : Nat → List (List Nat)
  | 0 => []
  | i + 1 => if kp l i = true then (if isH l i = true then lev l i ++ [[i]] else (lev l i).dropLast ++ [(lev l i).getLastD [] ++ [i]]) else lev l i
theorem lev_eq (l : List Int) : ∀ n, lev l n = (heads l n).map (run l n)
  | 0 => rfl
  | n + 1 => by
    have ih := lev_eq l n
    simp only [lev]
    rw [heads_succ]
    by_cases hk : kp l n = true
    · rw [if_pos hk]
      by_cases hh : isH l n = true
      · rw [if_pos hh, if_pos hh, ih, List.map_append]
        congr 1
        · refine List.map_congr_left fun h hm => ?_
          rw [run_succ, hd_self hh, if_neg (by have := (mem_heads.1 hm).1; omega), List.append_nil]
        · simp only [List.map_cons, List.map_nil]
          rw [run_succ, hd_self hh, if_pos ⟨hk, rfl⟩, show run l n n = [] from ?_, List.nil_append]
          refine List.eq_nil_iff_forall_not_mem.2 fun j hj => ?_
          obtain ⟨h1, _, h3⟩ := mem_run.1 hj
          have := hd_le l (j + 1)
          omega
      · rw [if_neg hh, if_neg hh, List.append_nil, ih]
        obtain ⟨q, hq, _⟩ := notH hk (by simpa using hh)
        obtain ⟨H, hH, hlt⟩ := heads_last l n (by rw [hq]; simp)
        rw [hH, List.map_append, List.map_append]
        simp only [List.map_cons, List.map_nil, List.dropLast_concat]
        have e1 : hd l (n + 1) = hd l n := by simp only [hd]; rw [if_neg hh]
        congr 1
        · refine List.map_congr_left fun h hm => ?_
          rw [run_succ, if_neg (by have := hlt h hm; rw [e1]; omega), List.append_nil]
        · rw [run_succ, if_pos ⟨hk, e1⟩]
          simp
    · have hh : isH l n = false := by cases h : isH l n with | false => rfl | true => exact absurd (isH_kp h) hk
      rw [if_neg hk, hh, ih]
      simp only [Bool.false_eq_true, if_false, List.append_nil]
      refine List.map_congr_left fun h _ => ?_
      rw [run_succ, if_neg (fun h => hk h.1), List.append_nil]
theorem sorted_filter (p : Nat → Bool) (n : Nat) : ((List.range n).filter p).Pairwise (· < ·) := List.Pairwise.filter p List.pairwise_lt_range
theorem run_sorted (l : List Int) (n h : Nat) : (run l n h).Pairwise (· < ·) := sorted_filter _ n
theorem heads_sorted (l : List Int) (n : Nat) : (heads l n).Pairwise (· < ·) := sorted_filter _ n
theorem run_head {l : List Int} {n h : Nat} (hh : isH l h = true) (hn : h < n) : ∃ t, run l n h = h :: t := by
  have hm : h ∈ run l n h := mem_run.2 ⟨hn, isH_kp hh, hd_self hh⟩
  have hs := run_sorted l n h
  cases hr : run l n h with
  | nil => rw [hr] at hm; simp at hm
  | cons x t =>
    rw [hr] at hm hs
    rcases List.mem_cons.1 hm with rfl | hm
    · exact ⟨t, rfl⟩
    · have h1 := (List.pairwise_cons.1 hs).1 h hm
      have hx : x ∈ run l n h := by rw [hr]; simp
      obtain ⟨_, _, h4⟩ := mem_run.1 hx
      have := hd_le l (x + 1)
      omega
/-- The last place of a run. -/
def last (l : List Int) (n h : Nat) : Nat := (run l n h).getLastD 0
theorem getLast_ge : ∀ {r : List Nat}, r.Pairwise (· < ·) → ∀ j ∈ r, j ≤ r.getLastD 0
  | [], _, j, h => by simp at h
  | [x], _, j, h => by simp at h; simp [h]
  | x :: y :: t, hs, j, h => by
    have h1 := List.pairwise_cons.1 hs
    have h2 := getLast_ge h1.2
    rw [show (x :: y :: t).getLastD 0 = (y :: t).getLastD 0 by simp [List.getLastD]]
    rcases List.mem_cons.1 h with rfl | h
    · have := h1.1 y (by simp)
      have := h2 y (by simp)
      omega
    · exact h2 j h
theorem last_mem {l : List Int} {n h : Nat} (hh : isH l h = true) (hn : h < n) : last l n h ∈ run l n h := by
  obtain ⟨t, ht⟩ := run_head hh hn
  unfold last
  rw [ht]
  cases t with
  | nil => simp
  | cons y t => simp [List.getLastD, List.getLast_mem]
theorem last_ge {l : List Int} {n h j : Nat} (hj : j ∈ run l n h) : j ≤ last l n h := getLast_ge (run_sorted l n h) j hj
/-- Kept places up to a place, in order. -/
def kps (l : List Int) (n : Nat) : List Nat := (List.range n).filter (kp l)
theorem lev_flatten (l : List Int) : ∀ n, (lev l n).flatten = kps l n
  | 0 => rfl
  | n + 1 => by
    have ih := lev_flatten l n
    have e : kps l (n + 1) = kps l n ++ (if kp l n = true then [n] else []) := by
      unfold kps
      rw [List.range_succ, List.filter_append]
      congr 1
      by_cases h : kp l n = true
      · simp [h]
      · simp [h]
    rw [e, ← ih]
    simp only [lev]
    by_cases hk : kp l n = true
    · rw [if_pos hk, if_pos hk]
      by_cases hh : isH l n = true
      · rw [if_pos hh]; simp
      · rw [if_neg hh]
        obtain ⟨q, hq, _⟩ := notH hk (by simpa using hh)
        obtain ⟨H, hH, _⟩ := heads_last l n (by rw [hq]; simp)
        rw [lev_eq, hH, List.map_append]
        simp
    · rw [if_neg hk, if_neg hk]; simp
end Go.Proofs.Yteldofimjklckaa.Run
/- Isolating run sequences in plain Lean: which run goes on with which, that each kept place lies in one sequence. No program, no memory. -/
namespace Go.Proofs.Yteldofimjklckaa.Run
set_option linter.unusedVariables false
open Go.Proofs.Yteldofimjklckaa.Iso Go.Proofs.Yteldofimjklckaa.Exp

section
variable {c : List Int} {base : Int}
theorem lvs_at (c : List Int) (base : Int) (i : Nat) (h : i < c.length) : (lvs c base).getD i (-1) = lv c base i := by simp [lvs, List.getD_eq_getElem?_getD, h]
theorem st_keeps {x : Int} (h : st x = true) : Exp.rem x = false ∧ x ≠ 11 ∧ x ≠ 23 := by
  rcases (st_iff x).1 h with rfl | rfl | rfl <;> decide
theorem lv_ge (hb0 : 0 ≤ base) (hb : base ≤ 125) (i : Nat) : lv c base i = -1 ∧ Exp.rem (c.getD i 0) = true ∨ base ≤ lv c base i ∧ lv c base i ≤ 125 ∧ Exp.rem (c.getD i 0) = false := by
  unfold lv
  by_cases h1 : Exp.rem (c.getD i 0) = true
  · rw [if_pos h1]; exact .inl ⟨rfl, h1⟩
  · rw [if_neg h1]
    right
    split
    · exact ⟨Int.le_refl _, hb, by simpa using h1⟩
    · have := (met_inv c hb i).good.hd hb
      exact ⟨this.1, this.2.1, by simpa using h1⟩
theorem kp_iff (hb0 : 0 ≤ base) (hb : base ≤ 125) {i : Nat} (hi : i < c.length) : kp (lvs c base) i = true ↔ Exp.rem (c.getD i 0) = false := by
  unfold kp
  rw [lvs_at c base i hi]
  rcases lv_ge (c := c) hb0 hb i with ⟨h1, h2⟩ | ⟨h1, _, h2⟩
  · rw [h1, h2]; simp
  · rw [h2]; simp; omega
theorem ty_pair (i : Nat) (hi : i < c.length) (hs : st (c.getD i 0) = true) (hp : partner c i < c.length) : met c base (partner c i) = met c base i := by
  have h1 := st_keeps hs
  have h2 := partner_pdi c i hi hp
  unfold met
  rw [if_neg h1.2.2, h2, if_pos rfl, sts_skip c base i hi hs hp]
/-- An initiator and its PDI have one level. -/
theorem lv_pair (i : Nat) (hi : i < c.length) (hs : st (c.getD i 0) = true) (hp : partner c i < c.length) : lv c base (partner c i) = lv c base i := by
  have h1 := st_keeps hs
  have h2 := partner_pdi c i hi hp
  unfold lv
  rw [ty_pair i hi hs hp, h1.1, h2, if_neg (by decide), if_neg (by decide), if_neg (by simp), if_neg h1.2.1]
/-- Between an initiator and its PDI: all is deeper, or all is as deep. -/
theorem lv_inside (hb : base ≤ 125) (i j : Nat) (hi : i < c.length) (hs : st (c.getD i 0) = true) (hp : partner c i < c.length) (h1 : i < j) (h2 : j < partner c i) (hk : Exp.rem (c.getD j 0) = false) (h11 : c.getD j 0 ≠ 11) :
    (can (sts c base i) (rt c i) = true → lv c base i < lv c base j) ∧ (¬ can (sts c base i) (rt c i) = true → lv c base j = lv c base i) := by
  have h3 := st_keeps hs
  have e1 : lv c base i = (top (sts c base i)).lvl := by
    unfold lv met
    rw [h3.1, if_neg (by simp), if_neg h3.2.1, if_neg h3.2.2]
  have e2 : lv c base j = (top (met c base j)).lvl := by
    unfold lv
    rw [hk, if_neg (by simp), if_neg h11]
  obtain ⟨j', g1, g2, hm⟩ : ∃ j', i < j' ∧ j' ≤ partner c i ∧ met c base j = sts c base j' := by
    unfold met
    split
    · exact ⟨j + 1, by omega, by omega, rfl⟩
    · exact ⟨j, h1, by omega, rfl⟩
  rw [e1, e2, hm]
  constructor
  · intro hc
    obtain ⟨u, e, _, hk, _⟩ := inside_yes c base i hi hs hc j' g1 g2 (by omega)
    have hg := (sts_inv c hb j').good
    unfold top
    rw [hk] at hg ⊢
    exact hg.up (sts_inv c hb i).good.ne
  · intro hc
    rw [inside_no c base i hi hs hc j' g1 g2 (by omega)]
    rfl
theorem no11 (hf : formed c) {j p : Nat} (hj : j < p) (hp : p < c.length) : c.getD j 0 ≠ 11 := fun h => by
  have := (hf j (by omega)).2.2 h
  omega
theorem pdi_kept {i : Nat} (h : c.getD i 0 = 23) : Exp.rem (c.getD i 0) = false := by rw [h]; decide
/-- A run that ends with an initiator that has its PDI: a run begins there. -/
theorem fact_a (hf : formed c) (hb0 : 0 ≤ base) (hb : base ≤ 125) (e h : Nat) (he : e ∈ run (lvs c base) c.length h) (hl : ∀ j ∈ run (lvs c base) c.length h, j ≤ e) (hs : st (c.getD e 0) = true) (hp : partner c e < c.length) : isH (lvs c base) (partner c e) = true := by
  obtain ⟨hel, hek, heh⟩ := mem_run.1 he
  have hpd := partner_pdi c e hel hp
  have hg := partner_gt c e
  have hkp : kp (lvs c base) (partner c e) = true := (kp_iff hb0 hb hp).2 (pdi_kept hpd)
  cases hh : isH (lvs c base) (partner c e) with
  | true => rfl
  | false =>
    exfalso
    obtain ⟨q, hq, hle⟩ := notH hkp hh
    obtain ⟨q1, q2, q3⟩ := prv_some _ hq
    rw [lvs_at c base q (by omega), lvs_at c base _ hp, lv_pair e hel hs hp] at hle
    have hqe : e ≤ q := by
      rcases Nat.lt_or_ge q e with h1 | h1
      · have := q3 e h1 hg; rw [hek] at this; exact absurd this (by simp)
      · exact h1
    rcases Nat.lt_or_ge e q with h1 | h1
    · -- something kept lies between
      have hin := lv_inside (base := base) hb e q hel hs hp h1 q1 ((kp_iff hb0 hb (by omega)).1 q2) (no11 hf q1 hp)
      have hno : ¬ can (sts c base e) (rt c e) = true := fun hc => by have := hin.1 hc; omega
      have hsame : hd (lvs c base) (q + 1) = hd (lvs c base) (e + 1) := by
        refine hd_same _ (by omega) fun k k1 k2 => ?_
        cases hc : isH (lvs c base) k with
        | false => rfl
        | true =>
          exfalso
          have hkk := isH_kp hc
          cases hpk : prv (lvs c base) k with
          | none => have := prv_none _ hpk e (by omega); rw [hek] at this; exact absurd this (by simp)
          | some k' =>
            have hne := isH_ne hc hpk
            obtain ⟨a1, a2, a3⟩ := prv_some _ hpk
            have ek' : e ≤ k' := by
              rcases Nat.lt_or_ge k' e with h5 | h5
              · have := a3 e h5 (by omega); rw [hek] at this; exact absurd this (by simp)
              · exact h5
            rw [lvs_at c base k' (by omega), lvs_at c base k (by omega)] at hne
            have b1 := (lv_inside (base := base) hb e k hel hs hp (by omega) (by omega) ((kp_iff hb0 hb (by omega)).1 hkk) (no11 hf (p := partner c e) (by omega) hp)).2 hno
            rcases Nat.lt_or_ge e k' with h6 | h6
            · have b2 := (lv_inside (base := base) hb e k' hel hs hp h6 (by omega) ((kp_iff hb0 hb (by omega)).1 a2) (no11 hf (p := partner c e) (by omega) hp)).2 hno
              omega
            · obtain rfl : k' = e := by omega
              omega
      have := hl q (mem_run.2 ⟨by omega, q2, by rw [hsame, heh]⟩)
      omega
    · obtain rfl : q = e := by omega
      have hsame : hd (lvs c base) (partner c q + 1) = hd (lvs c base) (q + 1) := by
        refine hd_same _ (by omega) fun k k1 k2 => ?_
        rcases Nat.lt_or_ge k (partner c q) with h5 | h5
        · cases hc : isH (lvs c base) k with
          | false => rfl
          | true => have := q3 k (by omega) h5; rw [isH_kp hc] at this; exact absurd this (by simp)
        · obtain rfl : k = partner c q := by omega
          exact hh
      have := hl (partner c q) (mem_run.2 ⟨hp, hkp, by rw [hsame, heh]⟩)
      omega
/-- A run that begins with an initiator's PDI: the initiator ends its run. -/
theorem fact_b (hf : formed c) (hb0 : 0 ≤ base) (hb : base ≤ 125) (i : Nat) (hi : i < c.length) (hs : st (c.getD i 0) = true) (hp : partner c i < c.length) (hh : isH (lvs c base) (partner c i) = true) :
    ∀ j ∈ run (lvs c base) c.length (hd (lvs c base) (i + 1)), j ≤ i := by
  intro j hj
  obtain ⟨hjl, hjk, hjh⟩ := mem_run.1 hj
  have hg := partner_gt c i
  have hik : kp (lvs c base) i = true := (kp_iff hb0 hb hi).2 (st_keeps hs).1
  rcases Nat.lt_or_ge i j with hij | hij
  · exfalso
    have hjp : j < partner c i := by
      rcases Nat.lt_or_ge j (partner c i) with h1 | h1
      · exact h1
      · have h2 := hd_ge hh (j := j + 1) (by omega)
        have h3 := hd_le (lvs c base) (i + 1)
        omega
    have hlj := hd_level j hjk
    have hli := hd_level i hik
    rw [hjh] at hlj
    rw [hli, lvs_at c base i hi, lvs_at c base j hjl] at hlj
    have hin := lv_inside (base := base) hb i j hi hs hp hij hjp ((kp_iff hb0 hb hjl).1 hjk) (no11 hf hjp hp)
    have hno : ¬ can (sts c base i) (rt c i) = true := fun hc => by have := hin.1 hc; omega
    cases hpk : prv (lvs c base) (partner c i) with
    | none => have := prv_none _ hpk i hg; rw [hik] at this; exact absurd this (by simp)
    | some q =>
      have hne := isH_ne hh hpk
      obtain ⟨a1, a2, a3⟩ := prv_some _ hpk
      have hqi : i < q := by
        rcases Nat.lt_or_ge q j with h5 | h5
        · have := a3 j h5 hjp; rw [hjk] at this; exact absurd this (by simp)
        · omega
      rw [lvs_at c base q (by omega), lvs_at c base _ hp, lv_pair i hi hs hp] at hne
      have b2 := (lv_inside (base := base) hb i q hi hs hp hqi a1 ((kp_iff hb0 hb (by omega)).1 a2) (no11 hf a1 hp)).2 hno
      exact hne b2
  · exact hij
end
/-! ### which run goes on with which -/
def lst (c : List Int) (base : Int) (h : Nat) : Nat := last (lvs c base) c.length h
def succ (c : List Int) (base : Int) (h : Nat) : Option Nat := if st (c.getD (lst c base h) 0) = true ∧ partner c (lst c base h) < c.length then some (partner c (lst c base h)) else none
def owned (c : List Int) (h : Nat) : Bool := c.getD h 0 == 23 && decide (0 ≤ mtc c h)
def pred (c : List Int) (base : Int) (h : Nat) : Option Nat := if owned c h = true then some (hd (lvs c base) ((mtc c h).toNat + 1)) else none
def chain (c : List Int) (base : Int) : Nat → Nat → List Nat
  | 0, _ => []
  | f + 1, h => h :: (match succ c base h with | none => [] | some p => chain c base f p)
section
variable {c : List Int} {base : Int} (hf : formed c) (hb0 : 0 ≤ base) (hb : base ≤ 125)
theorem owned_iff {h : Nat} (hh : h < c.length) : owned c h = true ↔ ∃ i, i < h ∧ st (c.getD i 0) = true ∧ partner c i = h ∧ mtc c h = (i : Int) := by
  unfold owned
  constructor
  · intro ho
    have h1 : c.getD h 0 = 23 := by simpa using (Bool.and_eq_true_iff.1 ho).1
    have h2 : 0 ≤ mtc c h := of_decide_eq_true (Bool.and_eq_true_iff.1 ho).2
    unfold mtc at h2 ⊢
    rw [h1, if_neg (by decide), if_pos rfl] at h2
    cases hR : R c h with
    | nil => rw [hR] at h2; simp [mate] at h2
    | cons k t =>
      have hk : k ∈ R c h := by rw [hR]; simp
      exact ⟨k, R_lt c h k hk, R_st c h k hk, R_top hh hR h1, by rw [h1, if_neg (by decide), if_pos rfl]; rfl⟩
  · rintro ⟨i, h1, h2, h3, h4⟩
    have := partner_pdi c i (by omega) (by omega)
    rw [h3] at this
    rw [this, h4]
    simp
theorem owned_of {i : Nat} (hi : i < c.length) (hs : st (c.getD i 0) = true) (hp : partner c i < c.length) : owned c (partner c i) = true ∧ mtc c (partner c i) = (i : Int) := by
  have h1 := partner_pdi c i hi hp
  have hR := R_at hi hs hp
  have e : mtc c (partner c i) = (i : Int) := by
    unfold mtc
    rw [h1, if_neg (by decide), if_pos rfl, hR]
    rfl
  exact ⟨by unfold owned; rw [h1, e]; simp, e⟩
include hf hb0 hb in
theorem succ_some {g h : Nat} (hg : isH (lvs c base) g = true) (hs : succ c base g = some h) : g < h ∧ h < c.length ∧ isH (lvs c base) h = true ∧ pred c base h = some g ∧ lv c base h = lv c base g := by
  have hgl : g < c.length := by have := kp_lt (isH_kp hg); rwa [lvs_length] at this
  unfold succ at hs
  split at hs
  · rename_i h1
    injection hs with hs
    have hm : lst c base g ∈ run (lvs c base) c.length g := last_mem hg hgl
    have hmem := mem_run.1 hm
    obtain ⟨h2, h3, h4⟩ := hmem
    have hge : g ≤ lst c base g := by
      have := hd_le (lvs c base) (lst c base g + 1)
      rw [show hd (lvs c base) (lst c base g + 1) = g from h4] at this
      omega
    have hgt := partner_gt c (lst c base g)
    have ha := fact_a hf hb0 hb (lst c base g) g hm (fun j hj => last_ge hj) h1.1 h1.2
    have ho := owned_of h2 h1.1 h1.2
    have hlv : lv c base (lst c base g) = lv c base g := by
      have := hd_level (lst c base g) h3
      rw [show hd (lvs c base) (lst c base g + 1) = g from h4, lvs_at c base g hgl, lvs_at c base _ h2] at this
      exact this.symm
    subst hs
    refine ⟨by omega, h1.2, ha, ?_, ?_⟩
    · unfold pred
      rw [if_pos ho.1, ho.2, Int.toNat_natCast]
      congr 1
    · rw [lv_pair _ h2 h1.1 h1.2, hlv]
  · exact absurd hs (by simp)
include hf hb0 hb in
theorem pred_some {g h : Nat} (hh : isH (lvs c base) h = true) (hp : pred c base h = some g) : g < h ∧ isH (lvs c base) g = true ∧ succ c base g = some h := by
  have hhl : h < c.length := by have := kp_lt (isH_kp hh); rwa [lvs_length] at this
  unfold pred at hp
  split at hp
  · rename_i ho
    injection hp with hp
    obtain ⟨i, h1, h2, h3, h4⟩ := (owned_iff hhl).1 ho
    rw [h4, Int.toNat_natCast] at hp
    have hik : kp (lvs c base) i = true := (kp_iff hb0 hb (by omega)).2 (st_keeps h2).1
    have hgH : isH (lvs c base) g = true := by rw [← hp]; exact hd_isH hik (by omega)
    have hgi : g ≤ i := by have := hd_le (lvs c base) (i + 1); omega
    have hb2 := fact_b hf hb0 hb i (by omega) h2 (by omega) (by rw [h3]; exact hh)
    rw [hp] at hb2
    have him : i ∈ run (lvs c base) c.length g := mem_run.2 ⟨by omega, hik, hp⟩
    have hli : lst c base g = i := by
      have h5 := last_ge him
      have h6 := hb2 _ (last_mem hgH (by omega))
      unfold lst
      omega
    refine ⟨by omega, hgH, ?_⟩
    unfold succ
    rw [hli, if_pos ⟨h2, by omega⟩, h3]
  · exact absurd hp (by simp)
/-! ### chains -/
include hf hb0 hb in
theorem chain_mem : ∀ (f g : Nat), isH (lvs c base) g = true → ∀ h ∈ chain c base f g, g ≤ h ∧ h < c.length ∧ isH (lvs c base) h = true ∧ lv c base h = lv c base g
  | 0, _, _, h, hm => by simp [chain] at hm
  | f + 1, g, hg, h, hm => by
    have hgl : g < c.length := by have := kp_lt (isH_kp hg); rwa [lvs_length] at this
    simp only [chain] at hm
    rcases List.mem_cons.1 hm with rfl | hm
    · exact ⟨Nat.le_refl _, hgl, hg, rfl⟩
    · cases hs : succ c base g with
      | none => rw [hs] at hm; simp at hm
      | some p =>
        rw [hs] at hm
        obtain ⟨s1, s2, s3, s4, s5⟩ := succ_some hf hb0 hb hg hs
        obtain ⟨a1, a2, a3, a4⟩ := chain_mem f p s3 h hm
        exact ⟨by omega, a2, a3, by rw [a4, s5]⟩
include hf hb0 hb in
/-- What comes behind one of a chain is in it. -/
theorem chain_up : ∀ (f g : Nat), isH (lvs c base) g = true → c.length ≤ g + f → ∀ h ∈ chain c base f g, ∀ p, succ c base h = some p → p ∈ chain c base f g
  | 0, g, hg, hfu, h, hm, p, hp => by simp [chain] at hm
  | f + 1, g, hg, hfu, h, hm, p, hp => by
    simp only [chain] at hm ⊢
    rcases List.mem_cons.1 hm with rfl | hm
    · rw [hp]
      obtain ⟨s1, s2, s3, _⟩ := succ_some hf hb0 hb hg hp
      refine List.mem_cons_of_mem _ ?_
      cases f with
      | zero => omega
      | succ f => simp [chain]
    · cases hs : succ c base g with
      | none => rw [hs] at hm; simp at hm
      | some q =>
        rw [hs] at hm
        obtain ⟨s1, s2, s3, _⟩ := succ_some hf hb0 hb hg hs
        exact List.mem_cons_of_mem _ (chain_up f q s3 (by omega) h hm p hp)
include hf hb0 hb in
/-- What one of a chain comes behind is in it, but for the first. -/
theorem chain_down : ∀ (f g : Nat), isH (lvs c base) g = true → ∀ h ∈ chain c base f g, h ≠ g → ∃ q ∈ chain c base f g, pred c base h = some q
  | 0, g, _, h, hm, _ => by simp [chain] at hm
  | f + 1, g, hg, h, hm, hne => by
    simp only [chain] at hm ⊢
    rcases List.mem_cons.1 hm with rfl | hm
    · exact absurd rfl hne
    · cases hs : succ c base g with
      | none => rw [hs] at hm; simp at hm
      | some p =>
        rw [hs] at hm
        obtain ⟨s1, s2, s3, s4, _⟩ := succ_some hf hb0 hb hg hs
        by_cases h1 : h = p
        · subst h1
          exact ⟨g, by simp, s4⟩
        · obtain ⟨q, hq, e⟩ := chain_down f p s3 h hm h1
          exact ⟨q, List.mem_cons_of_mem _ hq, e⟩
def root (c : List Int) (base : Int) : Nat → Nat → Nat
  | 0, h => h
  | f + 1, h => match pred c base h with | none => h | some g => root c base f g
include hf hb0 hb in
theorem root_spec : ∀ (f h : Nat), h < f → isH (lvs c base) h = true → isH (lvs c base) (root c base f h) = true ∧ owned c (root c base f h) = false ∧ root c base f h ≤ h
  | 0, h, hlt, _ => by omega
  | f + 1, h, hlt, hh => by
    simp only [root]
    cases hp : pred c base h with
    | none =>
      refine ⟨hh, ?_, Nat.le_refl _⟩
      cases ho : owned c h with
      | false => rfl
      | true => simp [pred, ho] at hp
    | some g =>
      obtain ⟨p1, p2, _⟩ := pred_some hf hb0 hb hh hp
      obtain ⟨a1, a2, a3⟩ := root_spec f g (by omega) p2
      exact ⟨a1, a2, by simp only; omega⟩
include hf hb0 hb in
theorem chain_root (F : Nat) (hF : c.length ≤ F) (g : Nat) (hg : isH (lvs c base) g = true) (ho : owned c g = false) : ∀ (f h : Nat), h < f → isH (lvs c base) h = true → (h ∈ chain c base F g ↔ root c base f h = g)
  | 0, h, hlt, _ => by omega
  | f + 1, h, hlt, hh => by
    have hgl : g < c.length := by have := kp_lt (isH_kp hg); rwa [lvs_length] at this
    have hgm : g ∈ chain c base F g := by cases F with | zero => omega | succ F => simp [chain]
    have hgp : pred c base g = none := by simp [pred, ho]
    simp only [root]
    cases hp : pred c base h with
    | none =>
      simp only
      constructor
      · intro hm
        by_cases h1 : h = g
        · exact h1
        · obtain ⟨q, _, e⟩ := chain_down hf hb0 hb F g hg h hm h1
          rw [hp] at e
          exact absurd e (by simp)
      · rintro rfl
        exact hgm
    | some q =>
      simp only
      obtain ⟨p1, p2, p3⟩ := pred_some hf hb0 hb hh hp
      rw [← chain_root F hF g hg ho f q (by omega) p2]
      constructor
      · intro hm
        by_cases h1 : h = g
        · rw [h1, hgp] at hp
          exact absurd hp (by simp)
        · obtain ⟨q', hq', e⟩ := chain_down hf hb0 hb F g hg h hm h1
          rw [hp] at e
          injection e with e
          rw [e]
          exact hq'
      · intro hm
        exact chain_up hf hb0 hb F g hg (by omega) q hm h p3
/-- The places of the sequence that begins with a run. -/
def places (c : List Int) (base : Int) : Nat → Nat → List Nat
  | 0, _ => []
  | f + 1, h => run (lvs c base) c.length h ++ (match succ c base h with | none => [] | some p => places c base f p)
include hf hb0 hb in
theorem mem_places : ∀ (f g : Nat), isH (lvs c base) g = true → ∀ i, i ∈ places c base f g ↔ i < c.length ∧ kp (lvs c base) i = true ∧ hd (lvs c base) (i + 1) ∈ chain c base f g
  | 0, g, _, i => by simp [places, chain]
  | f + 1, g, hg, i => by
    simp only [places, chain, List.mem_append, List.mem_cons]
    cases hs : succ c base g with
    | none => simp [mem_run]
    | some p =>
      simp only
      obtain ⟨s1, s2, s3, _⟩ := succ_some hf hb0 hb hg hs
      rw [mem_places f p s3 i, mem_run]
      constructor
      · rintro (⟨a, b, d⟩ | ⟨a, b, d⟩)
        · exact ⟨a, b, .inl d⟩
        · exact ⟨a, b, .inr d⟩
      · rintro ⟨a, b, d | d⟩
        · exact .inl ⟨a, b, d⟩
        · exact .inr ⟨a, b, d⟩
include hf hb0 hb in
theorem places_ge (f g : Nat) (hg : isH (lvs c base) g = true) (i : Nat) (hi : i ∈ places c base f g) : g ≤ i := by
  obtain ⟨h1, h2, h3⟩ := (mem_places hf hb0 hb f g hg i).1 hi
  have := (chain_mem hf hb0 hb f g hg _ h3).1
  have := hd_le (lvs c base) (i + 1)
  omega
include hf hb0 hb in
theorem places_sorted : ∀ (f g : Nat), isH (lvs c base) g = true → (places c base f g).Pairwise (· < ·)
  | 0, g, _ => by simp [places]
  | f + 1, g, hg => by
    have hgl : g < c.length := by have := kp_lt (isH_kp hg); rwa [lvs_length] at this
    simp only [places]
    cases hs : succ c base g with
    | none => simp only [List.append_nil]; exact run_sorted _ _ _
    | some p =>
      simp only
      obtain ⟨s1, s2, s3, _⟩ := succ_some hf hb0 hb hg hs
      refine List.pairwise_append.2 ⟨run_sorted _ _ _, places_sorted f p s3, fun a ha b hb' => ?_⟩
      have h1 := places_ge hf hb0 hb f p s3 b hb'
      have h2 : a ≤ lst c base g := last_ge ha
      unfold succ at hs
      split at hs
      · injection hs with hs
        have := partner_gt c (lst c base g)
        omega
      · exact absurd hs (by simp)
end
/-- The heads of sequences, and all sequences. -/
def roots (c : List Int) (base : Int) : List Nat := (heads (lvs c base) c.length).filter (fun h => !owned c h)
def seqs (c : List Int) (base : Int) : List (List Nat) := (roots c base).map (places c base c.length)
section
variable {c : List Int} {base : Int} (hf : formed c) (hb0 : 0 ≤ base) (hb : base ≤ 125)
theorem mem_roots {g : Nat} : g ∈ roots c base ↔ g < c.length ∧ isH (lvs c base) g = true ∧ owned c g = false := by
  unfold roots
  rw [List.mem_filter, mem_heads]
  simp [and_assoc]
theorem roots_sorted : (roots c base).Pairwise (· < ·) := List.Pairwise.filter _ (heads_sorted _ _)
theorem count_ind (l : List Nat) (hl : l.Pairwise (· < ·)) (r : Nat) (hr : r ∈ l) : (l.map (fun g => if r = g then 1 else 0)).sum = 1 := by
  induction l with
  | nil => simp at hr
  | cons x t ih =>
    have h1 := List.pairwise_cons.1 hl
    simp only [List.map_cons, List.sum_cons]
    rcases List.mem_cons.1 hr with rfl | hr
    · rw [if_pos rfl, show (t.map (fun g => if r = g then 1 else 0)).sum = 0 from ?_]
      have : ∀ g ∈ t, (if r = g then 1 else 0) = 0 := fun g hg => by have := h1.1 g hg; rw [if_neg (by omega)]
      rw [List.map_congr_left this]
      clear this ih hl h1
      induction t with
      | nil => rfl
      | cons _ _ ih => simpa using ih
    · rw [if_neg (by have := h1.1 r hr; omega), ih h1.2 hr]
theorem count_sorted (l : List Nat) (hl : l.Pairwise (· < ·)) (i : Nat) : l.count i = if i ∈ l then 1 else 0 := by
  have hn : l.Nodup := hl.imp (fun h => by omega)
  exact hn.count
include hf hb0 hb in
/-- Each kept place lies in one sequence, and no other one does. -/
theorem cover (i : Nat) (hi : i < c.length) : (seqs c base).flatten.count i = if kp (lvs c base) i = true then 1 else 0 := by
  unfold seqs
  rw [List.count_flatten, List.map_map]
  have key : ∀ g ∈ roots c base, (List.count i ∘ places c base c.length) g = if kp (lvs c base) i = true then (if root c base c.length (hd (lvs c base) (i + 1)) = g then 1 else 0) else 0 := by
    intro g hg
    obtain ⟨g1, g2, g3⟩ := mem_roots.1 hg
    show (places c base c.length g).count i = _
    rw [count_sorted _ (places_sorted hf hb0 hb _ _ g2)]
    by_cases hk : kp (lvs c base) i = true
    · have hH := hd_isH (j := i + 1) hk (by omega)
      have hle := hd_le (lvs c base) (i + 1)
      have h1 := chain_root hf hb0 hb c.length (Nat.le_refl _) g g2 g3 c.length _ (by omega) hH
      have h2 := mem_places hf hb0 hb c.length g g2 i
      rw [if_pos hk]
      by_cases h3 : root c base c.length (hd (lvs c base) (i + 1)) = g
      · rw [if_pos h3, if_pos (h2.2 ⟨hi, hk, h1.2 h3⟩)]
      · rw [if_neg h3, if_neg (fun h => h3 (h1.1 (h2.1 h).2.2))]
    · rw [if_neg hk, if_neg (fun h => hk ((mem_places hf hb0 hb c.length g g2 i).1 h).2.1)]
  rw [List.map_congr_left key]
  by_cases hk : kp (lvs c base) i = true
  · simp only [if_pos hk]
    have hH := hd_isH (j := i + 1) hk (by omega)
    have hle := hd_le (lvs c base) (i + 1)
    obtain ⟨r1, r2, r3⟩ := root_spec hf hb0 hb c.length _ (by omega) hH
    exact count_ind _ roots_sorted _ (mem_roots.2 ⟨by omega, r1, r2⟩)
  · simp only [if_neg hk]
    generalize roots c base = t
    induction t with
    | nil => rfl
    | cons _ _ ih => simpa using ih
end
end Go.Proofs.Yteldofimjklckaa.Run
/- Isolating run sequences in plain Lean: their first and last places, and where they leave out kept ones. No program, no memory. -/
namespace Go.Proofs.Yteldofimjklckaa.Run
set_option linter.unusedVariables false
open Go.Proofs.Yteldofimjklckaa.Iso Go.Proofs.Yteldofimjklckaa.Exp

theorem sorted_gap : ∀ {r : List Nat}, r.Pairwise (· < ·) → ∀ (k j : Nat) (h : k + 1 < r.length), j ∈ r → r[k] < j → j < r[k + 1] → False
  | [], _, k, j, h, _, _, _ => by simp at h
  | x :: t, hs, 0, j, h, hj, h1, h2 => by
    have hp := List.pairwise_cons.1 hs
    cases t with
    | nil => simp at h
    | cons y t =>
      have hq := List.pairwise_cons.1 hp.2
      simp at h1 h2
      rcases List.mem_cons.1 hj with rfl | hj
      · omega
      · rcases List.mem_cons.1 hj with rfl | hj
        · omega
        · have := hq.1 j hj; omega
  | x :: t, hs, k + 1, j, h, hj, h1, h2 => by
    have hp := List.pairwise_cons.1 hs
    simp only [List.getElem_cons_succ] at h1 h2
    rcases List.mem_cons.1 hj with rfl | hj
    · have hk : k < t.length := by simp at h; omega
      have := hp.1 (t[k]'hk) (List.getElem_mem hk)
      omega
    · exact sorted_gap hp.2 k j (by simp at h; omega) hj h1 h2
theorem run_gap (l : List Int) (n h k j : Nat) (hk : k + 1 < (run l n h).length) (h1 : (run l n h)[k] < j) (h2 : j < (run l n h)[k + 1]) : kp l j = false := by
  cases hj : kp l j with
  | false => rfl
  | true =>
    exfalso
    obtain ⟨a1, a2, a3⟩ := mem_run.1 (List.getElem_mem (by omega : k < (run l n h).length))
    obtain ⟨b1, b2, b3⟩ := mem_run.1 (List.getElem_mem hk)
    have m1 := hd_mono l (i := (run l n h)[k] + 1) (j := j + 1) (by omega)
    have m2 := hd_mono l (i := j + 1) (j := (run l n h)[k + 1] + 1) (by omega)
    exact sorted_gap (run_sorted l n h) k j hk (mem_run.2 ⟨by omega, hj, by omega⟩) h1 h2
section
variable {c : List Int} {base : Int} (hf : formed c) (hb0 : 0 ≤ base) (hb : base ≤ 125)
theorem places_head (f g : Nat) (hg : isH (lvs c base) g = true) : ∃ t, places c base (f + 1) g = g :: t := by
  have hgl : g < c.length := by have := kp_lt (isH_kp hg); rwa [lvs_length] at this
  obtain ⟨t, ht⟩ := run_head hg hgl
  simp only [places]
  rw [ht]
  exact ⟨_, rfl⟩
include hf hb0 hb in
/-- Two places that follow one another: nothing that is kept lies between, or an initiator and its PDI. -/
theorem links : ∀ (f g : Nat), isH (lvs c base) g = true → ∀ (k : Nat) (h : k + 1 < (places c base f g).length),
    (∀ j, (places c base f g)[k] < j → j < (places c base f g)[k + 1] → kp (lvs c base) j = false) ∨ (st (c.getD (places c base f g)[k] 0) = true ∧ partner c (places c base f g)[k] = (places c base f g)[k + 1])
  | 0, g, _, k, h => by simp [places] at h
  | f + 1, g, hg, k, h => by
    have hgl : g < c.length := by have := kp_lt (isH_kp hg); rwa [lvs_length] at this
    cases hs : succ c base g with
    | none =>
      have e : places c base (f + 1) g = run (lvs c base) c.length g := by simp only [places]; rw [hs]; simp
      simp only [e] at h ⊢
      exact .inl fun j h1 h2 => run_gap _ _ _ k j h h1 h2
    | some p =>
      obtain ⟨s1, s2, s3, _⟩ := succ_some hf hb0 hb hg hs
      have e : places c base (f + 1) g = run (lvs c base) c.length g ++ places c base f p := by simp only [places]; rw [hs]
      simp only [e] at h ⊢
      rcases Nat.lt_trichotomy (k + 1) (run (lvs c base) c.length g).length with h1 | h1 | h1
      · left
        intro j h2 h3
        rw [List.getElem_append_left (by omega)] at h2
        rw [List.getElem_append_left h1] at h3
        exact run_gap _ _ _ k j h1 h2 h3
      · right
        have hl : (run (lvs c base) c.length g)[k] = lst c base g := by
          unfold lst last
          rw [List.getLastD_eq_getLast?, List.getLast?_eq_getElem?, show (run (lvs c base) c.length g).length - 1 = k by omega, List.getElem?_eq_getElem (by omega)]
          rfl
        have hp : ∃ t, places c base f p = p :: t := by
          cases f with
          | zero => simp [places] at h; omega
          | succ f => exact places_head f p s3
        obtain ⟨t, ht⟩ := hp
        rw [List.getElem_append_left (by omega), List.getElem_append_right (by omega), hl]
        have hz : k + 1 - (run (lvs c base) c.length g).length = 0 := by omega
        simp only [hz, ht, List.getElem_cons_zero]
        unfold succ at hs
        split at hs
        · rename_i hc
          injection hs with hs
          exact ⟨hc.1, hs⟩
        · exact absurd hs (by simp)
      · have ih := links f p s3 (k - (run (lvs c base) c.length g).length) (by rw [List.length_append] at h; omega)
        rw [List.getElem_append_right (by omega), List.getElem_append_right (by omega)]
        have hz : k + 1 - (run (lvs c base) c.length g).length = k - (run (lvs c base) c.length g).length + 1 := by omega
        simp only [hz]
        exact ih
include hf hb0 hb in
/-- A sequence does not end where it would go on. -/
theorem ends : ∀ (f g : Nat), isH (lvs c base) g = true → c.length ≤ g + f → ¬ (st (c.getD ((places c base f g).getLastD 0) 0) = true ∧ partner c ((places c base f g).getLastD 0) < c.length)
  | 0, g, hg, hfu => by have := kp_lt (isH_kp hg); rw [lvs_length] at this; omega
  | f + 1, g, hg, hfu => by
    cases hs : succ c base g with
    | none =>
      have e : places c base (f + 1) g = run (lvs c base) c.length g := by simp only [places]; rw [hs]; simp
      rw [e]
      intro hc
      unfold succ at hs
      rw [if_pos (show st (c.getD (lst c base g) 0) = true ∧ partner c (lst c base g) < c.length from hc)] at hs
      exact absurd hs (by simp)
    | some p =>
      obtain ⟨s1, s2, s3, _⟩ := succ_some hf hb0 hb hg hs
      have e : places c base (f + 1) g = run (lvs c base) c.length g ++ places c base f p := by simp only [places]; rw [hs]
      have hp : ∃ t, places c base f p = p :: t := by
        cases f with
        | zero => omega
        | succ f => exact places_head f p s3
      obtain ⟨t, ht⟩ := hp
      have e2 : (places c base (f + 1) g).getLastD 0 = (places c base f p).getLastD 0 := by
        rw [e, List.getLastD_eq_getLast?, List.getLastD_eq_getLast?, List.getLast?_append, ht, List.getLast?_cons]
        simp
      rw [e2]
      exact ends f p s3 (by omega)
include hf hb0 hb in
theorem places_level (f g : Nat) (hg : isH (lvs c base) g = true) (i : Nat) (hi : i ∈ places c base f g) : lv c base i = lv c base g := by
  obtain ⟨h1, h2, h3⟩ := (mem_places hf hb0 hb f g hg i).1 hi
  obtain ⟨a1, a2, a3, a4⟩ := chain_mem hf hb0 hb f g hg _ h3
  have := hd_level i h2
  rw [lvs_at c base _ a2, lvs_at c base i h1] at this
  rw [← this, a4]
/-- A plain paragraph has one sequence, of all that is kept. -/
theorem plain_lv (hp : ∀ k, k < c.length → emd (c.getD k 0) = false ∧ st (c.getD k 0) = false) (i : Nat) (hi : i < c.length) : lv c base i = -1 ∨ lv c base i = base := by
  unfold lv
  split
  · exact .inl rfl
  · split
    · exact .inr rfl
    · right
      unfold met
      split
      · rw [plain_sts c base (i + 1) (fun k hk => hp k (by omega))]; rfl
      · rw [plain_sts c base i (fun k hk => hp k (by omega))]; rfl
end
end Go.Proofs.Yteldofimjklckaa.Run
/- What stands beside a sequence: the kept place ahead of it, and behind it. No program, no memory. -/
namespace Go.Proofs.Yteldofimjklckaa.Run
set_option linter.unusedVariables false
open Go.Proofs.Yteldofimjklckaa.Iso Go.Proofs.Yteldofimjklckaa.Exp

/-- The first kept place from one on, within so many. -/
def nxt (l : List Int) : Nat → Nat → Option Nat
  | 0, _ => none
  | d + 1, i => if kp l i = true then some i else nxt l d (i + 1)
theorem nxt_some (l : List Int) : ∀ {d i q : Nat}, nxt l d i = some q → i ≤ q ∧ q < i + d ∧ kp l q = true ∧ ∀ j, i ≤ j → j < q → kp l j = false
  | 0, i, q, h => by simp [nxt] at h
  | d + 1, i, q, h => by
    simp only [nxt] at h
    split at h
    · rename_i hk
      injection h with h
      subst h
      exact ⟨Nat.le_refl _, by omega, hk, fun j h1 h2 => by omega⟩
    · rename_i hk
      obtain ⟨h1, h2, h3, h4⟩ := nxt_some l h
      refine ⟨by omega, by omega, h3, fun j h5 h6 => ?_⟩
      rcases Nat.lt_or_ge i j with h7 | h7
      · exact h4 j h7 h6
      · obtain rfl : j = i := by omega
        simpa using hk
theorem nxt_none (l : List Int) : ∀ {d i : Nat}, nxt l d i = none → ∀ j, i ≤ j → j < i + d → kp l j = false
  | 0, i, _, j, h1, h2 => by omega
  | d + 1, i, h, j, h1, h2 => by
    simp only [nxt] at h
    split at h
    · exact absurd h (by simp)
    · rename_i hk
      rcases Nat.lt_or_ge i j with h7 | h7
      · exact nxt_none l h j h7 (by omega)
      · obtain rfl : j = i := by omega
        simpa using hk
def keptB (l : List Int) (base : Int) (i : Nat) : Int := match prv l i with | none => base | some k => l.getD k (-1)
def keptA (l : List Int) (base : Int) (i : Nat) : Int := match nxt l (l.length - i) i with | none => base | some k => l.getD k (-1)
def sideI (a b : Int) : Int := if max a b % 2 = 1 then 2 else 1
theorem sideI_two (a b : Int) : sideI a b = 1 ∨ sideI a b = 2 := by unfold sideI; split <;> simp
/-- A sequence: its places, its level, what stands ahead of it and behind it. -/
abbrev Sq := List Nat × Int × Int × Int
def seqOf (c : List Int) (base : Int) (g : Nat) : Sq :=
  let ps := places c base c.length g
  let e := ps.getLastD 0
  let x := lv c base e
  (ps, x, sideI x (keptB (lvs c base) base g), if st (c.getD e 0) = true then sideI x base else sideI x (keptA (lvs c base) base (e + 1)))
def seqList (c : List Int) (base : Int) : List Sq := (roots c base).map (seqOf c base)
section
variable {c : List Int} {base : Int}
theorem keptB_same (hp : ∀ i, i < c.length → lv c base i = -1 ∨ lv c base i = base) (i : Nat) (hi : i ≤ c.length) : keptB (lvs c base) base i = base := by
  unfold keptB
  cases h : prv (lvs c base) i with
  | none => rfl
  | some k =>
    obtain ⟨h1, h2, _⟩ := prv_some _ h
    have hk : k < c.length := by omega
    simp only
    have h3 := of_decide_eq_true h2
    rw [lvs_at c base k hk] at h3 ⊢
    rcases hp k hk with h4 | h4
    · omega
    · exact h4
theorem keptA_same (hp : ∀ i, i < c.length → lv c base i = -1 ∨ lv c base i = base) (i : Nat) : keptA (lvs c base) base i = base := by
  unfold keptA
  cases h : nxt (lvs c base) ((lvs c base).length - i) i with
  | none => rfl
  | some k =>
    obtain ⟨h0, h1, h2, _⟩ := nxt_some _ h
    have hk : k < c.length := by have := kp_lt h2; rwa [lvs_length] at this
    simp only
    have h3 := of_decide_eq_true h2
    rw [lvs_at c base k hk] at h3 ⊢
    rcases hp k hk with h4 | h4
    · omega
    · exact h4
end
end Go.Proofs.Yteldofimjklckaa.Run
/- A plain paragraph has one sequence. No program, no memory. -/
namespace Go.Proofs.Yteldofimjklckaa.Run
set_option linter.unusedVariables false
open Go.Proofs.Yteldofimjklckaa.Iso Go.Proofs.Yteldofimjklckaa.Exp

/-- All classes so far are plain. -/
def pl (c : List Int) : Nat → Bool
  | 0 => true
  | i + 1 => pl c i && (decide (c.getD i 0 < 15) || c.getD i 0 == 19 || c.getD i 0 == 23)
/-- How many are kept. -/
def kn (c : List Int) : Nat → Nat
  | 0 => 0
  | i + 1 => kn c i + if Exp.rem (c.getD i 0) = true then 0 else 1
theorem kn_le (c : List Int) : ∀ i, kn c i ≤ i
  | 0 => Nat.le_refl _
  | i + 1 => by have := kn_le c i; simp only [kn]; split <;> omega
theorem pl_all (c : List Int) : ∀ n, pl c n = true → ∀ k, k < n → emd (c.getD k 0) = false ∧ st (c.getD k 0) = false
  | 0, _, k, hk => by omega
  | n + 1, h, k, hk => by
    simp only [pl, Bool.and_eq_true] at h
    rcases Nat.lt_or_ge k n with h1 | h1
    · exact pl_all c n h.1 k h1
    · obtain rfl : k = n := by omega
      have h2 := h.2
      simp only [Bool.or_eq_true, decide_eq_true_eq, beq_iff_eq] at h2
      generalize c.getD k 0 = x at h2
      unfold emd st
      have e : ∀ a : Int, x ≠ a → (x == a) = false := fun a h => beq_eq_false_iff_ne.2 h
      rw [e 17 (by omega), e 15 (by omega), e 18 (by omega), e 16 (by omega), e 20 (by omega), e 21 (by omega), e 22 (by omega)]
      exact ⟨rfl, rfl⟩
section
variable {c : List Int} {base : Int} (hf : formed c) (hb0 : 0 ≤ base) (hb : base ≤ 125)
include hb0 hb in
theorem kn_eq : ∀ n, n ≤ c.length → kn c n = ((List.range n).filter (kp (lvs c base))).length
  | 0, _ => rfl
  | n + 1, hn => by
    have ih := kn_eq n (by omega)
    rw [List.range_succ, List.filter_append, List.length_append, ← ih]
    simp only [kn]
    have hk := kp_iff (c := c) hb0 hb (i := n) (by omega)
    by_cases h : Exp.rem (c.getD n 0) = true
    · rw [if_pos h]
      have : kp (lvs c base) n = false := by
        cases hq : kp (lvs c base) n with
        | false => rfl
        | true => rw [hk.1 hq] at h; simp at h
      simp [this]
    · rw [if_neg h]
      have : kp (lvs c base) n = true := hk.2 (by simpa using h)
      simp [this]
theorem one_head (hp : ∀ i, i < c.length → lv c base i = -1 ∨ lv c base i = base) (hb0 : 0 ≤ base) {i : Nat} (h : isH (lvs c base) i = true) : prv (lvs c base) i = none := by
  cases hq : prv (lvs c base) i with
  | none => rfl
  | some q =>
    exfalso
    have hne := isH_ne h hq
    obtain ⟨h1, h2, _⟩ := prv_some _ hq
    have hi := kp_lt (isH_kp h)
    rw [lvs_length] at hi
    have e1 := of_decide_eq_true (isH_kp h)
    have e2 := of_decide_eq_true h2
    rw [lvs_at c base i hi] at hne e1
    rw [lvs_at c base q (by omega)] at hne e2
    rcases hp i hi with h3 | h3 <;> rcases hp q (by omega) with h4 | h4 <;> omega
include hf hb0 hb in
theorem plain_seqs (hpl : pl c c.length = true) (hB : base = 0 ∨ base = 1) : (kn c c.length = 0 → seqList c base = []) ∧ (kn c c.length ≠ 0 → ∃ ps, seqList c base = [(ps, base, 1 + base, 1 + base)] ∧ ps.length = kn c c.length) := by
  have hall := pl_all c c.length hpl
  have hp := plain_lv (c := c) (base := base) hall
  rw [kn_eq hb0 hb c.length (Nat.le_refl _)]
  have hnone : ∀ i ∈ heads (lvs c base) c.length, prv (lvs c base) i = none := fun i hi => one_head hp hb0 (mem_heads.1 hi).2
  have hown : ∀ h, h < c.length → owned c h = false := fun h hh => by
    cases ho : owned c h with
    | false => rfl
    | true =>
      obtain ⟨i, h1, h2, _⟩ := (owned_iff hh).1 ho
      rw [(hall i (by omega)).2] at h2
      simp at h2
  constructor
  · intro h0
    have hno : ∀ j, j < c.length → kp (lvs c base) j = false := fun j hj => by
      cases hk : kp (lvs c base) j with
      | false => rfl
      | true =>
        have : j ∈ (List.range c.length).filter (kp (lvs c base)) := by simp [hj, hk]
        rw [List.eq_nil_of_length_eq_zero h0] at this
        simp at this
    have hh : heads (lvs c base) c.length = [] := List.eq_nil_iff_forall_not_mem.2 fun i hi => by
      obtain ⟨h1, h2⟩ := mem_heads.1 hi
      have := hno i h1
      rw [isH_kp h2] at this
      simp at this
    unfold seqList roots
    rw [hh]
    rfl
  · intro h0
    obtain ⟨j, hj⟩ := List.exists_mem_of_length_pos (Nat.pos_of_ne_zero h0)
    obtain ⟨hjl, hjk⟩ := List.mem_filter.1 hj
    rw [List.mem_range] at hjl
    have hH := hd_isH (j := j + 1) hjk (by omega)
    generalize hd (lvs c base) (j + 1) = h at hH
    have hhl : h < c.length := by have := kp_lt (isH_kp hH); rwa [lvs_length] at this
    have uniq : ∀ i, i < c.length → isH (lvs c base) i = true → i = h := fun i hi hiH => by
      have n1 := one_head hp hb0 hiH
      have n2 := one_head hp hb0 hH
      rcases Nat.lt_trichotomy i h with h1 | h1 | h1
      · have := prv_none _ n2 i h1; rw [isH_kp hiH] at this; simp at this
      · exact h1
      · have := prv_none _ n1 h h1; rw [isH_kp hH] at this; simp at this
    have hm : h ∈ heads (lvs c base) c.length := mem_heads.2 ⟨hhl, hH⟩
    have hhd : heads (lvs c base) c.length = [h] := by
      have hs := heads_sorted (lvs c base) c.length
      have hu : ∀ i ∈ heads (lvs c base) c.length, i = h := fun i hi => uniq i (mem_heads.1 hi).1 (mem_heads.1 hi).2
      cases hq : heads (lvs c base) c.length with
      | nil => rw [hq] at hm; simp at hm
      | cons a t =>
        rw [hq] at hs hu
        have ha := hu a (by simp)
        cases t with
        | nil => rw [ha]
        | cons b t =>
          have := (List.pairwise_cons.1 hs).1 b (by simp)
          have := hu b (by simp)
          omega
    have hroots : roots c base = [h] := by
      unfold roots
      rw [hhd]
      simp [hown h hhl]
    have hsn : succ c base h = none := by
      unfold succ
      rw [if_neg]
      intro hq
      have hlt : lst c base h < c.length := (mem_run.1 (last_mem hH hhl)).1
      rw [(hall _ hlt).2] at hq
      simp at hq
    obtain ⟨m, hm'⟩ : ∃ m, c.length = m + 1 := ⟨c.length - 1, by omega⟩
    have hpl2 : places c base c.length h = run (lvs c base) c.length h := by
      rw [hm']
      simp only [places]
      rw [hsn, hm']
      simp
    have hrun : run (lvs c base) c.length h = (List.range c.length).filter (kp (lvs c base)) := by
      unfold run
      refine List.filter_congr fun i hi => ?_
      rw [List.mem_range] at hi
      cases hk : kp (lvs c base) i with
      | false => rfl
      | true =>
        have h1 := hd_isH (j := i + 1) hk (by omega)
        have h2 := hd_le (lvs c base) (i + 1)
        rw [uniq _ (by omega) h1]
        simp
    refine ⟨places c base c.length h, ?_, by rw [hpl2, hrun]⟩
    unfold seqList
    rw [hroots]
    simp only [List.map_cons, List.map_nil, seqOf]
    have hne : places c base c.length h ≠ [] := by
      rw [hpl2]
      have := last_mem hH hhl
      intro e
      rw [e] at this
      simp at this
    have hle : (places c base c.length h).getLastD 0 ∈ places c base c.length h := by
      rw [List.getLastD_eq_getLast?, List.getLast?_eq_some_getLast hne]
      exact List.getLast_mem hne
    obtain ⟨g1, g2, _⟩ := (mem_places hf hb0 hb c.length h hH _).1 hle
    generalize (places c base c.length h).getLastD 0 = e at g1 g2
    have hlb : lv c base e = base := by
      have := of_decide_eq_true g2
      rw [lvs_at c base e g1] at this
      rcases hp e g1 with h3 | h3
      · omega
      · exact h3
    rw [hlb, keptB_same hp h (by omega), keptA_same hp, (hall e g1).2]
    have hsd : sideI base base = 1 + base := by rcases hB with rfl | rfl <;> decide
    simp [hsd]
end
end Go.Proofs.Yteldofimjklckaa.Run
