/- Isolates in plain Lean: which places are open ahead of a place, where an initiator's end lies, and how many isolates a place lies in. No program, no memory. -/
namespace Go.Proofs.Ythokljlalgclkaa.Iso

def st (x : Int) : Bool := x == 20 || x == 21 || x == 22
theorem st_ne {x : Int} (h : st x = true) : x ≠ 23 := by
  rintro rfl
  exact absurd h (by decide)
theorem st_iff (x : Int) : st x = true ↔ x = 20 ∨ x = 21 ∨ x = 22 := by
  simp [st, or_assoc]

/-- The open initiators ahead of place i, the last one first. -/
def R (c : List Int) : Nat → List Nat
  | 0 => []
  | i + 1 => if st (c.getD i 0) = true then i :: R c i else if c.getD i 0 = 23 then (R c i).tail else R c i

/-- Where n isolates end. -/
def par : Nat → List Int → Nat → Nat
  | _, [], off => off
  | n, x :: t, off => if st x = true then par (n + 1) t (off + 1) else if x = 23 then (if n ≤ 1 then off else par (n - 1) t (off + 1)) else par n t (off + 1)

def partner (c : List Int) (i : Nat) : Nat := par 1 (c.drop (i + 1)) (i + 1)

theorem par_ge : ∀ (l : List Int) (n off : Nat), off ≤ par n l off
  | [], n, off => by simp [par]
  | x :: t, n, off => by
    simp only [par]
    split
    · have := par_ge t (n + 1) (off + 1); omega
    · split
      · split
        · omega
        · have := par_ge t (n - 1) (off + 1); omega
      · have := par_ge t n (off + 1); omega
theorem par_le : ∀ (l : List Int) (n off : Nat), par n l off ≤ off + l.length
  | [], n, off => by simp [par]
  | x :: t, n, off => by
    simp only [par, List.length_cons]
    split
    · have := par_le t (n + 1) (off + 1); omega
    · split
      · split
        · omega
        · have := par_le t (n - 1) (off + 1); omega
      · have := par_le t n (off + 1); omega
theorem par_pdi : ∀ (l : List Int) (n off : Nat), par n l off < off + l.length → l.getD (par n l off - off) 0 = 23
  | [], n, off, h => by simp [par] at h
  | x :: t, n, off, h => by
    simp only [par, List.length_cons] at h ⊢
    split at h
    · rename_i h1
      have hg := par_ge t (n + 1) (off + 1)
      have ih := par_pdi t (n + 1) (off + 1) (by omega)
      rw [if_pos h1, show par (n + 1) t (off + 1) - off = (par (n + 1) t (off + 1) - (off + 1)) + 1 from by omega, List.getD_cons_succ]
      exact ih
    · rename_i h1
      rw [if_neg h1]
      split at h
      · rename_i h2
        rw [if_pos h2]
        split at h
        · rename_i h3
          rw [if_pos h3, Nat.sub_self, List.getD_cons_zero]
          exact h2
        · rename_i h3
          have hg := par_ge t (n - 1) (off + 1)
          have ih := par_pdi t (n - 1) (off + 1) (by omega)
          rw [if_neg h3, show par (n - 1) t (off + 1) - off = (par (n - 1) t (off + 1) - (off + 1)) + 1 from by omega, List.getD_cons_succ]
          exact ih
      · rename_i h2
        have hg := par_ge t n (off + 1)
        have ih := par_pdi t n (off + 1) (by omega)
        rw [if_neg h2, show par n t (off + 1) - off = (par n t (off + 1) - (off + 1)) + 1 from by omega, List.getD_cons_succ]
        exact ih

theorem drop_cons (c : List Int) (i : Nat) (h : i < c.length) : c.drop i = c.getD i 0 :: c.drop (i + 1) := by
  rw [List.drop_eq_getElem_cons h]
  simp [List.getD_eq_getElem?_getD, List.getElem?_eq_getElem h]

theorem partner_gt (c : List Int) (i : Nat) : i < partner c i := par_ge (c.drop (i + 1)) 1 (i + 1)
theorem partner_le (c : List Int) (i : Nat) (h : i < c.length) : partner c i ≤ c.length := by
  have := par_le (c.drop (i + 1)) 1 (i + 1)
  rw [List.length_drop] at this
  unfold partner
  omega
theorem partner_pdi (c : List Int) (i : Nat) (h : i < c.length) (hp : partner c i < c.length) : c.getD (partner c i) 0 = 23 := by
  have hg := partner_gt c i
  have := par_pdi (c.drop (i + 1)) 1 (i + 1) (by rw [List.length_drop]; unfold partner at hp; omega)
  unfold partner at hg hp ⊢
  simp only [List.getD_eq_getElem?_getD, List.getElem?_drop] at this ⊢
  rwa [show i + 1 + (par 1 (List.drop (i + 1) c) (i + 1) - (i + 1)) = par 1 (List.drop (i + 1) c) (i + 1) from by omega] at this

theorem R_par (c : List Int) : ∀ i, i ≤ c.length → ∀ p k, (R c i)[p]? = some k → partner c k = par (p + 1) (c.drop i) i
  | 0, _, p, k, h => by simp [R] at h
  | i + 1, hi, p, k, h => by
    have hd := drop_cons c i (by omega)
    have ih := R_par c i (by omega)
    simp only [R] at h
    by_cases h1 : st (c.getD i 0) = true
    · rw [if_pos h1] at h
      cases p with
      | zero =>
        simp only [List.getElem?_cons_zero, Option.some.injEq] at h
        subst h
        rfl
      | succ p =>
        rw [List.getElem?_cons_succ] at h
        rw [ih p k h, hd]
        simp only [par]
        rw [if_pos h1]
    · rw [if_neg h1] at h
      by_cases h2 : c.getD i 0 = 23
      · rw [if_pos h2, List.getElem?_tail] at h
        rw [ih (p + 1) k h, hd]
        simp only [par]
        rw [if_neg h1, if_pos h2, if_neg (by omega)]
        rfl
      · rw [if_neg h2] at h
        rw [ih p k h, hd]
        simp only [par]
        rw [if_neg h1, if_neg h2]

theorem R_lt (c : List Int) : ∀ i k, k ∈ R c i → k < i
  | 0, k, h => by simp [R] at h
  | i + 1, k, h => by
    have ih := R_lt c i
    simp only [R] at h
    split at h
    · rcases List.mem_cons.1 h with rfl | h
      · omega
      · have := ih k h; omega
    · split at h
      · have := ih k (List.mem_of_mem_tail h); omega
      · have := ih k h; omega
theorem R_st (c : List Int) : ∀ i k, k ∈ R c i → st (c.getD k 0) = true
  | 0, k, h => by simp [R] at h
  | i + 1, k, h => by
    have ih := R_st c i
    simp only [R] at h
    split at h
    · rename_i h1
      rcases List.mem_cons.1 h with rfl | h
      · exact h1
      · exact ih k h
    · split at h
      · exact ih k (List.mem_of_mem_tail h)
      · exact ih k h
theorem R_length (c : List Int) : ∀ i, (R c i).length ≤ i
  | 0 => by simp [R]
  | i + 1 => by
    have ih := R_length c i
    simp only [R]
    split
    · simp; omega
    · split
      · simp; omega
      · omega
theorem R_sorted (c : List Int) : ∀ i, (R c i).Pairwise (· > ·)
  | 0 => by simp [R]
  | i + 1 => by
    have ih := R_sorted c i
    simp only [R]
    split
    · exact List.Pairwise.cons (fun k hk => R_lt c i k hk) ih
    · split
      · exact ih.tail
      · exact ih

theorem R_top {c : List Int} {i k : Nat} {t : List Nat} (hi : i < c.length) (h : R c i = k :: t) (h2 : c.getD i 0 = 23) : partner c k = i := by
  have := R_par c i (by omega) 0 k (by rw [h]; rfl)
  rw [this, drop_cons c i hi]
  simp only [par]
  rw [if_neg (by rw [h2]; decide), if_pos h2, if_pos (by omega)]
theorem R_rest {c : List Int} {i k j : Nat} {t : List Nat} (hi : i < c.length) (h : R c i = k :: t) (h2 : c.getD i 0 = 23) (hj : j ∈ t) : i < partner c j := by
  obtain ⟨p, hp⟩ := List.mem_iff_getElem?.1 hj
  have := R_par c i (by omega) (p + 1) j (by rw [h, List.getElem?_cons_succ]; exact hp)
  rw [this, drop_cons c i hi]
  simp only [par]
  rw [if_neg (by rw [h2]; decide), if_pos h2, if_neg (by omega)]
  exact par_ge _ _ _
theorem R_ge {c : List Int} {i k : Nat} (hi : i ≤ c.length) (h : k ∈ R c i) : i ≤ partner c k := by
  obtain ⟨p, hp⟩ := List.mem_iff_getElem?.1 h
  rw [R_par c i hi p k hp]
  exact par_ge _ _ _
theorem R_gt {c : List Int} {i k : Nat} (hi : i < c.length) (h : k ∈ R c i) (h2 : c.getD i 0 ≠ 23) : i < partner c k := by
  obtain ⟨p, hp⟩ := List.mem_iff_getElem?.1 h
  rw [R_par c i (by omega) p k hp, drop_cons c i hi]
  simp only [par]
  split
  · exact par_ge _ _ _
  · exact par_ge _ _ _
theorem R_mem (c : List Int) : ∀ i, i ≤ c.length → ∀ k, k < i → st (c.getD k 0) = true → i ≤ partner c k → k ∈ R c i
  | 0, _, k, h, _, _ => by omega
  | i + 1, hi, k, hk, hs, hp => by
    have ih := R_mem c i (by omega) k
    simp only [R]
    by_cases e : k = i
    · subst e
      rw [if_pos hs]
      exact List.mem_cons_self
    · have hm := ih (by omega) hs (by omega)
      by_cases h1 : st (c.getD i 0) = true
      · rw [if_pos h1]
        exact List.mem_cons_of_mem _ hm
      · rw [if_neg h1]
        by_cases h2 : c.getD i 0 = 23
        · rw [if_pos h2]
          cases hR : R c i with
          | nil => rw [hR] at hm; simp at hm
          | cons a t =>
            rw [hR] at hm
            rcases List.mem_cons.1 hm with rfl | hm
            · have := R_top (by omega) hR h2
              omega
            · exact hm
        · rw [if_neg h2]
          exact hm
theorem R_iff {c : List Int} {i k : Nat} (hi : i ≤ c.length) : k ∈ R c i ↔ k < i ∧ st (c.getD k 0) = true ∧ i ≤ partner c k :=
  ⟨fun h => ⟨R_lt c i k h, R_st c i k h, R_ge hi h⟩, fun ⟨h1, h2, h3⟩ => R_mem c i hi k h1 h2 h3⟩

/-- Ahead of an initiator's end the initiator is open still, and what was open ahead of it lies beneath it. -/
theorem R_suffix (c : List Int) (k : Nat) (hs : st (c.getD k 0) = true) : ∀ j, k < j → j ≤ partner c k → j ≤ c.length → ∃ u, R c j = u ++ k :: R c k
  | 0, h, _, _ => by omega
  | j + 1, h, hp, hl => by
    by_cases e : k = j
    · subst e
      exact ⟨[], by simp only [R]; rw [if_pos hs]; rfl⟩
    · obtain ⟨u, hu⟩ := R_suffix c k hs j (by omega) (by omega) (by omega)
      simp only [R]
      by_cases h1 : st (c.getD j 0) = true
      · exact ⟨j :: u, by rw [if_pos h1, hu]; rfl⟩
      · rw [if_neg h1]
        by_cases h2 : c.getD j 0 = 23
        · rw [if_pos h2]
          cases u with
          | nil =>
            have := R_top (by omega) hu h2
            omega
          | cons a u => exact ⟨u, by rw [hu]; rfl⟩
        · exact ⟨u, by rw [if_neg h2, hu]⟩

/-- What a place belongs to. -/
def mate (l : List Nat) : Int := match l with
  | [] => -1
  | k :: _ => (k : Int)
def mtc (c : List Int) (i : Nat) : Int := if st (c.getD i 0) = true then (partner c i : Int) else if c.getD i 0 = 23 then mate (R c i) else (i : Int)
/-- In how many isolates it lies. -/
def dp (c : List Int) (i : Nat) : Int := if c.getD i 0 = 23 then (((R c i).length - 1 : Nat) : Int) else ((R c i).length : Int)
def mts (c : List Int) : List Int := (List.range c.length).map (mtc c)
def dps (c : List Int) : List Int := (List.range c.length).map (dp c)
theorem mts_length (c : List Int) : (mts c).length = c.length := by simp [mts]
theorem dps_length (c : List Int) : (dps c).length = c.length := by simp [dps]
theorem mts_get (c : List Int) (i : Nat) (h : i < c.length) : (mts c).getD i 0 = mtc c i := by simp [mts, List.getD_eq_getElem?_getD, h]
theorem dps_get (c : List Int) (i : Nat) (h : i < c.length) : (dps c).getD i 0 = dp c i := by simp [dps, List.getD_eq_getElem?_getD, h]
theorem ext_getD {l m : List Int} (hl : l.length = m.length) (h : ∀ j, j < l.length → l.getD j 0 = m.getD j 0) : l = m := by
  apply List.ext_getElem hl
  intro i h1 h2
  have := h i h1
  simpa [List.getD_eq_getElem?_getD, h1, h2] using this

/-- While places below i have been told: what is told of place j. -/
def cur (c : List Int) (i j : Nat) : Int := if st (c.getD j 0) = true then (if partner c j < i then (partner c j : Int) else (c.length : Int)) else mtc c j
theorem cur_end (c : List Int) (j : Nat) (h : j < c.length) : cur c c.length j = mtc c j := by
  unfold cur mtc
  split
  · have := partner_le c j h
    split
    · rfl
    · have : partner c j = c.length := by omega
      rw [this]
  · rfl

/-- Counting. -/
def cntP (p : Nat → Bool) : Nat → Nat
  | 0 => 0
  | j + 1 => if p j = true then cntP p j + 1 else cntP p j
theorem cntP_le (p : Nat → Bool) : ∀ j, cntP p j ≤ j
  | 0 => Nat.le_refl _
  | j + 1 => by
    have := cntP_le p j
    simp only [cntP]
    split <;> omega
theorem cntP_eq (p : Nat → Bool) : ∀ j (S : List Nat), S.Pairwise (· > ·) → (∀ k, k ∈ S ↔ k < j ∧ p k = true) → cntP p j = S.length
  | 0, S, _, h => by
    have : S = [] := List.eq_nil_iff_forall_not_mem.2 fun k hk => by have := (h k).1 hk; omega
    subst this
    rfl
  | j + 1, S, hs, h => by
    simp only [cntP]
    by_cases hp : p j = true
    · rw [if_pos hp]
      have hj : j ∈ S := (h j).2 ⟨by omega, hp⟩
      cases S with
      | nil => simp at hj
      | cons a t =>
        have ha := (h a).1 List.mem_cons_self
        have hat : ∀ x ∈ t, x < a := fun x hx => (List.pairwise_cons.1 hs).1 x hx
        have haj : a = j := by
          rcases List.mem_cons.1 hj with e | e
          · exact e.symm
          · have := hat j e; omega
        subst haj
        rw [cntP_eq p a t (List.pairwise_cons.1 hs).2 (fun k => ⟨fun hk => ⟨hat k hk, ((h k).1 (List.mem_cons_of_mem _ hk)).2⟩, fun hk => by
          rcases List.mem_cons.1 ((h k).2 ⟨by omega, hk.2⟩) with e | e
          · omega
          · exact e⟩)]
        rfl
    · rw [if_neg hp]
      refine cntP_eq p j S hs fun k => ⟨fun hk => ?_, fun hk => (h k).2 ⟨by omega, hk.2⟩⟩
      have := (h k).1 hk
      refine ⟨?_, this.2⟩
      rcases Nat.lt_or_ge k j with e | e
      · exact e
      · have : k = j := by omega
        subst this
        exact absurd this.2 hp
/-- The document's count is the depth. -/
theorem dp_cnt (c : List Int) (i : Nat) (hi : i < c.length) : dp c i = (cntP (fun k => st (c.getD k 0) && decide (i < partner c k)) i : Int) := by
  unfold dp
  by_cases h2 : c.getD i 0 = 23
  · rw [if_pos h2]
    cases hR : R c i with
    | nil =>
      rw [cntP_eq _ i [] List.Pairwise.nil (fun k => ⟨fun h => by simp at h, fun ⟨h, h'⟩ => by
        simp only [Bool.and_eq_true, decide_eq_true_eq] at h'
        have := R_mem c i (by omega) k h h'.1 (by omega)
        rw [hR] at this
        exact this⟩)]
      rfl
    | cons a t =>
      have hq : ∀ k, k ∈ t ↔ k < i ∧ (st (c.getD k 0) && decide (i < partner c k)) = true := by
        intro k
        refine ⟨fun h => ?_, fun ⟨h, h'⟩ => ?_⟩
        · have hm : k ∈ R c i := by rw [hR]; exact List.mem_cons_of_mem _ h
          exact ⟨R_lt c i k hm, by simp only [Bool.and_eq_true, decide_eq_true_eq]; exact ⟨R_st c i k hm, R_rest hi hR h2 h⟩⟩
        · simp only [Bool.and_eq_true, decide_eq_true_eq] at h'
          have := R_mem c i (by omega) k h h'.1 (by omega)
          rw [hR] at this
          rcases List.mem_cons.1 this with rfl | e
          · have := R_top hi hR h2
            omega
          · exact e
      rw [cntP_eq _ i t (by have := R_sorted c i; rw [hR] at this; exact this.tail) hq]
      simp
  · have hq : ∀ k, k ∈ R c i ↔ k < i ∧ (st (c.getD k 0) && decide (i < partner c k)) = true := by
      intro k
      refine ⟨fun h => ?_, fun ⟨h, h'⟩ => ?_⟩
      · exact ⟨R_lt c i k h, by simp only [Bool.and_eq_true, decide_eq_true_eq]; exact ⟨R_st c i k h, R_gt hi h h2⟩⟩
      · simp only [Bool.and_eq_true, decide_eq_true_eq] at h'
        exact R_mem c i (by omega) k h h'.1 (by omega)
    rw [if_neg h2, cntP_eq _ i (R c i) (R_sorted c i) hq]

/-- The last place below j that p has; -1: there is none. -/
def lastP (p : Nat → Bool) : Nat → Int
  | 0 => -1
  | j + 1 => if p j = true then (j : Int) else lastP p j
theorem lastP_none (p : Nat → Bool) : ∀ j, (∀ k, k < j → p k = false) → lastP p j = -1
  | 0, _ => rfl
  | j + 1, h => by
    simp only [lastP]
    rw [if_neg (by rw [h j (by omega)]; decide)]
    exact lastP_none p j fun k hk => h k (by omega)
theorem lastP_one (p : Nat → Bool) (k : Nat) (hp : p k = true) (h1 : ∀ m, p m = true → m = k) : ∀ j, k < j → lastP p j = (k : Int)
  | 0, h => by omega
  | j + 1, h => by
    simp only [lastP]
    by_cases e : p j = true
    · rw [if_pos e, h1 j e]
    · rw [if_neg e]
      refine lastP_one p k hp h1 j ?_
      rcases Nat.lt_or_ge k j with h' | h'
      · exact h'
      · have : k = j := by omega
        subst this
        exact absurd hp e
theorem mate_last (c : List Int) (i : Nat) (hi : i < c.length) (h2 : c.getD i 0 = 23) : lastP (fun k => st (c.getD k 0) && decide (partner c k = i)) i = mate (R c i) := by
  cases hR : R c i with
  | nil =>
    refine lastP_none _ i fun k hk => ?_
    rw [Bool.eq_false_iff]
    intro h
    simp only [Bool.and_eq_true, decide_eq_true_eq] at h
    have := R_mem c i (by omega) k hk h.1 (by omega)
    rw [hR] at this
    simp at this
  | cons a t =>
    have hm : a ∈ R c i := by rw [hR]; exact List.mem_cons_self
    refine lastP_one _ a ?_ ?_ i (R_lt c i a hm)
    · simp only [Bool.and_eq_true, decide_eq_true_eq]
      exact ⟨R_st c i a hm, R_top hi hR h2⟩
    · intro m h
      simp only [Bool.and_eq_true, decide_eq_true_eq] at h
      have hmi : m < i := by have := partner_gt c m; omega
      have := R_mem c i (by omega) m hmi h.1 (by omega)
      rw [hR] at this
      rcases List.mem_cons.1 this with e | e
      · exact e
      · have := R_rest hi hR h2 e
        omega

/-- The base direction: n isolates are open. -/
def bs : List Int → Nat → Int
  | [], _ => 0
  | x :: t, n => if st x = true then bs t (n + 1) else if x = 23 then bs t (n - 1) else if n = 0 ∧ x = 1 then 0 else if n = 0 ∧ (x = 2 ∨ x = 3) then 1 else bs t n
theorem bs_par : ∀ (l : List Int) (n off : Nat), 1 ≤ n → bs l n = bs (l.drop (par n l off - off)) 0
  | [], n, off, _ => by simp [bs]
  | x :: t, n, off, hn => by
    simp only [par]
    by_cases h1 : st x = true
    · have hg := par_ge t (n + 1) (off + 1)
      rw [if_pos h1, show par (n + 1) t (off + 1) - off = (par (n + 1) t (off + 1) - (off + 1)) + 1 from by omega, List.drop_succ_cons, ← bs_par t (n + 1) (off + 1) (by omega)]
      simp only [bs]
      rw [if_pos h1]
    · rw [if_neg h1]
      by_cases h2 : x = 23
      · rw [if_pos h2]
        by_cases h3 : n ≤ 1
        · rw [if_pos h3, Nat.sub_self, List.drop_zero]
          simp only [bs]
          rw [if_neg h1, if_pos h2, if_neg h1, if_pos h2, show n - 1 = 0 - 1 from by omega]
        · have hg := par_ge t (n - 1) (off + 1)
          rw [if_neg h3, show par (n - 1) t (off + 1) - off = (par (n - 1) t (off + 1) - (off + 1)) + 1 from by omega, List.drop_succ_cons, ← bs_par t (n - 1) (off + 1) (by omega)]
          simp only [bs]
          rw [if_neg h1, if_pos h2]
      · have hg := par_ge t n (off + 1)
        rw [if_neg h2, show par n t (off + 1) - off = (par n t (off + 1) - (off + 1)) + 1 from by omega, List.drop_succ_cons, ← bs_par t n (off + 1) hn]
        simp only [bs]
        rw [if_neg h1, if_neg h2, if_neg (by omega), if_neg (by omega)]
theorem bs_skip (c : List Int) (i : Nat) (hi : i < c.length) (hs : st (c.getD i 0) = true) : bs (c.drop i) 0 = bs (c.drop (partner c i)) 0 := by
  have hg := partner_gt c i
  rw [drop_cons c i hi]
  simp only [bs]
  rw [if_pos hs, bs_par (c.drop (i + 1)) (0 + 1) (i + 1) (by omega), List.drop_drop]
  unfold partner at hg ⊢
  rw [show i + 1 + (par (0 + 1) (List.drop (i + 1) c) (i + 1) - (i + 1)) = par 1 (List.drop (i + 1) c) (i + 1) from by simp only [Nat.zero_add]; omega]
theorem bs_range (l : List Int) : ∀ n, bs l n = 0 ∨ bs l n = 1 := by
  induction l with
  | nil => intro n; exact .inl rfl
  | cons x t ih =>
    intro n
    simp only [bs]
    split
    · exact ih _
    · split
      · exact ih _
      · split
        · exact .inl rfl
        · split
          · exact .inr rfl
          · exact ih _

/-- An initiator is the last one open at its end. -/
theorem R_at {c : List Int} {i : Nat} (hi : i < c.length) (hs : st (c.getD i 0) = true) (hp : partner c i < c.length) : R c (partner c i) = i :: R c i := by
  have h2 := partner_pdi c i hi hp
  obtain ⟨u, hu⟩ := R_suffix c i hs (partner c i) (partner_gt c i) (Nat.le_refl _) (by omega)
  cases u with
  | nil => exact hu
  | cons a u =>
    have := R_rest hp hu h2 (j := i) (by simp)
    omega
theorem dp_inside {c : List Int} {i j : Nat} (hs : st (c.getD i 0) = true) (hij : i < j) (hj : j < partner c i) (hl : j < c.length) : dp c i < dp c j := by
  obtain ⟨u, hu⟩ := R_suffix c i hs j hij (by omega) (by omega)
  unfold dp
  rw [if_neg (st_ne hs)]
  by_cases h2 : c.getD j 0 = 23
  · rw [if_pos h2]
    cases u with
    | nil =>
      have := R_top hl hu h2
      omega
    | cons a u =>
      rw [hu]
      simp
      omega
  · rw [if_neg h2, hu]
    simp
    omega

theorem bs_hide (c y : List Int) (hl : y.length = c.length)
    (hy : ∀ j, j < c.length → y.getD j 0 = c.getD j 0 ∨ 0 < dp c j ∧ ¬ st (c.getD j 0) = true ∧ c.getD j 0 ≠ 23 ∧ ¬ st (y.getD j 0) = true ∧ y.getD j 0 ≠ 23) :
    ∀ d i, i + d = c.length → bs (y.drop i) (R c i).length = bs (c.drop i) (R c i).length := by
  intro d
  induction d with
  | zero =>
    intro i hi
    rw [List.drop_eq_nil_of_le (by omega), List.drop_eq_nil_of_le (by omega)]
  | succ d ih =>
    intro i hi
    have ih := ih (i + 1) (by omega)
    have hstep : R c (i + 1) = if st (c.getD i 0) = true then i :: R c i else if c.getD i 0 = 23 then (R c i).tail else R c i := rfl
    rw [drop_cons c i (by omega), drop_cons y i (by omega)]
    simp only [bs]
    rcases hy i (by omega) with e | ⟨hd, h1, h2, h3, h4⟩
    · rw [e]
      by_cases h1 : st (c.getD i 0) = true
      · rw [if_pos h1, if_pos h1]
        rw [if_pos h1] at hstep
        rw [hstep, List.length_cons] at ih
        exact ih
      · rw [if_neg h1, if_neg h1]
        rw [if_neg h1] at hstep
        by_cases h2 : c.getD i 0 = 23
        · rw [if_pos h2, if_pos h2]
          rw [if_pos h2] at hstep
          rw [hstep, List.length_tail] at ih
          exact ih
        · rw [if_neg h2, if_neg h2]
          rw [if_neg h2] at hstep
          rw [hstep] at ih
          rw [ih]
    · unfold dp at hd
      rw [if_neg h2] at hd
      rw [if_neg h1, if_neg h2] at hstep
      rw [hstep] at ih
      rw [if_neg h1, if_neg h2, if_neg h3, if_neg h4, if_neg (by omega), if_neg (by omega), if_neg (by omega), if_neg (by omega)]
      exact ih

/-! ### One stretch behind another -/
theorem getD_left {a b : List Int} {i : Nat} (h : i < a.length) : (a ++ b).getD i 0 = a.getD i 0 := by
  simp [List.getD_eq_getElem?_getD, List.getElem?_append_left h]
theorem getD_right {a b : List Int} (j : Nat) : (a ++ b).getD (a.length + j) 0 = b.getD j 0 := by
  simp [List.getD_eq_getElem?_getD, List.getElem?_append_right]
theorem R_left (a b : List Int) : ∀ i, i ≤ a.length → R (a ++ b) i = R a i
  | 0, _ => rfl
  | i + 1, h => by
    simp only [R]
    rw [R_left a b i (by omega), getD_left (by omega)]
theorem par_left : ∀ (l m : List Int) (n off : Nat), par n l off < off + l.length → par n (l ++ m) off = par n l off
  | [], m, n, off, h => by simp [par] at h
  | x :: t, m, n, off, h => by
    simp only [par, List.length_cons, List.cons_append] at h ⊢
    by_cases h1 : st x = true
    · rw [if_pos h1] at h ⊢
      rw [if_pos h1]
      exact par_left t m (n + 1) (off + 1) (by omega)
    · rw [if_neg h1] at h ⊢
      rw [if_neg h1]
      by_cases h2 : x = 23
      · rw [if_pos h2] at h ⊢
        rw [if_pos h2]
        by_cases h3 : n ≤ 1
        · rw [if_pos h3, if_pos h3]
        · rw [if_neg h3] at h ⊢
          rw [if_neg h3]
          exact par_left t m (n - 1) (off + 1) (by omega)
      · rw [if_neg h2] at h ⊢
        rw [if_neg h2]
        exact par_left t m n (off + 1) (by omega)
theorem partner_left {a b : List Int} {i : Nat} (hi : i < a.length) (hp : partner a i < a.length) : partner (a ++ b) i = partner a i := by
  unfold partner at hp ⊢
  rw [List.drop_append_of_le_length (by omega)]
  exact par_left _ _ _ _ (by rw [List.length_drop]; omega)
theorem par_shift : ∀ (l : List Int) (n off d : Nat), par n l (off + d) = par n l off + d
  | [], n, off, d => rfl
  | x :: t, n, off, d => by
    have e : off + d + 1 = (off + 1) + d := by omega
    simp only [par, e, par_shift t]
    split
    · rfl
    · split
      · split <;> rfl
      · rfl
theorem partner_right (a b : List Int) (j : Nat) : partner (a ++ b) (a.length + j) = a.length + partner b j := by
  unfold partner
  rw [show a.length + j + 1 = a.length + (j + 1) from by omega, List.drop_append, Nat.add_comm a.length (j + 1), par_shift, Nat.add_comm a.length, List.drop_eq_nil_of_le (by omega), List.nil_append, show j + 1 + a.length - a.length = j + 1 from by omega]
theorem R_right (a b : List Int) (h0 : R a a.length = []) : ∀ j, R (a ++ b) (a.length + j) = (R b j).map (· + a.length)
  | 0 => by
    rw [Nat.add_zero, R_left a b a.length (Nat.le_refl _), h0]
    rfl
  | j + 1 => by
    rw [show a.length + (j + 1) = (a.length + j) + 1 from by omega]
    simp only [R]
    rw [R_right a b h0 j, getD_right]
    split
    · simp [Nat.add_comm]
    · split
      · rw [List.map_tail]
      · rfl
theorem R_end (a : List Int) (h : ∀ i, i < a.length → st (a.getD i 0) = true → partner a i ≠ a.length) : R a a.length = [] := by
  rw [List.eq_nil_iff_forall_not_mem]
  intro k hk
  have h1 := R_lt a _ k hk
  have h2 := R_ge (Nat.le_refl _) hk
  have h3 := partner_le a k h1
  exact h k h1 (R_st a _ k hk) (by omega)
theorem mt_left {a b : List Int} (h : ∀ i, i < a.length → st (a.getD i 0) = true → partner a i ≠ a.length) {i : Nat} (hi : i < a.length) : mtc (a ++ b) i = mtc a i := by
  unfold mtc
  rw [getD_left hi, R_left a b i (by omega)]
  by_cases h1 : st (a.getD i 0) = true
  · have := partner_le a i hi
    have := h i hi h1
    rw [if_pos h1, if_pos h1, partner_left hi (by omega)]
  · rw [if_neg h1, if_neg h1]
theorem mt_right {a b : List Int} (h0 : R a a.length = []) {j : Nat} (hj : b.getD j 0 = 23 → 0 ≤ mtc b j) : mtc (a ++ b) (a.length + j) = (a.length : Int) + mtc b j := by
  unfold mtc at hj ⊢
  rw [getD_right, R_right a b h0 j, partner_right]
  by_cases h1 : st (b.getD j 0) = true
  · rw [if_pos h1, if_pos h1]
    omega
  · rw [if_neg h1, if_neg h1]
    rw [if_neg h1] at hj
    by_cases h2 : b.getD j 0 = 23
    · rw [if_pos h2, if_pos h2]
      have hj := hj h2
      rw [if_pos h2] at hj
      cases hR : R b j with
      | nil => rw [hR] at hj; simp [mate] at hj
      | cons k t =>
        simp only [List.map_cons, mate]
        omega
    · rw [if_neg h2, if_neg h2]
      omega
/-- How many isolates are open behind a stretch. -/
def nf : List Int → Nat → Nat
  | [], n => n
  | x :: t, n => if st x = true then nf t (n + 1) else if x = 23 then nf t (n - 1) else nf t n
theorem nf_R (c : List Int) : ∀ d i, i + d = c.length → nf (c.drop i) (R c i).length = (R c c.length).length := by
  intro d
  induction d with
  | zero =>
    intro i hi
    rw [List.drop_eq_nil_of_le (by omega), show i = c.length by omega]
    rfl
  | succ d ih =>
    intro i hi
    have ih := ih (i + 1) (by omega)
    have hstep : R c (i + 1) = if st (c.getD i 0) = true then i :: R c i else if c.getD i 0 = 23 then (R c i).tail else R c i := rfl
    rw [drop_cons c i (by omega)]
    simp only [nf]
    by_cases h1 : st (c.getD i 0) = true
    · rw [if_pos h1] at hstep ⊢
      rw [hstep, List.length_cons] at ih
      exact ih
    · rw [if_neg h1] at hstep ⊢
      by_cases h2 : c.getD i 0 = 23
      · rw [if_pos h2] at hstep ⊢
        rw [hstep, List.length_tail] at ih
        exact ih
      · rw [if_neg h2] at hstep ⊢
        rw [hstep] at ih
        exact ih
theorem bs_append (b : List Int) : ∀ (l : List Int) (n : Nat), (bs l n = 1 → bs (l ++ b) n = 1) ∧ (bs (l ++ b) n = bs l n ∨ bs (l ++ b) n = bs b (nf l n))
  | [], n => ⟨fun h => by simp [bs] at h, .inr rfl⟩
  | x :: t, n => by
    simp only [bs, nf, List.cons_append]
    by_cases h1 : st x = true
    · simp only [if_pos h1]
      exact bs_append b t (n + 1)
    · simp only [if_neg h1]
      by_cases h2 : x = 23
      · simp only [if_pos h2]
        exact bs_append b t (n - 1)
      · simp only [if_neg h2]
        by_cases h3 : n = 0 ∧ x = 1
        · simp only [if_pos h3]
          exact ⟨fun h => h, .inl trivial⟩
        · simp only [if_neg h3]
          by_cases h4 : n = 0 ∧ (x = 2 ∨ x = 3)
          · simp only [if_pos h4]
            exact ⟨fun h => h, .inl trivial⟩
          · simp only [if_neg h4]
            exact bs_append b t n
theorem bs_join (a b : List Int) (h0 : R a a.length = []) : (bs a 0 = 1 → bs (a ++ b) 0 = 1) ∧ (bs (a ++ b) 0 = bs a 0 ∨ bs (a ++ b) 0 = bs b 0) := by
  have := bs_append b a 0
  have hn := nf_R a a.length 0 (by omega)
  rw [h0] at hn
  have hn' : nf a 0 = 0 := hn
  rwa [hn'] at this

/-! ### As many ends as there are initiators without one -/
theorem par_reps : ∀ (u p off : Nat), p < u → par (p + 1) (List.replicate u 23) off = off + p
  | 0, p, off, h => by omega
  | u + 1, p, off, h => by
    simp only [List.replicate_succ, par]
    rw [if_neg (by decide), if_pos trivial]
    by_cases e : p + 1 ≤ 1
    · rw [if_pos e]
      omega
    · obtain ⟨q, rfl⟩ : ∃ q, p = q + 1 := ⟨p - 1, by omega⟩
      rw [if_neg e, show q + 1 + 1 - 1 = q + 1 from rfl, par_reps u q (off + 1) (by omega)]
      omega
theorem R_reps (c : List Int) (u : Nat) : ∀ t, t ≤ u → R (c ++ List.replicate u 23) (c.length + t) = (R c c.length).drop t
  | 0, _ => by
    rw [Nat.add_zero, R_left c _ c.length (Nat.le_refl _)]
    rfl
  | t + 1, h => by
    rw [show c.length + (t + 1) = (c.length + t) + 1 from by omega]
    simp only [R]
    have e : (c ++ List.replicate u 23).getD (c.length + t) 0 = 23 := by
      rw [getD_right]
      simp [List.getD_eq_getElem?_getD, show t < u by omega]
    rw [e, if_neg (by decide), if_pos rfl, R_reps c u t (by omega), List.tail_drop]
theorem shut_open (c : List Int) {i : Nat} (hi : i < c.length) (hs : st (c.getD i 0) = true) (hp : partner c i = c.length) :
    c.length ≤ partner (c ++ List.replicate (R c c.length).length 23) i ∧ partner (c ++ List.replicate (R c c.length).length 23) i < c.length + (R c c.length).length := by
  have hm := R_mem c c.length (Nat.le_refl _) i hi hs (by omega)
  obtain ⟨p, hpk⟩ := List.mem_iff_getElem?.1 hm
  have hlt := (List.getElem?_eq_some_iff.1 hpk).1
  have := R_par (c ++ List.replicate (R c c.length).length 23) c.length (by simp) p i (by rw [R_left c _ _ (Nat.le_refl _)]; exact hpk)
  rw [this, List.drop_left, par_reps _ p _ hlt]
  omega
end Go.Proofs.Ythokljlalgclkaa.Iso
