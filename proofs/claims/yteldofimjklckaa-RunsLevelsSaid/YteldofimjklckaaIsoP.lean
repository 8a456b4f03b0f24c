/- What the program's Match and Base come to, in the words of plain Lean (Iso). -/
import Derived.Test.YteldofimjklckaaX2
import Derived.Test.YteldofimjklckaaX3
import Derived.Test.YteldofimjklckaaRunM
namespace Go.Proofs.Yteldofimjklckaa.Iso
open Go.RowKit Go.Proofs.Yteldofimjklckaa.X Go.Proofs.YteldofimjklckaaW.PrintWords Go.Proofs.YteldofimjklckaaW.PrintLast

theorem ev_succ {α : Type} {g : Nat → Option α} {r : α} (h : Ev (fun k => g (k + 1)) r) : Ev g r := Ev.step (fun _ => rfl) h
theorem ev_bind {α β : Type} {g : Nat → Option α} {f : Nat → α → Option β} {a : α} {r : β} (h : Ev g a) (k : Ev (fun n => f n a) r) : Ev (fun n => (g n).bind (f n)) r := Ev.bind h k
theorem w64 {i : Nat} (h : i < 9223372036854775807) : wrap64 ((i : Int) + 1) = ((i + 1 : Nat) : Int) := by
  unfold wrap64
  omega
theorem w64' {i : Int} (h0 : -9223372036854775808 ≤ i) (h : i ≤ 9223372036854775807) : wrap64 i = i := by
  unfold wrap64
  omega
theorem rd_nat (xs : List Int) (i : Nat) : rd xs (i : Int) = xs.getD i 0 := by
  unfold rd
  rw [Int.toNat_natCast]

theorem starts_eq (x : Int) : isolate_starts.f x = some (st x) := by
  by_cases h1 : x = 20 <;> by_cases h2 : x = 21 <;> by_cases h3 : x = 22 <;> simp [isolate_starts.f, st, h1, h2, h3]
/-! ### The program's Match -/
def ro (l : List Nat) : List Int := l.reverse.map Int.ofNat
theorem ro_cons (k : Nat) (t : List Nat) : ro (k :: t) = ro t ++ [(k : Int)] := by simp [ro]
theorem ro_length (l : List Nat) : (ro l).length = l.length := by simp [ro]

theorem set_cur (c : List Int) (i : Nat) (x3 : List Int) (v : Int) (h3 : x3.length = c.length) (hi : i < c.length) (hx : ∀ j, j < i → x3.getD j 0 = cur c i j)
    (hkeep : ∀ j, j < i → cur c (i + 1) j = cur c i j) (hv : v = cur c (i + 1) i) (y : List Int) (hy : y = x3.set i v) : y.length = c.length ∧ ∀ j, j < i + 1 → y.getD j 0 = cur c (i + 1) j := by
  subst hy
  refine ⟨by rw [List.length_set]; exact h3, fun j hj => ?_⟩
  rw [List.getD_eq_getElem?_getD, List.getElem?_set]
  by_cases e : i = j
  · subst e
    rw [if_pos rfl, if_pos (by omega), Option.getD_some, hv]
  · rw [if_neg e, ← List.getD_eq_getElem?_getD, hx j (by omega), hkeep j (by omega)]

theorem Match_l0 (c : List Int) (hb : c.length ≤ 17592186043904) : ∀ (d i : Nat) (x3 : List Int), i + d = c.length → x3.length = c.length → (∀ j, j < i → x3.getD j 0 = cur c i j) →
    Ev (fun k => isolate_Match.l0 k c x3 (ro (R c i)) c (c.length : Int) (i : Int)) (mts c) := by
  intro d
  induction d with
  | zero =>
    intro i x3 hi h3 hx
    refine ev_succ ?_
    simp only [isolate_Match.l0]
    simp only [if_neg (show ¬ (i : Int) < (c.length : Int) by omega)]
    have : x3 = mts c := ext_getD (by rw [h3, mts_length]) fun j hj => by
      have hi' : i = c.length := by omega
      rw [hx j (by omega), hi', cur_end c j (by omega), mts_get c j (by omega)]
    rw [this]
    exact Ev.now _
  | succ d ih =>
    intro i x3 hi h3 hx
    have hic : i < c.length := by omega
    refine ev_succ ?_
    simp only [isolate_Match.l0]
    simp only [if_pos (show (i : Int) < (c.length : Int) by omega), if_pos (Int.natCast_nonneg i), if_pos (show (i : Int) < (x3.length : Int) by omega), Option.bind_some, starts_eq, rd_nat, Int.toNat_natCast, w64 (show i < 9223372036854775807 by omega)]
    have hstep : R c (i + 1) = if st (c.getD i 0) = true then i :: R c i else if c.getD i 0 = 23 then (R c i).tail else R c i := rfl
    have hRl := R_length c i
    by_cases h1 : st (c.getD i 0) = true
    · simp only [if_pos h1, if_pos (show (ro (R c i)).length < 17592186044416 by rw [ro_length]; omega)]
      rw [if_pos h1] at hstep
      have hk : ∀ j, j < i → cur c (i + 1) j = cur c i j := fun j hj => by
        unfold cur
        have : partner c j ≠ i := fun e => by
          have := partner_pdi c j (by omega) (by omega)
          rw [e] at this
          exact st_ne h1 this
        by_cases h : st (c.getD j 0) = true
        · rw [if_pos h, if_pos h]
          by_cases h' : partner c j < i
          · rw [if_pos h', if_pos (by omega)]
          · rw [if_neg h', if_neg (by omega)]
        · rw [if_neg h, if_neg h]
      have hg := partner_gt c i
      obtain ⟨hl, hy⟩ := set_cur c i x3 (c.length : Int) h3 hic hx hk (by unfold cur; rw [if_pos h1, if_neg (by omega)]) ((x3.set i (i : Int)).set i (c.length : Int)) (by rw [List.set_set])
      have := ih (i + 1) _ (by omega) hl hy
      rw [hstep, ro_cons] at this
      exact this
    · simp only [if_neg h1]
      rw [if_neg h1] at hstep
      by_cases h2 : c.getD i 0 = 23
      · simp only [if_pos h2]
        rw [if_pos h2] at hstep
        refine ev_succ ?_
        simp only [isolate_Match.j1]
        have hset : ((x3.set i (i : Int)).length : Int) = (c.length : Int) := by rw [List.length_set, h3]
        cases hR : R c i with
        | nil =>
          simp only [ro, List.reverse_nil, List.map_nil, List.length_nil, show (((0 : Nat) : Int) == 0) = true from rfl, if_true, if_pos (Int.natCast_nonneg i), if_pos (show (i : Int) < ((x3.set i (i : Int)).length : Int) by omega), Int.toNat_natCast, w64 (show i < 9223372036854775807 by omega)]
          have hk : ∀ j, j < i → cur c (i + 1) j = cur c i j := fun j hj => by
            unfold cur
            by_cases h : st (c.getD j 0) = true
            · have : ¬ i ≤ partner c j := fun e => by
                have := R_mem c i (by omega) j hj h e
                rw [hR] at this
                simp at this
              rw [if_pos h, if_pos h, if_pos (by omega), if_pos (by omega)]
            · rw [if_neg h, if_neg h]
          obtain ⟨hl, hy⟩ := set_cur c i x3 (-1) h3 hic hx hk (by unfold cur mtc; rw [if_neg h1, if_neg h1, if_pos h2, hR]; rfl) ((x3.set i (i : Int)).set i (-1)) (by rw [List.set_set])
          have := ih (i + 1) _ (by omega) hl hy
          rw [hstep, hR] at this
          exact this
        | cons a t =>
          have ham : a ∈ R c i := by rw [hR]; exact List.mem_cons_self
          have hai := R_lt c i a ham
          have hlen : ((ro (a :: t)).length : Int) = (t.length : Int) + 1 := by rw [ro_length]; simp
          rw [hR] at hRl
          simp only [List.length_cons] at hRl
          have hw : wrap64 (((ro (a :: t)).length : Int) - 1) = ((t.length : Nat) : Int) := by rw [hlen, w64' (by omega) (by omega)]; omega
          have hrd : rd (ro (a :: t)) ((t.length : Nat) : Int) = (a : Int) := by
            rw [rd_nat, ro_cons, List.getD_eq_getElem?_getD, List.getElem?_append_right (by rw [ro_length]; exact Nat.le_refl _), ro_length, Nat.sub_self]
            rfl
          have htk : (ro (a :: t)).take t.length = ro t := by
            rw [ro_cons, List.take_append_of_le_length (by rw [ro_length]; exact Nat.le_refl _), List.take_of_length_le (by rw [ro_length]; exact Nat.le_refl _)]
          have h0 : (((ro (a :: t)).length : Int) == 0) = false := by
            rw [beq_eq_false_iff_ne, hlen]
            omega
          simp only [h0, Bool.false_eq_true, if_false, if_pos h2, hw, hrd, htk, if_pos (Int.natCast_nonneg t.length), if_pos (show ((t.length : Nat) : Int) < ((ro (a :: t)).length : Int) by omega), if_pos (show ((t.length : Nat) : Int) ≤ ((ro (a :: t)).length : Int) by omega), if_pos (Int.natCast_nonneg i), if_pos (Int.natCast_nonneg a), if_pos (show (i : Int) < ((x3.set i (i : Int)).length : Int) by omega), if_pos (show (a : Int) < ((x3.set i (i : Int)).length : Int) by omega), Int.toNat_natCast, w64 (show i < 9223372036854775807 by omega)]
          have hpa := R_top hic hR h2
          have hy : ∀ j, j < i + 1 → (((x3.set i (i : Int)).set i (a : Int)).set a (i : Int)).getD j 0 = cur c (i + 1) j := fun j hj => by
            rw [List.getD_eq_getElem?_getD, List.getElem?_set]
            by_cases e : a = j
            · subst e
              rw [if_pos rfl, if_pos (by rw [List.length_set, List.length_set]; omega), Option.getD_some]
              unfold cur
              rw [if_pos (R_st c i a ham), if_pos (by omega), hpa]
            · rw [if_neg e, List.set_set, List.getElem?_set]
              by_cases e' : i = j
              · subst e'
                rw [if_pos rfl, if_pos (by omega), Option.getD_some]
                unfold cur mtc
                rw [if_neg h1, if_neg h1, if_pos h2, hR]
                rfl
              · rw [if_neg e', ← List.getD_eq_getElem?_getD, hx j (by omega)]
                unfold cur
                by_cases h : st (c.getD j 0) = true
                · have : partner c j ≠ i := fun e'' => by
                    have := R_mem c i (by omega) j (by omega) h (by omega)
                    rw [hR] at this
                    rcases List.mem_cons.1 this with e3 | e3
                    · exact e e3.symm
                    · have := R_rest hic hR h2 e3
                      omega
                  rw [if_pos h, if_pos h]
                  by_cases h' : partner c j < i
                  · rw [if_pos h', if_pos (by omega)]
                  · rw [if_neg h', if_neg (by omega)]
                · rw [if_neg h, if_neg h]
          have := ih (i + 1) _ (by omega) (by rw [List.length_set, List.length_set, List.length_set]; exact h3) hy
          rw [hstep, hR] at this
          exact this
      · simp only [if_neg h2]
        rw [if_neg h2] at hstep
        refine ev_succ ?_
        simp only [isolate_Match.j1]
        simp only [Bool.false_eq_true, if_false, if_neg h2, w64 (show i < 9223372036854775807 by omega)]
        have hk : ∀ j, j < i → cur c (i + 1) j = cur c i j := fun j hj => by
          unfold cur
          have : partner c j ≠ i := fun e => by
            have := partner_pdi c j (by omega) (by omega)
            rw [e] at this
            exact h2 this
          by_cases h : st (c.getD j 0) = true
          · rw [if_pos h, if_pos h]
            by_cases h' : partner c j < i
            · rw [if_pos h', if_pos (by omega)]
            · rw [if_neg h', if_neg (by omega)]
          · rw [if_neg h, if_neg h]
        obtain ⟨hl, hy⟩ := set_cur c i x3 (i : Int) h3 hic hx hk (by unfold cur mtc; rw [if_neg h1, if_neg h1, if_neg h2]) (x3.set i (i : Int)) rfl
        have := ih (i + 1) _ (by omega) hl hy
        rw [hstep] at this
        exact this
theorem Match_ev (c : List Int) (hb : c.length ≤ 17592186043904) : Ev (fun k => isolate_Match.f k c) (mts c) := by
  simp only [isolate_Match.f]
  simp only [if_pos (Int.natCast_nonneg c.length), Int.toNat_natCast, if_pos (show c.length ≤ 35184372088832 by omega)]
  exact Match_l0 c hb c.length 0 _ (by omega) (by simp) (fun j hj => by omega)

/-! ### The program's Base -/
theorem Base_l0 (y : List Int) (hb : y.length ≤ 17592186043904) : ∀ (d i n : Nat), i + d = y.length → n ≤ i → Ev (fun k => isolate_Base.l0 k 0 (n : Int) y (y.length : Int) (i : Int)) (bs (y.drop i) n, 0) := by
  intro d
  induction d with
  | zero =>
    intro i n hi hn
    refine ev_succ ?_
    simp only [isolate_Base.l0]
    simp only [if_neg (show ¬ (i : Int) < (y.length : Int) by omega)]
    rw [List.drop_eq_nil_of_le (by omega)]
    exact Ev.now _
  | succ d ih =>
    intro i n hi hn
    have hic : i < y.length := by omega
    refine ev_succ ?_
    simp only [isolate_Base.l0]
    simp only [if_pos (show (i : Int) < (y.length : Int) by omega), if_pos (Int.natCast_nonneg i), rd_nat]
    rw [drop_cons y i hic]
    simp only [bs]
    have hj : Ev (fun k => isolate_Base.j2 k 0 (n : Int) y (y.length : Int) (i : Int) (y.getD i 0) (st (y.getD i 0))) (if st (y.getD i 0) = true then bs (y.drop (i + 1)) (n + 1) else if y.getD i 0 = 23 then bs (y.drop (i + 1)) (n - 1) else if n = 0 ∧ y.getD i 0 = 1 then 0 else if n = 0 ∧ (y.getD i 0 = 2 ∨ y.getD i 0 = 3) then 1 else bs (y.drop (i + 1)) n, 0) := by
      refine ev_succ ?_
      simp only [isolate_Base.j2]
      by_cases h1 : st (y.getD i 0) = true
      · simp only [if_pos h1, w64 (show n < 9223372036854775807 by omega), w64 (show i < 9223372036854775807 by omega)]
        exact ih (i + 1) (n + 1) (by omega) (by omega)
      · simp only [if_neg h1]
        by_cases h2 : y.getD i 0 = 23
        · have hm : mx 0 (wrap64 ((n : Int) - 1)) = ((n - 1 : Nat) : Int) := by
            rw [w64' (by omega) (by omega)]
            unfold mx
            split <;> omega
          simp only [if_pos h2, hm, w64 (show i < 9223372036854775807 by omega)]
          exact ih (i + 1) (n - 1) (by omega) (by omega)
        · simp only [if_neg h2]
          by_cases h3 : y.getD i 0 = 1
          · simp only [if_pos h3]
            by_cases hz : n = 0
            · simp only [if_pos (show (n : Int) = 0 by omega), if_pos (And.intro hz h3)]
              exact Ev.now _
            · simp only [if_neg (show ¬ (n : Int) = 0 by omega), if_neg (show ¬ (n = 0 ∧ y.getD i 0 = 1) from fun h => hz h.1), if_neg (show ¬ (n = 0 ∧ (y.getD i 0 = 2 ∨ y.getD i 0 = 3)) from fun h => hz h.1), w64 (show i < 9223372036854775807 by omega)]
              exact ih (i + 1) n (by omega) (by omega)
          · simp only [if_neg h3, if_neg (show ¬ (n = 0 ∧ y.getD i 0 = 1) from fun h => h3 h.2)]
            have hj3 : Ev (fun k => isolate_Base.j3 k 0 (n : Int) y (y.length : Int) (i : Int) (decide (y.getD i 0 = 2 ∨ y.getD i 0 = 3))) (if n = 0 ∧ (y.getD i 0 = 2 ∨ y.getD i 0 = 3) then 1 else bs (y.drop (i + 1)) n, 0) := by
              refine ev_succ ?_
              simp only [isolate_Base.j3]
              by_cases h4 : y.getD i 0 = 2 ∨ y.getD i 0 = 3
              · simp only [decide_eq_true h4, if_true]
                by_cases hz : n = 0
                · simp only [if_pos (show (n : Int) = 0 by omega), if_pos (And.intro hz h4)]
                  exact Ev.now _
                · simp only [if_neg (show ¬ (n : Int) = 0 by omega), if_neg (show ¬ (n = 0 ∧ (y.getD i 0 = 2 ∨ y.getD i 0 = 3)) from fun h => hz h.1), w64 (show i < 9223372036854775807 by omega)]
                  exact ih (i + 1) n (by omega) (by omega)
              · simp only [decide_eq_false h4, Bool.false_eq_true, if_false, if_neg (show ¬ (n = 0 ∧ (y.getD i 0 = 2 ∨ y.getD i 0 = 3)) from fun h => h4 h.2), w64 (show i < 9223372036854775807 by omega)]
                exact ih (i + 1) n (by omega) (by omega)
            by_cases h4 : y.getD i 0 = 2
            · have e : (y.getD i 0 == 2) = decide (y.getD i 0 = 2 ∨ y.getD i 0 = 3) := by rw [h4]; rfl
              simp only [if_pos h4, e]
              exact hj3
            · have e : (y.getD i 0 == 3) = decide (y.getD i 0 = 2 ∨ y.getD i 0 = 3) := by
                by_cases h5 : y.getD i 0 = 3
                · rw [decide_eq_true (.inr h5), h5]
                  rfl
                · rw [decide_eq_false (fun h => h.elim h4 h5)]
                  exact beq_eq_false_iff_ne.2 h5
              simp only [if_neg h4, e]
              exact hj3
    by_cases h20 : y.getD i 0 = 20
    · have e : (y.getD i 0 == 20) = st (y.getD i 0) := by rw [h20]; rfl
      simp only [if_pos h20, e]
      exact hj
    · simp only [if_neg h20]
      by_cases h21 : y.getD i 0 = 21
      · have e : (y.getD i 0 == 21) = st (y.getD i 0) := by rw [h21]; rfl
        simp only [if_pos h21, e]
        exact hj
      · have e : (y.getD i 0 == 22) = st (y.getD i 0) := by
          unfold st
          rw [beq_eq_false_iff_ne.2 h20, beq_eq_false_iff_ne.2 h21]
          rfl
        simp only [if_neg h21, e]
        exact hj
/-- The range is one: the base direction of the stretch. -/
theorem Base_ev (c : List Int) (hb : c.length ≤ 17592186043904) (a b : Nat) (hab : a ≤ b) (hbc : b ≤ c.length) : Ev (fun k => isolate_Base.f k c (a : Int) (b : Int)) (bs ((c.take b).drop a) 0, 0) := by
  simp only [isolate_Base.f]
  simp only [if_neg (show ¬ (a : Int) < 0 by omega), if_neg (show ¬ (b : Int) > (c.length : Int) by omega), decide_eq_false (show ¬ (a : Int) > (b : Int) by omega)]
  refine ev_succ ?_
  simp only [isolate_Base.j0]
  simp only [Bool.false_eq_true, if_false, if_pos (Int.natCast_nonneg a), if_pos (show (a : Int) ≤ (b : Int) by omega), if_pos (show (b : Int) ≤ (c.length : Int) by omega), Int.toNat_natCast]
  have hl : ((c.take b).drop a).length ≤ 17592186043904 := by rw [List.length_drop, List.length_take]; omega
  have := Base_l0 ((c.take b).drop a) hl ((c.take b).drop a).length 0 0 (by omega) (by omega)
  simpa using this
/-- It is none: an error. -/
theorem Base_bad (c : List Int) (from_ to_ : Int) (h : from_ < 0 ∨ to_ > (c.length : Int) ∨ from_ > to_) : Ev (fun k => isolate_Base.f k c from_ to_) (0, 4) := by
  have hj : Ev (fun k => isolate_Base.j0 k c from_ to_ true) (0, 4) := by
    refine ev_succ ?_
    simp only [isolate_Base.j0, if_true]
    exact Ev.now _
  simp only [isolate_Base.f]
  by_cases h1 : from_ < 0
  · simp only [if_pos h1]
    exact hj
  · simp only [if_neg h1]
    by_cases h2 : to_ > (c.length : Int)
    · simp only [if_pos h2]
      exact hj
    · simp only [if_neg h2, decide_eq_true (show from_ > to_ by omega)]
      exact hj
end Go.Proofs.Yteldofimjklckaa.Iso
