/- What the printed functions of layer 6 and of its reference come to, in the words of plain Lean (Iso). -/
import Derived.Test.YtgjmfeijfkbceaaX5
import Derived.Test.YtgjmfeijfkbceaaIso
namespace Go.Proofs.Ytgjmfeijfkbceaa.Iso
open Go.RowKit Go.Proofs.Ytgjmfeijfkbceaa.X Go.Proofs.YtgjmfeijfkbceaaW.PrintWords Go.Proofs.YtgjmfeijfkbceaaW.PrintLast

theorem ev_succ {α : Type} {g : Nat → Option α} {r : α} (h : Ev (fun k => g (k + 1)) r) : Ev g r := Ev.step (fun _ => rfl) h
theorem ev_bind {α β : Type} {g : Nat → Option α} {f : Nat → α → Option β} {a : α} {r : β} (h : Ev g a) (k : Ev (fun n => f n a) r) : Ev (fun n => (g n).bind (f n)) r := Ev.bind h k
theorem w64 {i : Nat} (h : i < 9223372036854775807) : wrap64 ((i : Int) + 1) = ((i + 1 : Nat) : Int) := by
  unfold wrap64
  omega
theorem w64' {i : Int} (h0 : -9223372036854775808 ≤ i) (h : i ≤ 9223372036854775807) : wrap64 i = i := by
  unfold wrap64
  omega
theorem rd_nat (xs : List Int) (i : Nat) : rd xs (i : Int) = xs.getD i 0 := by
  unfold rd
  rw [Int.toNat_natCast]

theorem starts_eq (x : Int) : isolate_starts.f x = some (st x) := by
  by_cases h1 : x = 20 <;> by_cases h2 : x = 21 <;> by_cases h3 : x = 22 <;> simp [isolate_starts.f, st, h1, h2, h3]
theorem starts_eq' (x : Int) : colophonref06_Starts.f x = some (st x) := by
  by_cases h1 : x = 20 <;> by_cases h2 : x = 21 <;> by_cases h3 : x = 22 <;> simp [colophonref06_Starts.f, st, h1, h2, h3]

/-! ### Lists of numbers -/
theorem Ints_l0 (a b : List Int) (hl : a.length = b.length) (hb : a.length ≤ 17592186044416) : ∀ d i : Nat, i + d = a.length → Ev (fun k => colophonref01_Ints.l0 k a b (i : Int)) (decide (a.drop i = b.drop i)) := by
  intro d
  induction d with
  | zero =>
    intro i hi
    refine ev_succ ?_
    simp only [colophonref01_Ints.l0]
    simp only [if_neg (show ¬ (i : Int) < (a.length : Int) by omega)]
    rw [List.drop_eq_nil_of_le (by omega), List.drop_eq_nil_of_le (by omega)]
    exact Ev.now true
  | succ d ih =>
    intro i hi
    refine ev_succ ?_
    simp only [colophonref01_Ints.l0]
    simp only [if_pos (show (i : Int) < (a.length : Int) by omega), if_pos (Int.natCast_nonneg i), if_pos (show (i : Int) < (b.length : Int) by omega), rd_nat, w64 (show i < 9223372036854775807 by omega)]
    rw [drop_cons a i (by omega), drop_cons b i (by omega)]
    by_cases e : a.getD i 0 = b.getD i 0
    · simp only [if_pos e]
      have := ih (i + 1) (by omega)
      rw [e]
      simpa using this
    · simp only [if_neg e]
      rw [decide_eq_false (by simp only [List.cons.injEq, not_and]; intro h; exact absurd h e)]
      exact Ev.now false
theorem Ints_ev (a b : List Int) (hb : a.length ≤ 17592186044416) : Ev (fun k => colophonref01_Ints.f k a b) (decide (a = b)) := by
  simp only [colophonref01_Ints.f]
  by_cases hl : a.length = b.length
  · simp only [if_pos (show (a.length : Int) = (b.length : Int) by omega)]
    have := Ints_l0 a b hl hb a.length 0 (by omega)
    simpa using this
  · simp only [if_neg (show ¬ (a.length : Int) = (b.length : Int) by omega)]
    rw [decide_eq_false (by rintro rfl; exact hl rfl)]
    exact Ev.now false
theorem Ints_same (a : List Int) (hb : a.length ≤ 17592186044416) : Ev (fun k => colophonref01_Ints.f k a a) true := by
  have := Ints_ev a a hb
  simpa using this

/-! ### The program's Match -/
def ro (l : List Nat) : List Int := l.reverse.map Int.ofNat
theorem ro_cons (k : Nat) (t : List Nat) : ro (k :: t) = ro t ++ [(k : Int)] := by simp [ro]
theorem ro_length (l : List Nat) : (ro l).length = l.length := by simp [ro]

theorem set_cur (c : List Int) (i : Nat) (x3 : List Int) (v : Int) (h3 : x3.length = c.length) (hi : i < c.length) (hx : ∀ j, j < i → x3.getD j 0 = cur c i j)
    (hkeep : ∀ j, j < i → cur c (i + 1) j = cur c i j) (hv : v = cur c (i + 1) i) (y : List Int) (hy : y = x3.set i v) : y.length = c.length ∧ ∀ j, j < i + 1 → y.getD j 0 = cur c (i + 1) j := by
  subst hy
  refine ⟨by rw [List.length_set]; exact h3, fun j hj => ?_⟩
  rw [List.getD_eq_getElem?_getD, List.getElem?_set]
  by_cases e : i = j
  · subst e
    rw [if_pos rfl, if_pos (by omega), Option.getD_some, hv]
  · rw [if_neg e, ← List.getD_eq_getElem?_getD, hx j (by omega), hkeep j (by omega)]

theorem Match_l0 (c : List Int) (hb : c.length ≤ 17592186043904) : ∀ (d i : Nat) (x3 : List Int), i + d = c.length → x3.length = c.length → (∀ j, j < i → x3.getD j 0 = cur c i j) →
    Ev (fun k => isolate_Match.l0 k c x3 (ro (R c i)) c (c.length : Int) (i : Int)) (mts c) := by
  intro d
  induction d with
  | zero =>
    intro i x3 hi h3 hx
    refine ev_succ ?_
    simp only [isolate_Match.l0]
    simp only [if_neg (show ¬ (i : Int) < (c.length : Int) by omega)]
    have : x3 = mts c := ext_getD (by rw [h3, mts_length]) fun j hj => by
      have hi' : i = c.length := by omega
      rw [hx j (by omega), hi', cur_end c j (by omega), mts_get c j (by omega)]
    rw [this]
    exact Ev.now _
  | succ d ih =>
    intro i x3 hi h3 hx
    have hic : i < c.length := by omega
    refine ev_succ ?_
    simp only [isolate_Match.l0]
    simp only [if_pos (show (i : Int) < (c.length : Int) by omega), if_pos (Int.natCast_nonneg i), if_pos (show (i : Int) < (x3.length : Int) by omega), Option.bind_some, starts_eq, rd_nat, Int.toNat_natCast, w64 (show i < 9223372036854775807 by omega)]
    have hstep : R c (i + 1) = if st (c.getD i 0) = true then i :: R c i else if c.getD i 0 = 23 then (R c i).tail else R c i := rfl
    have hRl := R_length c i
    by_cases h1 : st (c.getD i 0) = true
    · simp only [if_pos h1, if_pos (show (ro (R c i)).length < 17592186044416 by rw [ro_length]; omega)]
      rw [if_pos h1] at hstep
      have hk : ∀ j, j < i → cur c (i + 1) j = cur c i j := fun j hj => by
        unfold cur
        have : partner c j ≠ i := fun e => by
          have := partner_pdi c j (by omega) (by omega)
          rw [e] at this
          exact st_ne h1 this
        by_cases h : st (c.getD j 0) = true
        · rw [if_pos h, if_pos h]
          by_cases h' : partner c j < i
          · rw [if_pos h', if_pos (by omega)]
          · rw [if_neg h', if_neg (by omega)]
        · rw [if_neg h, if_neg h]
      have hg := partner_gt c i
      obtain ⟨hl, hy⟩ := set_cur c i x3 (c.length : Int) h3 hic hx hk (by unfold cur; rw [if_pos h1, if_neg (by omega)]) ((x3.set i (i : Int)).set i (c.length : Int)) (by rw [List.set_set])
      have := ih (i + 1) _ (by omega) hl hy
      rw [hstep, ro_cons] at this
      exact this
    · simp only [if_neg h1]
      rw [if_neg h1] at hstep
      by_cases h2 : c.getD i 0 = 23
      · simp only [if_pos h2]
        rw [if_pos h2] at hstep
        refine ev_succ ?_
        simp only [isolate_Match.j1]
        have hset : ((x3.set i (i : Int)).length : Int) = (c.length : Int) := by rw [List.length_set, h3]
        cases hR : R c i with
        | nil =>
          simp only [ro, List.reverse_nil, List.map_nil, List.length_nil, show (((0 : Nat) : Int) == 0) = true from rfl, if_true, if_pos (Int.natCast_nonneg i), if_pos (show (i : Int) < ((x3.set i (i : Int)).length : Int) by omega), Int.toNat_natCast, w64 (show i < 9223372036854775807 by omega)]
          have hk : ∀ j, j < i → cur c (i + 1) j = cur c i j := fun j hj => by
            unfold cur
            by_cases h : st (c.getD j 0) = true
            · have : ¬ i ≤ partner c j := fun e => by
                have := R_mem c i (by omega) j hj h e
                rw [hR] at this
                simp at this
              rw [if_pos h, if_pos h, if_pos (by omega), if_pos (by omega)]
            · rw [if_neg h, if_neg h]
          obtain ⟨hl, hy⟩ := set_cur c i x3 (-1) h3 hic hx hk (by unfold cur mtc; rw [if_neg h1, if_neg h1, if_pos h2, hR]; rfl) ((x3.set i (i : Int)).set i (-1)) (by rw [List.set_set])
          have := ih (i + 1) _ (by omega) hl hy
          rw [hstep, hR] at this
          exact this
        | cons a t =>
          have ham : a ∈ R c i := by rw [hR]; exact List.mem_cons_self
          have hai := R_lt c i a ham
          have hlen : ((ro (a :: t)).length : Int) = (t.length : Int) + 1 := by rw [ro_length]; simp
          rw [hR] at hRl
          simp only [List.length_cons] at hRl
          have hw : wrap64 (((ro (a :: t)).length : Int) - 1) = ((t.length : Nat) : Int) := by rw [hlen, w64' (by omega) (by omega)]; omega
          have hrd : rd (ro (a :: t)) ((t.length : Nat) : Int) = (a : Int) := by
            rw [rd_nat, ro_cons, List.getD_eq_getElem?_getD, List.getElem?_append_right (by rw [ro_length]; exact Nat.le_refl _), ro_length, Nat.sub_self]
            rfl
          have htk : (ro (a :: t)).take t.length = ro t := by
            rw [ro_cons, List.take_append_of_le_length (by rw [ro_length]; exact Nat.le_refl _), List.take_of_length_le (by rw [ro_length]; exact Nat.le_refl _)]
          have h0 : (((ro (a :: t)).length : Int) == 0) = false := by
            rw [beq_eq_false_iff_ne, hlen]
            omega
          simp only [h0, Bool.false_eq_true, if_false, if_pos h2, hw, hrd, htk, if_pos (Int.natCast_nonneg t.length), if_pos (show ((t.length : Nat) : Int) < ((ro (a :: t)).length : Int) by omega), if_pos (show ((t.length : Nat) : Int) ≤ ((ro (a :: t)).length : Int) by omega), if_pos (Int.natCast_nonneg i), if_pos (Int.natCast_nonneg a), if_pos (show (i : Int) < ((x3.set i (i : Int)).length : Int) by omega), if_pos (show (a : Int) < ((x3.set i (i : Int)).length : Int) by omega), Int.toNat_natCast, w64 (show i < 9223372036854775807 by omega)]
          have hpa := R_top hic hR h2
          have hy : ∀ j, j < i + 1 → (((x3.set i (i : Int)).set i (a : Int)).set a (i : Int)).getD j 0 = cur c (i + 1) j := fun j hj => by
            rw [List.getD_eq_getElem?_getD, List.getElem?_set]
            by_cases e : a = j
            · subst e
              rw [if_pos rfl, if_pos (by rw [List.length_set, List.length_set]; omega), Option.getD_some]
              unfold cur
              rw [if_pos (R_st c i a ham), if_pos (by omega), hpa]
            · rw [if_neg e, List.set_set, List.getElem?_set]
              by_cases e' : i = j
              · subst e'
                rw [if_pos rfl, if_pos (by omega), Option.getD_some]
                unfold cur mtc
                rw [if_neg h1, if_neg h1, if_pos h2, hR]
                rfl
              · rw [if_neg e', ← List.getD_eq_getElem?_getD, hx j (by omega)]
                unfold cur
                by_cases h : st (c.getD j 0) = true
                · have : partner c j ≠ i := fun e'' => by
                    have := R_mem c i (by omega) j (by omega) h (by omega)
                    rw [hR] at this
                    rcases List.mem_cons.1 this with e3 | e3
                    · exact e e3.symm
                    · have := R_rest hic hR h2 e3
                      omega
                  rw [if_pos h, if_pos h]
                  by_cases h' : partner c j < i
                  · rw [if_pos h', if_pos (by omega)]
                  · rw [if_neg h', if_neg (by omega)]
                · rw [if_neg h, if_neg h]
          have := ih (i + 1) _ (by omega) (by rw [List.length_set, List.length_set, List.length_set]; exact h3) hy
          rw [hstep, hR] at this
          exact this
      · simp only [if_neg h2]
        rw [if_neg h2] at hstep
        refine ev_succ ?_
        simp only [isolate_Match.j1]
        simp only [Bool.false_eq_true, if_false, if_neg h2, w64 (show i < 9223372036854775807 by omega)]
        have hk : ∀ j, j < i → cur c (i + 1) j = cur c i j := fun j hj => by
          unfold cur
          have : partner c j ≠ i := fun e => by
            have := partner_pdi c j (by omega) (by omega)
            rw [e] at this
            exact h2 this
          by_cases h : st (c.getD j 0) = true
          · rw [if_pos h, if_pos h]
            by_cases h' : partner c j < i
            · rw [if_pos h', if_pos (by omega)]
            · rw [if_neg h', if_neg (by omega)]
          · rw [if_neg h, if_neg h]
        obtain ⟨hl, hy⟩ := set_cur c i x3 (i : Int) h3 hic hx hk (by unfold cur mtc; rw [if_neg h1, if_neg h1, if_neg h2]) (x3.set i (i : Int)) rfl
        have := ih (i + 1) _ (by omega) hl hy
        rw [hstep] at this
        exact this
theorem Match_ev (c : List Int) (hb : c.length ≤ 17592186043904) : Ev (fun k => isolate_Match.f k c) (mts c) := by
  simp only [isolate_Match.f]
  simp only [if_pos (Int.natCast_nonneg c.length), Int.toNat_natCast, if_pos (show c.length ≤ 35184372088832 by omega)]
  exact Match_l0 c hb c.length 0 _ (by omega) (by simp) (fun j hj => by omega)

/-! ### The program's Depth -/
theorem Depth_l0 (c : List Int) (hb : c.length ≤ 17592186043904) : ∀ (d i : Nat) (x3 : List Int), i + d = c.length → x3.length = c.length → (∀ j, j < i → x3.getD j 0 = dp c j) →
    Ev (fun k => isolate_Depth.l0 k x3 ((R c i).length : Int) c (c.length : Int) (i : Int)) (dps c) := by
  intro d
  induction d with
  | zero =>
    intro i x3 hi h3 hx
    refine ev_succ ?_
    simp only [isolate_Depth.l0]
    simp only [if_neg (show ¬ (i : Int) < (c.length : Int) by omega)]
    have : x3 = dps c := ext_getD (by rw [h3, dps_length]) fun j hj => by
      rw [hx j (by omega), dps_get c j (by omega)]
    rw [this]
    exact Ev.now _
  | succ d ih =>
    intro i x3 hi h3 hx
    have hic : i < c.length := by omega
    have hRl := R_length c i
    have hstep : R c (i + 1) = if st (c.getD i 0) = true then i :: R c i else if c.getD i 0 = 23 then (R c i).tail else R c i := rfl
    have hset : ∀ v : Int, v = dp c i → ∀ j, j < i + 1 → (x3.set i v).getD j 0 = dp c j := fun v hv j hj => by
      rw [List.getD_eq_getElem?_getD, List.getElem?_set]
      by_cases e : i = j
      · subst e
        rw [if_pos rfl, if_pos (by omega), Option.getD_some, hv]
      · rw [if_neg e, ← List.getD_eq_getElem?_getD, hx j (by omega)]
    refine ev_succ ?_
    simp only [isolate_Depth.l0]
    simp only [if_pos (show (i : Int) < (c.length : Int) by omega), if_pos (Int.natCast_nonneg i), rd_nat]
    by_cases h2 : c.getD i 0 = 23
    · simp only [if_pos h2]
      have h1 : ¬ st (c.getD i 0) = true := by rw [h2]; decide
      rw [if_neg h1, if_pos h2] at hstep
      refine ev_succ ?_
      simp only [isolate_Depth.j1]
      by_cases h3' : ((R c i).length : Int) > 0
      · have hw : wrap64 (((R c i).length : Int) - 1) = ((R c (i + 1)).length : Int) := by
          rw [hstep, List.length_tail, w64' (by omega) (by omega)]
          omega
        simp only [decide_eq_true h3', if_true, if_pos (Int.natCast_nonneg i), if_pos (show (i : Int) < (x3.length : Int) by omega), Option.bind_some, starts_eq, if_neg h1, hw, Int.toNat_natCast, w64 (show i < 9223372036854775807 by omega)]
        exact ih (i + 1) _ (by omega) (by rw [List.length_set]; exact h3) (hset _ (by unfold dp; rw [if_pos h2, hstep, List.length_tail]))
      · have hz : (R c i).length = 0 := by omega
        have hz' : (R c (i + 1)).length = 0 := by rw [hstep, List.length_tail]; omega
        simp only [decide_eq_false h3', Bool.false_eq_true, if_false, if_pos (Int.natCast_nonneg i), if_pos (show (i : Int) < (x3.length : Int) by omega), Option.bind_some, starts_eq, if_neg h1, Int.toNat_natCast, w64 (show i < 9223372036854775807 by omega)]
        have := ih (i + 1) (x3.set i ((R c i).length : Int)) (by omega) (by rw [List.length_set]; exact h3) (hset _ (by unfold dp; rw [if_pos h2, hz]))
        rw [hz'] at this
        rw [hz] at this ⊢
        exact this
    · simp only [if_neg h2]
      refine ev_succ ?_
      simp only [isolate_Depth.j1]
      simp only [Bool.false_eq_true, if_false, if_pos (Int.natCast_nonneg i), if_pos (show (i : Int) < (x3.length : Int) by omega), Option.bind_some, starts_eq, Int.toNat_natCast, w64 (show i < 9223372036854775807 by omega)]
      have hd : ((R c i).length : Int) = dp c i := by unfold dp; rw [if_neg h2]
      by_cases h1 : st (c.getD i 0) = true
      · rw [if_pos h1] at hstep
        simp only [if_pos h1, w64 (show (R c i).length < 9223372036854775807 by omega)]
        have := ih (i + 1) (x3.set i ((R c i).length : Int)) (by omega) (by rw [List.length_set]; exact h3) (hset _ hd)
        rw [hstep, List.length_cons] at this
        exact this
      · rw [if_neg h1, if_neg h2] at hstep
        simp only [if_neg h1]
        have := ih (i + 1) (x3.set i ((R c i).length : Int)) (by omega) (by rw [List.length_set]; exact h3) (hset _ hd)
        rw [hstep] at this
        exact this
theorem Depth_ev (c : List Int) (hb : c.length ≤ 17592186043904) : Ev (fun k => isolate_Depth.f k c) (dps c) := by
  simp only [isolate_Depth.f]
  simp only [if_pos (Int.natCast_nonneg c.length), Int.toNat_natCast, if_pos (show c.length ≤ 35184372088832 by omega)]
  exact Depth_l0 c hb c.length 0 _ (by omega) (by simp) (fun j hj => by omega)

/-! ### The program's Base -/
theorem Base_l0 (y : List Int) (hb : y.length ≤ 17592186043904) : ∀ (d i n : Nat), i + d = y.length → n ≤ i → Ev (fun k => isolate_Base.l0 k 0 (n : Int) y (y.length : Int) (i : Int)) (bs (y.drop i) n, 0) := by
  intro d
  induction d with
  | zero =>
    intro i n hi hn
    refine ev_succ ?_
    simp only [isolate_Base.l0]
    simp only [if_neg (show ¬ (i : Int) < (y.length : Int) by omega)]
    rw [List.drop_eq_nil_of_le (by omega)]
    exact Ev.now _
  | succ d ih =>
    intro i n hi hn
    have hic : i < y.length := by omega
    refine ev_succ ?_
    simp only [isolate_Base.l0]
    simp only [if_pos (show (i : Int) < (y.length : Int) by omega), if_pos (Int.natCast_nonneg i), rd_nat]
    rw [drop_cons y i hic]
    simp only [bs]
    have hj : Ev (fun k => isolate_Base.j2 k 0 (n : Int) y (y.length : Int) (i : Int) (y.getD i 0) (st (y.getD i 0))) (if st (y.getD i 0) = true then bs (y.drop (i + 1)) (n + 1) else if y.getD i 0 = 23 then bs (y.drop (i + 1)) (n - 1) else if n = 0 ∧ y.getD i 0 = 1 then 0 else if n = 0 ∧ (y.getD i 0 = 2 ∨ y.getD i 0 = 3) then 1 else bs (y.drop (i + 1)) n, 0) := by
      refine ev_succ ?_
      simp only [isolate_Base.j2]
      by_cases h1 : st (y.getD i 0) = true
      · simp only [if_pos h1, w64 (show n < 9223372036854775807 by omega), w64 (show i < 9223372036854775807 by omega)]
        exact ih (i + 1) (n + 1) (by omega) (by omega)
      · simp only [if_neg h1]
        by_cases h2 : y.getD i 0 = 23
        · have hm : mx 0 (wrap64 ((n : Int) - 1)) = ((n - 1 : Nat) : Int) := by
            rw [w64' (by omega) (by omega)]
            unfold mx
            split <;> omega
          simp only [if_pos h2, hm, w64 (show i < 9223372036854775807 by omega)]
          exact ih (i + 1) (n - 1) (by omega) (by omega)
        · simp only [if_neg h2]
          by_cases h3 : y.getD i 0 = 1
          · simp only [if_pos h3]
            by_cases hz : n = 0
            · simp only [if_pos (show (n : Int) = 0 by omega), if_pos (And.intro hz h3)]
              exact Ev.now _
            · simp only [if_neg (show ¬ (n : Int) = 0 by omega), if_neg (show ¬ (n = 0 ∧ y.getD i 0 = 1) from fun h => hz h.1), if_neg (show ¬ (n = 0 ∧ (y.getD i 0 = 2 ∨ y.getD i 0 = 3)) from fun h => hz h.1), w64 (show i < 9223372036854775807 by omega)]
              exact ih (i + 1) n (by omega) (by omega)
          · simp only [if_neg h3, if_neg (show ¬ (n = 0 ∧ y.getD i 0 = 1) from fun h => h3 h.2)]
            have hj3 : Ev (fun k => isolate_Base.j3 k 0 (n : Int) y (y.length : Int) (i : Int) (decide (y.getD i 0 = 2 ∨ y.getD i 0 = 3))) (if n = 0 ∧ (y.getD i 0 = 2 ∨ y.getD i 0 = 3) then 1 else bs (y.drop (i + 1)) n, 0) := by
              refine ev_succ ?_
              simp only [isolate_Base.j3]
              by_cases h4 : y.getD i 0 = 2 ∨ y.getD i 0 = 3
              · simp only [decide_eq_true h4, if_true]
                by_cases hz : n = 0
                · simp only [if_pos (show (n : Int) = 0 by omega), if_pos (And.intro hz h4)]
                  exact Ev.now _
                · simp only [if_neg (show ¬ (n : Int) = 0 by omega), if_neg (show ¬ (n = 0 ∧ (y.getD i 0 = 2 ∨ y.getD i 0 = 3)) from fun h => hz h.1), w64 (show i < 9223372036854775807 by omega)]
                  exact ih (i + 1) n (by omega) (by omega)
              · simp only [decide_eq_false h4, Bool.false_eq_true, if_false, if_neg (show ¬ (n = 0 ∧ (y.getD i 0 = 2 ∨ y.getD i 0 = 3)) from fun h => h4 h.2), w64 (show i < 9223372036854775807 by omega)]
                exact ih (i + 1) n (by omega) (by omega)
            by_cases h4 : y.getD i 0 = 2
            · have e : (y.getD i 0 == 2) = decide (y.getD i 0 = 2 ∨ y.getD i 0 = 3) := by rw [h4]; rfl
              simp only [if_pos h4, e]
              exact hj3
            · have e : (y.getD i 0 == 3) = decide (y.getD i 0 = 2 ∨ y.getD i 0 = 3) := by
                by_cases h5 : y.getD i 0 = 3
                · rw [decide_eq_true (.inr h5), h5]
                  rfl
                · rw [decide_eq_false (fun h => h.elim h4 h5)]
                  exact beq_eq_false_iff_ne.2 h5
              simp only [if_neg h4, e]
              exact hj3
    by_cases h20 : y.getD i 0 = 20
    · have e : (y.getD i 0 == 20) = st (y.getD i 0) := by rw [h20]; rfl
      simp only [if_pos h20, e]
      exact hj
    · simp only [if_neg h20]
      by_cases h21 : y.getD i 0 = 21
      · have e : (y.getD i 0 == 21) = st (y.getD i 0) := by rw [h21]; rfl
        simp only [if_pos h21, e]
        exact hj
      · have e : (y.getD i 0 == 22) = st (y.getD i 0) := by
          unfold st
          rw [beq_eq_false_iff_ne.2 h20, beq_eq_false_iff_ne.2 h21]
          rfl
        simp only [if_neg h21, e]
        exact hj
/-- The range is one: the base direction of the stretch. -/
theorem Base_ev (c : List Int) (hb : c.length ≤ 17592186043904) (a b : Nat) (hab : a ≤ b) (hbc : b ≤ c.length) : Ev (fun k => isolate_Base.f k c (a : Int) (b : Int)) (bs ((c.take b).drop a) 0, 0) := by
  simp only [isolate_Base.f]
  simp only [if_neg (show ¬ (a : Int) < 0 by omega), if_neg (show ¬ (b : Int) > (c.length : Int) by omega), decide_eq_false (show ¬ (a : Int) > (b : Int) by omega)]
  refine ev_succ ?_
  simp only [isolate_Base.j0]
  simp only [Bool.false_eq_true, if_false, if_pos (Int.natCast_nonneg a), if_pos (show (a : Int) ≤ (b : Int) by omega), if_pos (show (b : Int) ≤ (c.length : Int) by omega), Int.toNat_natCast]
  have hl : ((c.take b).drop a).length ≤ 17592186043904 := by rw [List.length_drop, List.length_take]; omega
  have := Base_l0 ((c.take b).drop a) hl ((c.take b).drop a).length 0 0 (by omega) (by omega)
  simpa using this
/-- It is none: an error. -/
theorem Base_bad (c : List Int) (from_ to_ : Int) (h : from_ < 0 ∨ to_ > (c.length : Int) ∨ from_ > to_) : Ev (fun k => isolate_Base.f k c from_ to_) (0, 4) := by
  have hj : Ev (fun k => isolate_Base.j0 k c from_ to_ true) (0, 4) := by
    refine ev_succ ?_
    simp only [isolate_Base.j0, if_true]
    exact Ev.now _
  simp only [isolate_Base.f]
  by_cases h1 : from_ < 0
  · simp only [if_pos h1]
    exact hj
  · simp only [if_neg h1]
    by_cases h2 : to_ > (c.length : Int)
    · simp only [if_pos h2]
      exact hj
    · simp only [if_neg h2, decide_eq_true (show from_ > to_ by omega)]
      exact hj
theorem works_ev : Ev (fun k => colophonlaw06_works.f k) true := Ev.of (k := 60) colophonlaw06_works.mono (by decide +kernel)

/-! ### The document's answers -/
theorem Partner_l0 (c : List Int) (hb : c.length ≤ 17592186043904) : ∀ (d i n : Nat), i + d = c.length → 1 ≤ n → n ≤ i + 1 → Ev (fun k => colophonref06_Partner.l0 k c (n : Int) (i : Int)) ((par n (c.drop i) i : Nat) : Int) := by
  intro d
  induction d with
  | zero =>
    intro i n hi h1 hn
    refine ev_succ ?_
    simp only [colophonref06_Partner.l0]
    simp only [if_neg (show ¬ (i : Int) < (c.length : Int) by omega)]
    rw [List.drop_eq_nil_of_le (by omega)]
    simp only [par]
    rw [show i = c.length by omega]
    exact Ev.now _
  | succ d ih =>
    intro i n hi h1 hn
    have hic : i < c.length := by omega
    have hj : ∀ m : Nat, m = (if st (c.getD i 0) = true then n + 1 else n) → Ev (fun k => colophonref06_Partner.j1 k c (m : Int) (i : Int)) ((par n (c.drop i) i : Nat) : Int) := by
      intro m hm
      refine ev_succ ?_
      simp only [colophonref06_Partner.j1]
      simp only [if_pos (show (i : Int) < (c.length : Int) by omega), if_pos (Int.natCast_nonneg i), rd_nat, w64 (show i < 9223372036854775807 by omega)]
      rw [drop_cons c i hic]
      simp only [par]
      by_cases hs : st (c.getD i 0) = true
      · rw [if_pos hs] at hm ⊢
        simp only [if_neg (st_ne hs)]
        rw [hm]
        exact ih (i + 1) (n + 1) (by omega) (by omega) (by omega)
      · rw [if_neg hs] at hm ⊢
        rw [hm]
        by_cases h2 : c.getD i 0 = 23
        · rw [if_pos h2]
          have hw : wrap64 ((n : Int) - 1) = ((n - 1 : Nat) : Int) := by rw [w64' (by omega) (by omega)]; omega
          simp only [if_pos h2, hw]
          by_cases hz : n ≤ 1
          · rw [if_pos hz]
            simp only [if_pos (show ((n - 1 : Nat) : Int) = 0 by omega)]
            exact Ev.now _
          · rw [if_neg hz]
            simp only [if_neg (show ¬ ((n - 1 : Nat) : Int) = 0 by omega)]
            exact ih (i + 1) (n - 1) (by omega) (by omega) (by omega)
        · rw [if_neg h2]
          simp only [if_neg h2]
          exact ih (i + 1) n (by omega) (by omega) (by omega)
    refine ev_succ ?_
    simp only [colophonref06_Partner.l0]
    simp only [if_pos (show (i : Int) < (c.length : Int) by omega), if_pos (Int.natCast_nonneg i), rd_nat, starts_eq', Option.bind_some]
    by_cases hs : st (c.getD i 0) = true
    · simp only [if_pos hs, w64 (show n < 9223372036854775807 by omega)]
      exact hj (n + 1) (by rw [if_pos hs])
    · simp only [if_neg hs]
      exact hj n (by rw [if_neg hs])
theorem Partner_ev (c : List Int) (hb : c.length ≤ 17592186043904) (i : Nat) (hi : i < c.length) : Ev (fun k => colophonref06_Partner.f k c (i : Int)) ((partner c i : Nat) : Int) := by
  simp only [colophonref06_Partner.f, w64 (show i < 9223372036854775807 by omega)]
  exact Partner_l0 c hb (c.length - (i + 1)) (i + 1) 1 (by omega) (by omega) (by omega)
theorem refMatch_l1 (c : List Int) (hb : c.length ≤ 17592186043904) (i : Nat) (hi : i < c.length) (x3 : List Int) (hx : x3.length = i) (r : List Int)
    (hend : Ev (fun k => colophonref06_Match.l0 k c (x3 ++ [lastP (fun k => st (c.getD k 0) && decide (partner c k = i)) i]) ((i + 1 : Nat) : Int)) r) :
    ∀ d j : Nat, j + d = i → Ev (fun k => colophonref06_Match.l1 k c x3 (i : Int) (lastP (fun k => st (c.getD k 0) && decide (partner c k = i)) j) (j : Int)) r := by
  intro d
  induction d with
  | zero =>
    intro j hj
    refine ev_succ ?_
    simp only [colophonref06_Match.l1]
    have : j = i := by omega
    subst this
    simp only [if_neg (show ¬ (j : Int) < (j : Int) by omega), if_pos (show x3.length < 17592186044416 by omega), w64 (show j < 9223372036854775807 by omega)]
    exact hend
  | succ d ih =>
    intro j hj
    refine ev_succ ?_
    simp only [colophonref06_Match.l1]
    simp only [if_pos (show (j : Int) < (i : Int) by omega), if_pos (Int.natCast_nonneg j), if_pos (show (j : Int) < (c.length : Int) by omega), rd_nat, starts_eq', Option.bind_some, w64 (show j < 9223372036854775807 by omega)]
    have ih := ih (j + 1) (by omega)
    simp only [lastP] at ih
    by_cases hs : st (c.getD j 0) = true
    · simp only [if_pos hs]
      refine Ev.bind (Partner_ev c hb j (by omega)) ?_
      by_cases hp : partner c j = i
      · rw [if_pos (by rw [hs, decide_eq_true hp]; rfl)] at ih
        simp only [if_pos (show ((partner c j : Nat) : Int) = (i : Int) by omega)]
        exact ih
      · rw [if_neg (by rw [decide_eq_false hp]; simp)] at ih
        simp only [if_neg (show ¬ ((partner c j : Nat) : Int) = (i : Int) by omega)]
        exact ih
    · rw [if_neg (by rw [Bool.eq_false_iff.2 hs]; simp)] at ih
      simp only [if_neg hs]
      exact ih
theorem refMatch_l0 (c : List Int) (hb : c.length ≤ 17592186043904) : ∀ d i : Nat, i + d = c.length → Ev (fun k => colophonref06_Match.l0 k c ((List.range i).map (mtc c)) (i : Int)) (mts c) := by
  intro d
  induction d with
  | zero =>
    intro i hi
    refine ev_succ ?_
    simp only [colophonref06_Match.l0]
    simp only [if_neg (show ¬ (i : Int) < (c.length : Int) by omega)]
    rw [show i = c.length by omega]
    exact Ev.now _
  | succ d ih =>
    intro i hi
    have hic : i < c.length := by omega
    have ih := ih (i + 1) (by omega)
    rw [List.range_succ, List.map_append] at ih
    have hl : ((List.range i).map (mtc c)).length = i := by simp
    have hj : ∀ v : Int, (c.getD i 0 ≠ 23 → v = mtc c i) → Ev (fun k => colophonref06_Match.j1 k c ((List.range i).map (mtc c)) (i : Int) v) (mts c) := by
      intro v hv
      refine ev_succ ?_
      simp only [colophonref06_Match.j1]
      simp only [if_pos (show (i : Int) < (c.length : Int) by omega), if_pos (Int.natCast_nonneg i), rd_nat]
      by_cases h2 : c.getD i 0 = 23
      · simp only [if_pos h2]
        have h1 : ¬ st (c.getD i 0) = true := by rw [h2]; decide
        have := refMatch_l1 c hb i hic _ hl (mts c) (by
          rw [mate_last c i hic h2]
          have e : mtc c i = mate (R c i) := by unfold mtc; rw [if_neg h1, if_pos h2]
          rw [← e]
          exact ih) i 0 (by omega)
        exact this
      · simp only [if_neg h2, if_pos (show ((List.range i).map (mtc c)).length < 17592186044416 by omega), w64 (show i < 9223372036854775807 by omega)]
        rw [hv h2]
        exact ih
    refine ev_succ ?_
    simp only [colophonref06_Match.l0]
    simp only [if_pos (show (i : Int) < (c.length : Int) by omega), if_pos (Int.natCast_nonneg i), rd_nat, starts_eq', Option.bind_some]
    by_cases hs : st (c.getD i 0) = true
    · simp only [if_pos hs]
      refine Ev.bind (Partner_ev c hb i hic) ?_
      exact hj _ fun _ => by unfold mtc; rw [if_pos hs]
    · simp only [if_neg hs]
      exact hj _ fun h2 => by unfold mtc; rw [if_neg hs, if_neg h2]
theorem refMatch_ev (c : List Int) (hb : c.length ≤ 17592186043904) : Ev (fun k => colophonref06_Match.f k c) (mts c) := by
  simp only [colophonref06_Match.f]
  exact refMatch_l0 c hb c.length 0 (by omega)
theorem refDepth_l1 (c : List Int) (hb : c.length ≤ 17592186043904) (i : Nat) (hi : i < c.length) (x3 : List Int) (hx : x3.length = i) (r : List Int)
    (hend : Ev (fun k => colophonref06_Depth.l0 k c (x3 ++ [((cntP (fun k => st (c.getD k 0) && decide (i < partner c k)) i : Nat) : Int)]) ((i + 1 : Nat) : Int)) r) :
    ∀ d j : Nat, j + d = i → Ev (fun k => colophonref06_Depth.l1 k c x3 (i : Int) ((cntP (fun k => st (c.getD k 0) && decide (i < partner c k)) j : Nat) : Int) (j : Int)) r := by
  intro d
  induction d with
  | zero =>
    intro j hj
    refine ev_succ ?_
    simp only [colophonref06_Depth.l1]
    have : j = i := by omega
    subst this
    simp only [if_neg (show ¬ (j : Int) < (j : Int) by omega), if_pos (show x3.length < 17592186044416 by omega), w64 (show j < 9223372036854775807 by omega)]
    exact hend
  | succ d ih =>
    intro j hj
    have hcl := cntP_le (fun k => st (c.getD k 0) && decide (i < partner c k)) j
    refine ev_succ ?_
    simp only [colophonref06_Depth.l1]
    simp only [if_pos (show (j : Int) < (i : Int) by omega), if_pos (Int.natCast_nonneg j), if_pos (show (j : Int) < (c.length : Int) by omega), rd_nat, starts_eq', Option.bind_some, w64 (show j < 9223372036854775807 by omega)]
    have ih := ih (j + 1) (by omega)
    simp only [cntP] at ih
    by_cases hs : st (c.getD j 0) = true
    · simp only [if_pos hs]
      refine Ev.bind (Partner_ev c hb j (by omega)) ?_
      by_cases hp : i < partner c j
      · rw [if_pos (by rw [hs, decide_eq_true hp]; rfl)] at ih
        simp only [if_pos (show ((partner c j : Nat) : Int) > (i : Int) by omega), w64 (show cntP (fun k => st (c.getD k 0) && decide (i < partner c k)) j < 9223372036854775807 by omega)]
        exact ih
      · rw [if_neg (by rw [decide_eq_false hp]; simp)] at ih
        simp only [if_neg (show ¬ ((partner c j : Nat) : Int) > (i : Int) by omega)]
        exact ih
    · rw [if_neg (by rw [Bool.eq_false_iff.2 hs]; simp)] at ih
      simp only [if_neg hs]
      exact ih
theorem refDepth_l0 (c : List Int) (hb : c.length ≤ 17592186043904) : ∀ d i : Nat, i + d = c.length → Ev (fun k => colophonref06_Depth.l0 k c ((List.range i).map (dp c)) (i : Int)) (dps c) := by
  intro d
  induction d with
  | zero =>
    intro i hi
    refine ev_succ ?_
    simp only [colophonref06_Depth.l0]
    simp only [if_neg (show ¬ (i : Int) < (c.length : Int) by omega)]
    rw [show i = c.length by omega]
    exact Ev.now _
  | succ d ih =>
    intro i hi
    have hic : i < c.length := by omega
    have ih := ih (i + 1) (by omega)
    rw [List.range_succ, List.map_append] at ih
    have hl : ((List.range i).map (dp c)).length = i := by simp
    refine ev_succ ?_
    simp only [colophonref06_Depth.l0]
    simp only [if_pos (show (i : Int) < (c.length : Int) by omega)]
    exact refDepth_l1 c hb i hic _ hl (dps c) (by rw [← dp_cnt c i hic]; exact ih) i 0 (by omega)
theorem refDepth_ev (c : List Int) (hb : c.length ≤ 17592186043904) : Ev (fun k => colophonref06_Depth.f k c) (dps c) := by
  simp only [colophonref06_Depth.f]
  exact refDepth_l0 c hb c.length 0 (by omega)
theorem refBase_l0 (y : List Int) (hb : y.length ≤ 17592186043904) : ∀ (d i : Nat), i ≤ y.length → y.length - i ≤ d → Ev (fun k => colophonref06_Base.l0 k y (i : Int)) (bs (y.drop i) 0, 0) := by
  intro d
  induction d with
  | zero =>
    intro i hi hd
    refine ev_succ ?_
    simp only [colophonref06_Base.l0]
    simp only [if_neg (show ¬ (i : Int) < (y.length : Int) by omega)]
    rw [List.drop_eq_nil_of_le (by omega)]
    exact Ev.now _
  | succ d ih =>
    intro i hi hd
    refine ev_succ ?_
    simp only [colophonref06_Base.l0]
    by_cases hic : i < y.length
    · simp only [if_pos (show (i : Int) < (y.length : Int) by omega), if_pos (Int.natCast_nonneg i), rd_nat, starts_eq', Option.bind_some]
      by_cases hs : st (y.getD i 0) = true
      · simp only [if_pos hs]
        refine Ev.bind (Partner_ev y hb i hic) ?_
        have hg := partner_gt y i
        have hl := partner_le y i hic
        have hw : wrap64 (wrap64 (((partner y i : Nat) : Int) - 1) + 1) = ((partner y i : Nat) : Int) := by
          rw [w64' (i := ((partner y i : Nat) : Int) - 1) (by omega) (by omega), w64' (by omega) (by omega)]
          omega
        simp only [hw]
        rw [bs_skip y i hic hs]
        exact ih (partner y i) hl (by omega)
      · simp only [if_neg hs, w64 (show i < 9223372036854775807 by omega)]
        rw [drop_cons y i hic]
        simp only [bs, if_neg hs]
        have ih := ih (i + 1) (by omega) (by omega)
        by_cases h23 : y.getD i 0 = 23
        · rw [if_pos h23]
          simp only [if_neg (show ¬ y.getD i 0 = 1 by omega), if_neg (show ¬ y.getD i 0 = 2 by omega), if_neg (show ¬ y.getD i 0 = 3 by omega)]
          exact ih
        · rw [if_neg h23]
          by_cases h1 : y.getD i 0 = 1
          · rw [if_pos ⟨trivial, h1⟩]
            simp only [if_pos h1]
            exact Ev.now _
          · rw [if_neg (fun h => h1 h.2)]
            simp only [if_neg h1]
            by_cases h2 : y.getD i 0 = 2
            · rw [if_pos ⟨trivial, .inl h2⟩]
              simp only [if_pos h2]
              exact Ev.now _
            · simp only [if_neg h2]
              by_cases h3 : y.getD i 0 = 3
              · rw [if_pos ⟨trivial, .inr h3⟩]
                simp only [if_pos h3]
                exact Ev.now _
              · rw [if_neg (fun h => h.2.elim h2 h3)]
                simp only [if_neg h3]
                exact ih
    · simp only [if_neg (show ¬ (i : Int) < (y.length : Int) by omega)]
      rw [List.drop_eq_nil_of_le (by omega)]
      exact Ev.now _
theorem refBase_ev (c : List Int) (hb : c.length ≤ 17592186043904) (a b : Nat) (hab : a ≤ b) (hbc : b ≤ c.length) : Ev (fun k => colophonref06_Base.f k c (a : Int) (b : Int)) (bs ((c.take b).drop a) 0, 0) := by
  simp only [colophonref06_Base.f]
  simp only [if_neg (show ¬ (a : Int) < 0 by omega), if_neg (show ¬ (b : Int) > (c.length : Int) by omega), decide_eq_false (show ¬ (a : Int) > (b : Int) by omega)]
  refine ev_succ ?_
  simp only [colophonref06_Base.j0]
  simp only [Bool.false_eq_true, if_false, if_pos (Int.natCast_nonneg a), if_pos (show (a : Int) ≤ (b : Int) by omega), if_pos (show (b : Int) ≤ (c.length : Int) by omega), Int.toNat_natCast]
  have hl : ((c.take b).drop a).length ≤ 17592186043904 := by rw [List.length_drop, List.length_take]; omega
  have := refBase_l0 ((c.take b).drop a) hl ((c.take b).drop a).length 0 (by omega) (by omega)
  simpa using this
theorem refBase_bad (c : List Int) (from_ to_ : Int) (h : from_ < 0 ∨ to_ > (c.length : Int) ∨ from_ > to_) : Ev (fun k => colophonref06_Base.f k c from_ to_) (0, 4) := by
  have hj : Ev (fun k => colophonref06_Base.j0 k c from_ to_ true) (0, 4) := by
    refine ev_succ ?_
    simp only [colophonref06_Base.j0, if_true]
    exact Ev.now _
  simp only [colophonref06_Base.f]
  by_cases h1 : from_ < 0
  · simp only [if_pos h1]
    exact hj
  · simp only [if_neg h1]
    by_cases h2 : to_ > (c.length : Int)
    · simp only [if_pos h2]
      exact hj
    · simp only [if_neg h2, decide_eq_true (show from_ > to_ by omega)]
      exact hj
end Go.Proofs.Ytgjmfeijfkbceaa.Iso
