/- Chapter 11 in plain Lean: what neutral types get; what the printed functions come to. -/
import Derived.Test.YtcjmjggifeaggaaX2
namespace Go.Proofs.Ytcjmjggifeaggaa.Pure
open Go.RowKit Go.Proofs.Ytcjmjggifeaggaa.X Go.Proofs.Ytcjmjggifeaggaa.G Go.Proofs.YtcjmjggifeaggaaW.PrintWords Go.Proofs.YtcjmjggifeaggaaW.PrintLast Go.Proofs.YtcjmjggifeaggaaW.PrintMore

set_option linter.unusedVariables false
set_option linter.unusedSimpArgs false

theorem ev_succ {α : Type} {g : Nat → Option α} {r : α} (h : Ev (fun k => g (k + 1)) r) : Ev g r := Ev.step (fun _ => rfl) h
theorem w64 {i : Nat} (h : i < 9223372036854775807) : wrap64 ((i : Int) + 1) = ((i + 1 : Nat) : Int) := by
  unfold wrap64
  omega
theorem w64' {i : Int} (h0 : -9223372036854775808 ≤ i) (h : i ≤ 9223372036854775807) : wrap64 i = i := by
  unfold wrap64
  omega
theorem rd_nat (xs : List Int) (i : Nat) : rd xs (i : Int) = xs.getD i 0 := by
  unfold rd
  rw [Int.toNat_natCast]
theorem drop_cons (a : List Int) (i : Nat) (h : i < a.length) : a.drop i = a.getD i 0 :: a.drop (i + 1) := by
  rw [List.drop_eq_getElem_cons h]; simp [List.getD, h]
theorem take_snoc (a : List Int) (i : Nat) (h : i < a.length) : a.take (i + 1) = a.take i ++ [a.getD i 0] := by
  rw [List.take_succ_eq_append_getElem h]; simp [List.getD, h]
theorem Ints_l0 (a b : List Int) (hl : a.length = b.length) (hb : a.length ≤ 17592186044416) : ∀ d i : Nat, i + d = a.length → Ev (fun k => colophonref01_Ints.l0 k a b (i : Int)) (decide (a.drop i = b.drop i)) := by
  intro d
  induction d with
  | zero =>
    intro i hi
    refine ev_succ ?_
    simp only [colophonref01_Ints.l0]
    simp only [if_neg (show ¬ (i : Int) < (a.length : Int) by omega)]
    rw [List.drop_eq_nil_of_le (by omega), List.drop_eq_nil_of_le (by omega)]
    exact Ev.now true
  | succ d ih =>
    intro i hi
    refine ev_succ ?_
    simp only [colophonref01_Ints.l0]
    simp only [if_pos (show (i : Int) < (a.length : Int) by omega), if_pos (Int.natCast_nonneg i), if_pos (show (i : Int) < (b.length : Int) by omega), rd_nat, w64 (show i < 9223372036854775807 by omega)]
    rw [drop_cons a i (by omega), drop_cons b i (by omega)]
    by_cases e : a.getD i 0 = b.getD i 0
    · simp only [if_pos e]
      have := ih (i + 1) (by omega)
      rw [e]
      simpa using this
    · simp only [if_neg e]
      rw [decide_eq_false (by simp only [List.cons.injEq, not_and]; intro h; exact absurd h e)]
      exact Ev.now false
theorem Ints_ev (a b : List Int) (hb : a.length ≤ 17592186044416) : Ev (fun k => colophonref01_Ints.f k a b) (decide (a = b)) := by
  simp only [colophonref01_Ints.f]
  by_cases hl : a.length = b.length
  · simp only [if_pos (show (a.length : Int) = (b.length : Int) by omega)]
    have := Ints_l0 a b hl hb a.length 0 (by omega)
    simpa using this
  · simp only [if_neg (show ¬ (a.length : Int) = (b.length : Int) by omega)]
    rw [decide_eq_false (by rintro rfl; exact hl rfl)]
    exact Ev.now false
theorem Ints_same (a : List Int) (hb : a.length ≤ 17592186044416) : Ev (fun k => colophonref01_Ints.f k a a) true := by
  have := Ints_ev a a hb
  simpa using this

/-! ### The first side -/
/-- the side of the first that has one; else f -/
def fst : List Int → Int → Int
  | [], f => f
  | x :: r, f => if sideOf x = 0 then fst r f else sideOf x
theorem fst_append (a b : List Int) (f : Int) : fst (a ++ b) f = fst a (fst b f) := by
  induction a with
  | nil => rfl
  | cons x a ih => simp only [List.cons_append, fst, ih]
theorem side_or (x : Int) : sideOf x = 0 ∨ sideOf x = 1 ∨ sideOf x = 2 := by
  unfold sideOf; split; · simp
  split; · simp
  split; · simp
  split <;> simp
theorem fst_or (l : List Int) (f : Int) (h : f = 1 ∨ f = 2) : fst l f = 1 ∨ fst l f = 2 := by
  induction l with
  | nil => exact h
  | cons x l ih =>
    unfold fst
    split
    · exact ih
    · rcases side_or x with e | e | e
      · contradiction
      · exact .inl e
      · exact .inr e

/-- what stands at a place in the end -/
def at_ (l : List Int) (a1 a2 a3 : Int) (i : Nat) : Int := if sideOf (l.getD i 0) = 0 then (if fst (l.take i).reverse a2 = fst (l.drop (i + 1)) a3 then fst (l.take i).reverse a2 else 1 + a1 % 2) else l.getD i 0
def res (l : List Int) (a1 a2 a3 : Int) : List Int := (List.range l.length).map (at_ l a1 a2 a3)
theorem res_length (l : List Int) (a1 a2 a3 : Int) : (res l a1 a2 a3).length = l.length := by simp [res]
theorem res_getD (l : List Int) (a1 a2 a3 : Int) (i : Nat) (h : i < l.length) : (res l a1 a2 a3).getD i 0 = at_ l a1 a2 a3 i := by simp [res, List.getD, h]

/-! ### lasts -/
theorem foldl_lasts {n : Nat} (L : List (Fin n × Int)) : ∀ (s : Int × List Int), (L.foldl lastStep s).1 = fst (L.map (·.2)).reverse s.1 := by
  induction L with
  | nil => intro s; rfl
  | cons x L ih =>
    intro s
    rw [List.foldl_cons, ih]
    simp only [List.map_cons, List.reverse_cons, fst_append, lastStep, lastNext, fst]
theorem foldl_far {n : Nat} (L : List (Fin n × Int)) (j : Nat) (hj : ∀ x ∈ L, x.1.val ≠ j) : ∀ (s : Int × List Int), (L.foldl lastStep s).2.getD j 0 = s.2.getD j 0 := by
  induction L with
  | nil => intro s; rfl
  | cons x L ih =>
    intro s
    rw [List.foldl_cons, ih (fun y hy => hj y (by simp [hy]))]
    have : x.1.val ≠ j := hj x (by simp)
    simp [lastStep, List.getD, List.getElem?_set, this]
theorem lasts_at {n : Nat} (f0 : Int) (L R : List (Fin n × Int)) (x : Fin n × Int) (hR : ∀ y ∈ R, y.1 ≠ x.1) : (lastsOf n f0 (L ++ x :: R)).2.getD x.1 0 = fst (x.2 :: (L.map (·.2)).reverse) f0 := by
  unfold lastsOf
  rw [List.foldl_append, List.foldl_cons, foldl_far R x.1.val (fun y hy e => hR y hy (Fin.ext e))]
  have hlen : ∀ (L : List (Fin n × Int)) (s : Int × List Int), (L.foldl lastStep s).2.length = s.2.length := by
    intro L
    induction L with
    | nil => intro s; rfl
    | cons x L ih => intro s; rw [List.foldl_cons, ih, lastStep_length]
  have h1 := foldl_lasts L (f0, List.replicate n 0)
  have h2 := hlen L (f0, List.replicate n 0)
  generalize L.foldl lastStep (f0, List.replicate n 0) = s at *
  have hx : x.1.val < s.2.length := by rw [h2]; simp
  simp [lastStep, List.getD, hx, lastNext, fst, h1]
theorem ofFn_split {α : Type} {n : Nat} (f : Fin n → α) (k : Nat) (h : k < n) : List.ofFn f = (List.ofFn f).take k ++ f ⟨k, h⟩ :: (List.ofFn f).drop (k + 1) := by
  conv => lhs; rw [← List.take_append_drop k (List.ofFn f)]
  rw [List.drop_eq_getElem_cons (by simpa using h)]
  simp
theorem all_at (l : List Int) (f0 : Int) (i : Nat) (h : i < l.length) : (lastsOf l.length f0 (allOf l)).2.getD i 0 = fst (l.getD i 0 :: (l.take i).reverse) f0 := by
  have hs := ofFn_split (fun k : Fin l.length => (k, l[k])) i h
  have := lasts_at f0 ((allOf l).take i) ((allOf l).drop (i + 1)) ((⟨i, h⟩ : Fin l.length), l[i]) (by
    intro y hy e
    obtain ⟨j, hj, rfl⟩ := List.mem_iff_getElem.1 hy
    simp only [allOf, List.getElem_drop, List.getElem_ofFn] at e
    have := congrArg Fin.val e
    simp at this
    omega)
  rw [show allOf l = (allOf l).take i ++ ((⟨i, h⟩ : Fin l.length), l[i]) :: (allOf l).drop (i + 1) from hs]
  rw [this]
  have e2 : ((allOf l).take i).map (·.2) = l.take i := by
    rw [List.map_take]
    congr 1
    apply List.ext_getElem
    · simp [allOf]
    · intro j h1 h2; simp [allOf]
  rw [e2]
  simp [List.getD, h]
theorem back_at (l : List Int) (f0 : Int) (i : Nat) (h : i < l.length) : (lastsOf l.length f0 (backOf l)).2.getD i 0 = fst (l.drop i) f0 := by
  obtain ⟨k, hk⟩ : ∃ k, l.length = i + 1 + k := ⟨l.length - 1 - i, by omega⟩
  have hkl : k < l.length := by omega
  have hs := ofFn_split (fun k : Fin l.length => (k.rev, l[k.rev])) k hkl
  have hrev : (⟨k, hkl⟩ : Fin l.length).rev = ⟨i, h⟩ := by apply Fin.ext; simp [Fin.rev]; omega
  have := lasts_at f0 ((backOf l).take k) ((backOf l).drop (k + 1)) ((⟨i, h⟩ : Fin l.length), l[i]) (by
    intro y hy e
    obtain ⟨j, hj, rfl⟩ := List.mem_iff_getElem.1 hy
    simp only [backOf, List.getElem_drop, List.getElem_ofFn] at e
    have := congrArg Fin.val e
    simp [backOf] at hj
    simp [Fin.rev] at this
    omega)
  rw [show backOf l = (backOf l).take k ++ ((⟨i, h⟩ : Fin l.length), l[i]) :: (backOf l).drop (k + 1) by
    have := hs
    simp only [hrev] at this
    exact this]
  rw [this]
  have e2 : (((backOf l).take k).map (·.2)).reverse = l.drop (i + 1) := by
    apply List.ext_getElem
    · simp [backOf]; omega
    · intro j h1 h2
      simp [backOf] at h1
      simp only [List.getElem_reverse, List.getElem_map, List.getElem_take, backOf, List.getElem_ofFn, List.getElem_drop, List.length_map, List.length_take, List.length_ofFn, Fin.getElem_fin]
      congr 1
      simp [Fin.rev]
      omega
  simp only [e2]
  rw [List.drop_eq_getElem_cons h]

/-! ### The program's answer -/
theorem resOf_eq (l : List Int) (a1 a2 a3 : Int) : resOf l a1 a2 a3 = res l a1 a2 a3 := by
  unfold resOf res
  apply List.map_congr_left
  intro i hi
  have h : i < l.length := by simpa using hi
  simp only [rd_nat, all_at l a2 i h, back_at l a3 i h]
  unfold resAt at_
  by_cases e : sideOf (l.getD i 0) = 0
  · rw [if_neg (by simpa using e), if_pos e]
    rw [show l.drop i = l.getD i 0 :: l.drop (i + 1) from drop_cons l i h]
    simp only [fst, if_pos e]
  · rw [if_pos e, if_neg e]
def bad (a1 a2 a3 : Int) : Prop := a1 < 0 ∨ 126 < a1 ∨ (a2 ≠ 1 ∧ a2 ≠ 2) ∨ (a3 ≠ 1 ∧ a3 ≠ 2)
instance (a1 a2 a3 : Int) : Decidable (bad a1 a2 a3) := by unfold bad; infer_instance
def NR (l : List Int) (a1 a2 a3 : Int) : List Int × Int := if bad a1 a2 a3 then ([], 2) else if l.all okT then (res l a1 a2 a3, 0) else ([], 50)
theorem Resolve_f (l : List Int) (a1 a2 a3 : Int) (h : l.length < 17592186044416) : neutral_Resolve.f l a1 a2 a3 = some (NR l a1 a2 a3) := by
  rw [neutral_Resolve.f, if_pos h, resOf_eq]; rfl

/-! ### The document's answer -/
theorem Side_f (x : Int) : colophonref10_Side.f x = some (sideOf x) := by
  unfold colophonref10_Side.f sideOf
  split; · rfl
  split; · rfl
  split; · rfl
  split <;> rfl
theorem May_f (x : Int) : colophonref10_May.f x = some (okT x) := by
  unfold colophonref10_May.f
  rw [Side_f, Option.bind_some]
  by_cases e : sideOf x = 0
  · rw [if_pos e]
    have : okT x = neutB x := by simp [okT, e]
    rw [this]
    unfold neutB
    by_cases h1 : x = 11; · rw [if_pos h1]; subst h1; rfl
    rw [if_neg h1]
    by_cases h2 : x = 12; · rw [if_pos h2]; subst h2; rfl
    rw [if_neg h2]
    by_cases h3 : x = 13; · rw [if_pos h3]; subst h3; rfl
    rw [if_neg h3]
    by_cases h4 : x = 14; · rw [if_pos h4]; subst h4; rfl
    rw [if_neg h4]
    by_cases h5 : x = 20; · rw [if_pos h5]; subst h5; rfl
    rw [if_neg h5]
    by_cases h6 : x = 21; · rw [if_pos h6]; subst h6; rfl
    rw [if_neg h6]
    by_cases h7 : x = 22; · rw [if_pos h7]; subst h7; rfl
    rw [if_neg h7]
    congr 1
    rw [Bool.eq_iff_iff]
    simp
    omega
  · rw [if_neg e]
    have : okT x = true := by simp [okT, e]
    rw [this]
theorem side_down (l : List Int) (f : Int) (hb : l.length ≤ 17592186044416) : ∀ i : Nat, i ≤ l.length → Ev (fun k => colophonref11_side.l0 k l (-1) f ((i : Int) - 1)) (fst (l.take i).reverse f) := by
  intro i
  induction i with
  | zero =>
    intro h
    refine ev_succ ?_
    simp only [colophonref11_side.l0, if_neg (show ¬ ((0 : Nat) : Int) - 1 ≥ 0 by omega)]
    refine ev_succ ?_
    simp only [colophonref11_side.j1, Bool.false_eq_true, if_false]
    exact Ev.now _
  | succ i ih =>
    intro h
    refine ev_succ ?_
    rw [show ((i + 1 : Nat) : Int) - 1 = (i : Int) by omega]
    simp only [colophonref11_side.l0, if_pos (show (i : Int) ≥ 0 by omega)]
    refine ev_succ ?_
    simp only [colophonref11_side.j1, decide_eq_true (show (i : Int) < (l.length : Int) by omega), if_true, if_pos (show 0 ≤ (i : Int) by omega), if_pos (show (i : Int) < (l.length : Int) by omega), Side_f, Option.bind_some, rd_nat]
    rw [take_snoc l i (by omega), List.reverse_append, List.reverse_cons, List.reverse_nil, List.nil_append, List.cons_append, List.nil_append, fst]
    by_cases e : sideOf (l.getD i 0) = 0
    · simp only [if_pos e]
      rw [show wrap64 ((i : Int) + -1) = (i : Int) - 1 by unfold wrap64; omega]
      exact ih (by omega)
    · simp only [if_neg e]
      exact Ev.now _
theorem side_up (l : List Int) (f : Int) (hb : l.length ≤ 17592186044416) : ∀ d i : Nat, i + d = l.length → Ev (fun k => colophonref11_side.l0 k l 1 f (i : Int)) (fst (l.drop i) f) := by
  intro d
  induction d with
  | zero =>
    intro i h
    refine ev_succ ?_
    simp only [colophonref11_side.l0, if_pos (show (i : Int) ≥ 0 by omega)]
    refine ev_succ ?_
    simp only [colophonref11_side.j1, decide_eq_false (show ¬ (i : Int) < (l.length : Int) by omega), Bool.false_eq_true, if_false]
    rw [List.drop_eq_nil_of_le (by omega)]
    exact Ev.now _
  | succ d ih =>
    intro i h
    refine ev_succ ?_
    simp only [colophonref11_side.l0, if_pos (show (i : Int) ≥ 0 by omega)]
    refine ev_succ ?_
    simp only [colophonref11_side.j1, decide_eq_true (show (i : Int) < (l.length : Int) by omega), if_true, if_pos (show 0 ≤ (i : Int) by omega), if_pos (show (i : Int) < (l.length : Int) by omega), Side_f, Option.bind_some, rd_nat]
    rw [drop_cons l i (by omega), fst]
    by_cases e : sideOf (l.getD i 0) = 0
    · simp only [if_pos e, w64 (show i < 9223372036854775807 by omega)]
      exact ih (i + 1) (by omega)
    · simp only [if_neg e]
      exact Ev.now _
theorem refside_down (l : List Int) (f : Int) (hb : l.length ≤ 17592186044416) (i : Nat) (h : i < l.length) : Ev (fun k => colophonref11_side.f k l (i : Int) (-1) f) (fst (l.take i).reverse f) := by
  simp only [colophonref11_side.f]
  rw [show wrap64 ((i : Int) + -1) = (i : Int) - 1 by unfold wrap64; omega]
  exact side_down l f hb i (by omega)
theorem refside_up (l : List Int) (f : Int) (hb : l.length ≤ 17592186044416) (i : Nat) (h : i < l.length) : Ev (fun k => colophonref11_side.f k l (i : Int) 1 f) (fst (l.drop (i + 1)) f) := by
  simp only [colophonref11_side.f, w64 (show i < 9223372036854775807 by omega)]
  exact side_up l f hb (l.length - (i + 1)) (i + 1) (by omega)
theorem res_take (l : List Int) (a1 a2 a3 : Int) (i : Nat) (h : i < l.length) : (res l a1 a2 a3).take (i + 1) = (res l a1 a2 a3).take i ++ [at_ l a1 a2 a3 i] := by
  rw [take_snoc _ i (by rw [res_length]; exact h), res_getD l a1 a2 a3 i h]
theorem ref_l0 (l : List Int) (a1 a2 a3 : Int) (h0 : 0 ≤ a1) (hb : l.length < 17592186044416) : ∀ d i : Nat, i + d = l.length →
    Ev (fun k => colophonref11_Resolve.l0 k l a1 a2 a3 ((res l a1 a2 a3).take i) (i : Int)) (if (l.drop i).all okT then (res l a1 a2 a3, 0) else ([], 50)) := by
  intro d
  induction d with
  | zero =>
    intro i h
    refine ev_succ ?_
    simp only [colophonref11_Resolve.l0, if_neg (show ¬ (i : Int) < (l.length : Int) by omega)]
    rw [List.drop_eq_nil_of_le (by omega), List.take_of_length_le (by rw [res_length]; omega)]
    exact Ev.now _
  | succ d ih =>
    intro i h
    have hi : i < l.length := by omega
    have hlen : ((res l a1 a2 a3).take i).length < 17592186044416 := by rw [List.length_take, res_length]; omega
    refine ev_succ ?_
    simp only [colophonref11_Resolve.l0, if_pos (show (i : Int) < (l.length : Int) by omega), if_pos (show 0 ≤ (i : Int) by omega), May_f, Side_f, Option.bind_some, rd_nat, if_pos hlen, w64 (show i < 9223372036854775807 by omega)]
    rw [drop_cons l i hi, List.all_cons]
    by_cases ok : okT (l.getD i 0) = true
    · simp only [if_pos ok, ok, Bool.true_and]
      have next := ih (i + 1) (by omega)
      rw [res_take l a1 a2 a3 i hi] at next
      by_cases e : sideOf (l.getD i 0) = 0
      · simp only [if_pos e]
        refine Ev.bind (refside_down l a2 (by omega) i hi) ?_
        refine Ev.bind (refside_up l a3 (by omega) i hi) ?_
        unfold at_ at next
        rw [if_pos e] at next
        by_cases q : fst (l.take i).reverse a2 = fst (l.drop (i + 1)) a3
        · simp only [if_pos q] at next ⊢
          rw [q] at next ⊢
          exact next
        · simp only [if_neg q] at next ⊢
          rw [Int.tmod_eq_emod_of_nonneg h0]
          by_cases p : a1 % 2 = 1
          · simp only [if_pos p]
            rw [p] at next
            exact next
          · simp only [if_neg p]
            rw [show a1 % 2 = 0 by omega] at next
            exact next
      · simp only [if_neg e]
        unfold at_ at next
        rw [if_neg e] at next
        exact next
    · simp only [if_neg ok]
      rw [Bool.eq_false_iff.2 ok]
      exact Ev.now _
theorem ref_ev (l : List Int) (a1 a2 a3 : Int) (hb : l.length < 17592186044416) : Ev (fun k => colophonref11_Resolve.f k l a1 a2 a3) (NR l a1 a2 a3) := by
  have bad' : Ev (fun k => colophonref11_Resolve.j0 k l a1 a2 a3 true) ([], 2) := by
    refine ev_succ ?_
    simp only [colophonref11_Resolve.j0, if_true]
    exact Ev.now _
  simp only [colophonref11_Resolve.f]
  unfold NR
  by_cases h1 : a1 < 0
  · simp only [if_pos h1]; rw [if_pos (.inl h1)]; exact bad'
  simp only [if_neg h1]
  by_cases h2 : a1 > 126
  · simp only [if_pos h2]; rw [if_pos (.inr (.inl h2))]; exact bad'
  simp only [if_neg h2]
  by_cases h3 : a2 < 1
  · simp only [if_pos h3]; rw [if_pos (.inr (.inr (.inl (by omega))))]; exact bad'
  simp only [if_neg h3]
  by_cases h4 : a2 > 2
  · simp only [if_pos h4]; rw [if_pos (.inr (.inr (.inl (by omega))))]; exact bad'
  simp only [if_neg h4]
  by_cases h5 : a3 < 1
  · simp only [if_pos h5]; rw [if_pos (.inr (.inr (.inr (by omega))))]; exact bad'
  simp only [if_neg h5]
  by_cases h6 : a3 > 2
  · simp only [decide_eq_true h6]; rw [if_pos (.inr (.inr (.inr (by omega))))]; exact bad'
  simp only [decide_eq_false h6]
  rw [if_neg (by unfold bad; omega)]
  refine ev_succ ?_
  simp only [colophonref11_Resolve.j0, Bool.false_eq_true, if_false]
  have := ref_l0 l a1 a2 a3 (by omega) hb l.length 0 (by omega)
  simpa using this

/-! ### Levels -/
theorem or_one (a : Int) (h0 : 0 ≤ a) (h1 : a ≤ 126) : Go.bits .or .i64 a 1 = a + 1 - a % 2 := by
  obtain ⟨n, rfl⟩ := Int.eq_ofNat_of_zero_le h0
  have h : ∀ n : Fin 127, Go.bits .or .i64 ((n.val : Nat) : Int) 1 = ((n.val : Nat) : Int) + 1 - ((n.val : Nat) : Int) % 2 := by decide +kernel
  exact h ⟨n, by omega⟩
def lev (a x : Int) : Int := if x = 2 then a + 1 - a % 2 else if x = 1 then a + a % 2 else a + 2 - a % 2
def LV (l : List Int) (a : Int) : List Int × Int := if a < 0 ∨ 126 < a then ([], 2) else if l.all (fun x => sideOf x != 0) then (l.map (lev a), 0) else ([], 50)
theorem levGo_eq (a : Int) (h0 : 0 ≤ a) (h1 : a ≤ 126) (l : List Int) : ∀ acc, levGo a acc l = if l.all (fun x => sideOf x != 0) then (acc ++ l.map (lev a), 0) else ([], 50) := by
  induction l with
  | nil => intro acc; simp [levGo]
  | cons x l ih =>
    intro acc
    rw [levGo]
    by_cases e : sideOf x = 0
    · rw [if_pos e]; simp [e]
    · rw [if_neg e, ih]
      have : levOf a x = lev a x := by
        unfold levOf lev
        by_cases x2 : x = 2
        · rw [if_pos x2, if_pos x2, or_one a h0 h1]
        · rw [if_neg x2, if_neg x2]
          by_cases x1 : x = 1
          · rw [if_pos (.inl x1), if_pos x1]
          · rw [if_neg x1]
            by_cases p : a % 2 = 1
            · rw [if_pos (.inr p)]; omega
            · rw [if_neg (by simp [x1, p])]; omega
      rw [this]
      simp [e]
theorem Levels_f (l : List Int) (a : Int) (h : l.length < 17592186044416) : neutral_Levels.f l a = some (LV l a) := by
  rw [neutral_Levels.f, if_pos h]
  unfold LV
  by_cases b : a < 0 ∨ 126 < a
  · rw [if_pos b, if_pos b]
  · rw [if_neg b, if_neg b, levGo_eq a (by omega) (by omega) l []]
    rfl
theorem refGo_eq (a : Int) (h0 : 0 ≤ a) (l : List Int) : ∀ acc, refGo a acc l = if l.all (fun x => sideOf x != 0) then (acc ++ l.map (lev a), 0) else ([], 50) := by
  induction l with
  | nil => intro acc; simp [refGo]
  | cons x l ih =>
    intro acc
    rw [refGo]
    by_cases e : x ≠ 1 ∧ x ≠ 2 ∧ x ≠ 4 ∧ x ≠ 7
    · have : sideOf x = 0 := by simp [sideOf, e]
      rw [if_pos e]; simp [this]
    · rw [if_neg e, ih]
      have hx : x = 1 ∨ x = 2 ∨ x = 4 ∨ x = 7 := by omega
      have e1 : sideOf x ≠ 0 := by rcases hx with rfl | rfl | rfl | rfl <;> decide
      have e2 : refLev a x = lev a x := by
        unfold refLev lev
        by_cases p : a % 2 = 0
        · rw [if_pos p]
          rcases hx with rfl | rfl | rfl | rfl <;> simp [rd, evens] <;> omega
        · rw [if_neg p]
          rcases hx with rfl | rfl | rfl | rfl <;> simp [rd, odds] <;> omega
      rw [e2]
      simp [e1]
theorem refLevels_f (l : List Int) (a : Int) (h : l.length < 17592186044416) : colophonref11_Levels.f l a = some (LV l a) := by
  rw [colophonref11_Levels.f, if_pos h]
  unfold LV
  by_cases b : a < 0 ∨ 126 < a
  · rw [if_pos b, if_pos b]
  · rw [if_neg b, if_neg b, refGo_eq a (by omega) l []]
    rfl
theorem works_ev : Ev (fun k => colophonlaw11_works.f k) true := by
  simp only [colophonlaw11_works.f]
  rw [Resolve_f _ _ _ _ (by decide), Levels_f _ _ (by decide)]
  have e1 : NR [2, 13, 1] 1 1 1 = ([2, 2, 1], 0) := by decide +kernel
  have e2 : LV [1, 2, 4, 7] 0 = ([0, 1, 2, 2], 0) := by decide +kernel
  simp only [e1, e2, Option.bind_some, if_true]
  refine Ev.bind (Ints_same [2, 2, 1] (by decide)) ?_
  simp only [if_true]
  refine Ev.bind (Ints_same [0, 1, 2, 2] (by decide)) ?_
  exact Ev.now _
end Go.Proofs.Ytcjmjggifeaggaa.Pure
