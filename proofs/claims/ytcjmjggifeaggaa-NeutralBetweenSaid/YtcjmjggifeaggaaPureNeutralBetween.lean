/- The pure statement of NeutralBetween: neutral types between two of one side have that side; between two of unlike ones the embedding direction; what stands further off does not matter. -/
import Derived.Test.YtcjmjggifeaggaaX5
import Derived.Test.YtcjmjggifeaggaaNeuT
namespace Go.Proofs.Ytcjmjggifeaggaa.Pure
open Go.RowKit Go.Proofs.Ytcjmjggifeaggaa.X Go.Proofs.Ytcjmjggifeaggaa.G Go.Proofs.YtcjmjggifeaggaaW.PrintWords Go.Proofs.YtcjmjggifeaggaaW.PrintLast Go.Proofs.YtcjmjggifeaggaaW.PrintMore
set_option linter.unusedVariables false
set_option linter.unusedSimpArgs false

theorem lawside_f (x : Int) : colophonlaw11_side.f x = some (sideOf x) := by
  unfold colophonlaw11_side.f sideOf
  split; · rfl
  split; · rfl
  split; · rfl
  split <;> rfl
def fillAt (i : Nat) : Int := [13, 14, 23, 12].getD (i % 4) 0
def fill (n : Nat) : List Int := (List.range n).map fillAt
theorem fillAt_or (i : Nat) : fillAt i = 13 ∨ fillAt i = 14 ∨ fillAt i = 23 ∨ fillAt i = 12 := by
  unfold fillAt
  have h : i % 4 = 0 ∨ i % 4 = 1 ∨ i % 4 = 2 ∨ i % 4 = 3 := by omega
  rcases h with h | h | h | h <;> rw [h] <;> simp
theorem fillAt_side (i : Nat) : sideOf (fillAt i) = 0 := by rcases fillAt_or i with h | h | h | h <;> rw [h] <;> decide
theorem fillAt_ok (i : Nat) : okT (fillAt i) = true := by rcases fillAt_or i with h | h | h | h <;> rw [h] <;> decide
theorem fill_succ (n : Nat) : fill (n + 1) = fill n ++ [fillAt n] := by simp [fill, List.range_succ]
theorem fst_zeros (a b : List Int) (f : Int) (h : ∀ x ∈ a, sideOf x = 0) : fst (a ++ b) f = fst b f := by
  rw [fst_append]
  induction a with
  | nil => rfl
  | cons x a ih => rw [fst, if_pos (h x (by simp)), ih (fun y hy => h y (by simp [hy]))]
theorem fill_zero (n : Nat) : ∀ x ∈ fill n, sideOf x = 0 := by
  intro x hx
  simp only [fill, List.mem_map] at hx
  obtain ⟨i, _, rfl⟩ := hx
  exact fillAt_side i
theorem mem_strong (x : Int) (h : x = 1 ∨ x = 2 ∨ x = 4 ∨ x = 7) : sideOf x ≠ 0 ∧ okT x = true := by rcases h with rfl | rfl | rfl | rfl <;> decide
theorem between_at (n : Nat) (x y a1 s e : Int) (hx : sideOf x ≠ 0) (hy : sideOf y ≠ 0) (i : Nat) (h1 : 1 ≤ i) (h2 : i ≤ n) : at_ ([x] ++ fill n ++ [y]) a1 s e i = if sideOf x = sideOf y then sideOf x else 1 + a1 % 2 := by
  obtain ⟨j, rfl⟩ : ∃ j, i = j + 1 := ⟨i - 1, by omega⟩
  have hf : (fill n).length = n := by simp [fill]
  have g : ([x] ++ fill n ++ [y]).getD (j + 1) 0 = fillAt j := by
    simp only [List.append_assoc, List.singleton_append, List.cons_append, List.nil_append, List.getElem?_cons_succ, List.getD_cons_succ, List.getD_eq_getElem?_getD]
    rw [List.getElem?_append_left (by omega)]
    simp [fill, show j < n by omega]
  have t1 : (([x] ++ fill n ++ [y]).take (j + 1)).reverse = ((fill n).take j).reverse ++ [x] := by
    simp only [List.append_assoc, List.singleton_append, List.cons_append, List.nil_append, List.getElem?_cons_succ, List.take_succ_cons, List.reverse_cons]
    rw [List.take_append_of_le_length (by omega)]
  have t2 : ([x] ++ fill n ++ [y]).drop (j + 1 + 1) = (fill n).drop (j + 1) ++ [y] := by
    simp only [List.append_assoc, List.singleton_append, List.cons_append, List.nil_append, List.getElem?_cons_succ, List.drop_succ_cons]
    rw [List.drop_append_of_le_length (by omega)]
  unfold at_
  rw [g, if_pos (fillAt_side j), t1, t2, fst_zeros _ _ _ (fun z hz => fill_zero n z (List.mem_of_mem_take (List.mem_reverse.1 hz))), fst_zeros _ _ _ (fun z hz => fill_zero n z (List.mem_of_mem_drop hz)), fst, if_neg hx, fst, if_neg hy]
theorem between_NR (n : Nat) (x y a1 s e : Int) (hx : okT x = true) (hy : okT y = true) (h0 : 0 ≤ a1) (h1 : a1 ≤ 126) (hs : s = 1 ∨ s = 2) (he : e = 1 ∨ e = 2) : NR ([x] ++ fill n ++ [y]) a1 s e = (res ([x] ++ fill n ++ [y]) a1 s e, 0) := by
  unfold NR
  rw [if_neg (by unfold bad; omega), if_pos]
  simp only [List.all_append, List.all_cons, List.all_nil, hx, hy, Bool.and_true, Bool.true_and]
  rw [List.all_eq_true]
  intro z hz
  simp only [fill, List.mem_map] at hz
  obtain ⟨i, _, rfl⟩ := hz
  exact fillAt_ok i
theorem between_l3 (n : Nat) (hn : n ≤ 50) (t : List Int) (a1 w s e : Int) (ht : t.length = n + 2) (hv : ∀ i : Nat, 1 ≤ i → i ≤ n → at_ t a1 s e i = w) (next : Ev (fun k => colophonlaw11_NeutralBetween.l2 k (n : Int) a1 t w s (wrap64 (e + 1))) true) :
    ∀ d i : Nat, i + d = n + 1 → 1 ≤ i → Ev (fun k => colophonlaw11_NeutralBetween.l3 k (n : Int) a1 t w s e (res t a1 s e) (i : Int)) true := by
  intro d
  induction d with
  | zero =>
    intro i h hi
    refine ev_succ ?_
    simp only [colophonlaw11_NeutralBetween.l3, if_neg (show ¬ (i : Int) ≤ (n : Int) by omega)]
    exact next
  | succ d ih =>
    intro i h hi
    refine ev_succ ?_
    have er := res_getD t a1 s e i (by omega)
    simp only [colophonlaw11_NeutralBetween.l3, if_pos (show (i : Int) ≤ (n : Int) by omega), res_length, if_pos (show 0 ≤ (i : Int) by omega), if_pos (show (i : Int) < (t.length : Int) by omega), rd_nat, er, hv i hi (by omega), if_true, w64 (show i < 9223372036854775807 by omega)]
    exact ih (i + 1) (by omega) (by omega)
theorem between_l2 (n : Nat) (hn : n ≤ 50) (x y a1 w s e : Int) (hx : okT x = true) (hy : okT y = true) (h0 : 0 ≤ a1) (h1 : a1 ≤ 126) (hs : s = 1 ∨ s = 2) (he : e = 1 ∨ e = 2) (hv : ∀ i : Nat, 1 ≤ i → i ≤ n → at_ ([x] ++ fill n ++ [y]) a1 s e i = w)
    (next : Ev (fun k => colophonlaw11_NeutralBetween.l2 k (n : Int) a1 ([x] ++ fill n ++ [y]) w s (wrap64 (e + 1))) true) : Ev (fun k => colophonlaw11_NeutralBetween.l2 k (n : Int) a1 ([x] ++ fill n ++ [y]) w s e) true := by
  have ht : ([x] ++ fill n ++ [y]).length = n + 2 := by simp [fill]
  refine ev_succ ?_
  simp only [colophonlaw11_NeutralBetween.l2, if_pos (show e ≤ 2 by omega), Resolve_f _ a1 s e (show ([x] ++ fill n ++ [y]).length < 17592186044416 by omega), between_NR n x y a1 s e hx hy h0 h1 hs he, Option.bind_some, if_true, res_length]
  refine ev_succ ?_
  have eb : ((([x] ++ fill n ++ [y]).length : Int) != wrap64 ((n : Int) + 2)) = false := by
    rw [ht, show wrap64 ((n : Int) + 2) = (n : Int) + 2 by unfold wrap64; omega]
    simp
  simp only [colophonlaw11_NeutralBetween.j4, eb, Bool.false_eq_true, if_false]
  exact between_l3 n hn _ a1 w s e ht hv next n 1 (by omega) (by omega)
theorem between_l2_end (n : Nat) (t : List Int) (a1 w s : Int) (next : Ev (fun k => colophonlaw11_NeutralBetween.l1 k (n : Int) a1 t w (wrap64 (s + 1))) true) : Ev (fun k => colophonlaw11_NeutralBetween.l2 k (n : Int) a1 t w s 3) true := by
  refine ev_succ ?_
  simp only [colophonlaw11_NeutralBetween.l2, if_neg (show ¬ (3 : Int) ≤ 2 by omega)]
  exact next
theorem between_l1 (n : Nat) (hn : n ≤ 50) (x y a1 w : Int) (hx : okT x = true) (hy : okT y = true) (h0 : 0 ≤ a1) (h1 : a1 ≤ 126) (hv : ∀ (s e : Int) (i : Nat), 1 ≤ i → i ≤ n → at_ ([x] ++ fill n ++ [y]) a1 s e i = w) : Ev (fun k => colophonlaw11_NeutralBetween.l1 k (n : Int) a1 ([x] ++ fill n ++ [y]) w 1) true := by
  have l13 : Ev (fun k => colophonlaw11_NeutralBetween.l1 k (n : Int) a1 ([x] ++ fill n ++ [y]) w 3) true := by
    refine ev_succ ?_
    simp only [colophonlaw11_NeutralBetween.l1, if_neg (show ¬ (3 : Int) ≤ 2 by omega)]
    exact Ev.now _
  have row : ∀ s : Int, s = 1 ∨ s = 2 → Ev (fun k => colophonlaw11_NeutralBetween.l1 k (n : Int) a1 ([x] ++ fill n ++ [y]) w (wrap64 (s + 1))) true → Ev (fun k => colophonlaw11_NeutralBetween.l1 k (n : Int) a1 ([x] ++ fill n ++ [y]) w s) true := by
    intro s hs next
    refine ev_succ ?_
    simp only [colophonlaw11_NeutralBetween.l1, if_pos (show s ≤ 2 by omega)]
    refine between_l2 n hn x y a1 w s 1 hx hy h0 h1 hs (.inl rfl) (fun i a b => hv s 1 i a b) ?_
    rw [show wrap64 (1 + 1) = 2 by unfold wrap64; omega]
    refine between_l2 n hn x y a1 w s 2 hx hy h0 h1 hs (.inr rfl) (fun i a b => hv s 2 i a b) ?_
    rw [show wrap64 (2 + 1) = 3 by unfold wrap64; omega]
    exact between_l2_end n _ a1 w s next
  refine row 1 (.inl rfl) ?_
  rw [show wrap64 (1 + 1) = 2 by unfold wrap64; omega]
  refine row 2 (.inr rfl) ?_
  rw [show wrap64 (2 + 1) = 3 by unfold wrap64; omega]
  exact l13
theorem between_l0 (n : Nat) (hn : n ≤ 50) (x y a1 : Int) (hx : x = 1 ∨ x = 2 ∨ x = 4 ∨ x = 7) (hy : y = 1 ∨ y = 2 ∨ y = 4 ∨ y = 7) (h0 : 0 ≤ a1) (h1 : a1 ≤ 126) : ∀ d i : Nat, i + d = n → Ev (fun k => colophonlaw11_NeutralBetween.l0 k (n : Int) a1 x y ([x] ++ fill i) (i : Int)) true := by
  obtain ⟨sx, ox⟩ := mem_strong x hx
  obtain ⟨sy, oy⟩ := mem_strong y hy
  intro d
  induction d with
  | zero =>
    intro i h
    obtain rfl : i = n := by omega
    refine ev_succ ?_
    have hlen : ([x] ++ fill i).length < 17592186044416 := by simp [fill]; omega
    simp only [colophonlaw11_NeutralBetween.l0, if_neg (show ¬ (i : Int) < (i : Int) by omega), if_pos hlen, Option.bind_some, lawside_f]
    have e1 : wrap64 (1 + Int.tmod a1 2) = 1 + a1 % 2 := by rw [Int.tmod_eq_emod_of_nonneg h0]; unfold wrap64; omega
    have key : ∀ w : Int, (if sideOf x = sideOf y then sideOf x else 1 + a1 % 2) = w → Ev (fun k => colophonlaw11_NeutralBetween.j1 k (i : Int) a1 ([x] ++ fill i ++ [y]) w) true := by
      intro w hw
      refine ev_succ ?_
      simp only [colophonlaw11_NeutralBetween.j1]
      exact between_l1 i hn x y a1 w ox oy h0 h1 (fun s e j a b => by rw [between_at i x y a1 s e sx sy j a b, hw])
    by_cases q : sideOf x = sideOf y
    · simp only [if_pos q]
      exact key (sideOf x) (by rw [if_pos q])
    · simp only [if_neg q, e1]
      exact key _ (by rw [if_neg q])
  | succ d ih =>
    intro i h
    refine ev_succ ?_
    have hlen : ([x] ++ fill i).length < 17592186044416 := by simp [fill]; omega
    have e1 : Int.tmod (i : Int) 4 = ((i % 4 : Nat) : Int) := by rw [Int.tmod_eq_emod_of_nonneg (by omega)]; omega
    have next := ih (i + 1) (by omega)
    rw [fill_succ, ← List.append_assoc] at next
    simp only [colophonlaw11_NeutralBetween.l0, if_pos (show (i : Int) < (n : Int) by omega), Option.bind_some, e1, if_pos (show (0 : Int) ≤ ((i % 4 : Nat) : Int) by omega), if_pos (show ((i % 4 : Nat) : Int) < (([13, 14, 23, 12] : List Int).length : Int) by simp; omega), if_pos hlen, rd_nat, w64 (show i < 9223372036854775807 by omega)]
    exact next
theorem wrap_u64_eq (n : Int) : IntKind.u64.wrap n = n % 18446744073709551616 := by simp [IntKind.wrap, IntKind.bits, IntKind.signed]
theorem umod (a m : Int) (h : 0 < m) (hm : m ≤ 1000) : ∃ j : Nat, (j : Int) < m ∧ wrap64 (Int.tmod (IntKind.u64.wrap a) m) = (j : Int) := by
  have hu := wrap_u64_eq a
  have hu0 : 0 ≤ IntKind.u64.wrap a := by omega
  have h1 := Int.tmod_nonneg m hu0
  have h2 := Int.tmod_lt_of_pos (IntKind.u64.wrap a) h
  exact ⟨(Int.tmod (IntKind.u64.wrap a) m).toNat, by omega, by unfold wrap64; omega⟩
theorem strong_at (j : Nat) (h : (j : Int) < 4) : ([1, 2, 4, 7] : List Int).getD j 0 = 1 ∨ ([1, 2, 4, 7] : List Int).getD j 0 = 2 ∨ ([1, 2, 4, 7] : List Int).getD j 0 = 4 ∨ ([1, 2, 4, 7] : List Int).getD j 0 = 7 := by
  have : j = 0 ∨ j = 1 ∨ j = 2 ∨ j = 3 := by omega
  rcases this with rfl | rfl | rfl | rfl <;> simp
theorem NeutralBetween : colophonlaw11_NeutralBetween.Pure := by
  intro a0 a1 a2 a3 w0 w1 w2 w3
  refine Ev.rounds (g := fun k => colophonlaw11_NeutralBetween.f k a0 a1 a2 a3) ?_
  simp only [colophonlaw11_NeutralBetween.f]
  refine Ev.bind works_ev ?_
  obtain ⟨i, hi, ei⟩ := umod a1 4 (by omega) (by omega)
  obtain ⟨j, hj, ej⟩ := umod a2 4 (by omega) (by omega)
  obtain ⟨n, hn, en⟩ := umod a0 50 (by omega) (by omega)
  obtain ⟨v, hv, ev⟩ := umod a3 127 (by omega) (by omega)
  have l4 : (([1, 2, 4, 7] : List Int).length : Int) = 4 := by simp
  simp only [if_true, Option.bind_some, ei, ej, en, ev, l4, if_pos (show (0 : Int) ≤ (i : Int) by omega), if_pos (show (0 : Int) ≤ (j : Int) by omega), if_pos hi, if_pos hj, rd_nat]
  have := between_l0 n (by omega) (([1, 2, 4, 7] : List Int).getD i 0) (([1, 2, 4, 7] : List Int).getD j 0) (v : Int) (strong_at i hi) (strong_at j hj) (by omega) (by omega) n 0 (by omega)
  simpa [fill] using this
end Go.Proofs.Ytcjmjggifeaggaa.Pure
