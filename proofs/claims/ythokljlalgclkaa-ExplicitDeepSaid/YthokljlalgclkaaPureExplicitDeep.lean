import Derived.Test.YthokljlalgclkaaX6
import Derived.Test.YthokljlalgclkaaWorksT
import Derived.Test.YthokljlalgclkaaExpLaw
namespace Go.Proofs.Ythokljlalgclkaa.Pure
open Go.RowKit Go.Proofs.Ythokljlalgclkaa.X Go.Proofs.Ythokljlalgclkaa.G Go.Proofs.Ythokljlalgclkaa.Exp Go.Proofs.Ythokljlalgclkaa.Iso Go.Proofs.YthokljlalgclkaaW.PrintWords Go.Proofs.YthokljlalgclkaaW.PrintLast

set_option linter.unusedVariables false
set_option linter.unusedSimpArgs false
theorem app_getD {a b : List Int} {i : Nat} (h : i < a.length) : (a ++ b).getD i 0 = a.getD i 0 := by simp [List.getD_eq_getElem?_getD, List.getElem?_append_left h]
def emds (E : List Int) : Prop := ∀ k, k < E.length → emd (E.getD k 0) = true
theorem emds_snoc {E : List Int} (h : emds E) {x : Int} (hx : emd x = true) : emds (E ++ [x]) := by
  intro k hk
  rw [List.length_append, List.length_singleton] at hk
  by_cases e : k < E.length
  · rw [app_getD e]; exact h k e
  · obtain rfl : k = E.length := by omega
    simpa using hx
theorem sts_app (E z : List Int) (base : Int) (h : emds E) : ∀ i, i ≤ E.length → sts (E ++ z) base i = sts E base i
  | 0, _ => rfl
  | i + 1, hi => by
    have e : (E ++ z).getD i 0 = E.getD i 0 := app_getD (by omega)
    rw [sts_succ, sts_succ, sts_app E z base h i (by omega), e]
    unfold Exp.step
    rw [if_pos (h i (by omega)), if_pos (h i (by omega))]
theorem emd_step {c : List Int} {base : Int} {i : Nat} (h : emd (c.getD i 0) = true) : sts c base (i + 1) = embed (sts c base i) (c.getD i 0) := by
  rw [sts_succ]; unfold Exp.step; rw [if_pos h]
/-- What the level of the deepest is, and what comes behind. -/
def full (E : List Int) (n t : Nat) : List Int := E ++ [1] ++ List.replicate t 19
theorem full_get (E : List Int) (n : Nat) (hn : E.length = n) (x : Int) :
    (∀ k, k < n → (full E n n ++ [x]).getD k 0 = E.getD k 0) ∧ (full E n n ++ [x]).getD n 0 = 1 ∧ (∀ k, k < n → (full E n n ++ [x]).getD (n + 1 + k) 0 = 19) ∧ (full E n n ++ [x]).getD (2 * n + 1) 0 = x ∧ (full E n n ++ [x]).length = 2 * n + 2 := by
  subst hn
  refine ⟨fun k hk => ?_, ?_, fun k hk => ?_, ?_, ?_⟩
  · simp only [full, List.append_assoc]
    exact app_getD hk
  · simp [full, List.getD_eq_getElem?_getD]
  · simp only [full, List.append_assoc, List.getD_eq_getElem?_getD]
    rw [List.getElem?_append_right (by omega), List.getElem?_append_right (by simp; omega), List.getElem?_append_left (by simp; omega)]
    simp [List.getElem?_replicate, show E.length + 1 + k - E.length - 1 < E.length by omega]
  · simp only [full, List.append_assoc, List.getD_eq_getElem?_getD]
    rw [List.getElem?_append_right (by omega), List.getElem?_append_right (by simp; omega), List.getElem?_append_right (by simp; omega)]
    simp [show 2 * E.length + 1 - E.length - 1 - E.length = 0 by omega]
  · simp [full]; omega
theorem full_app (E : List Int) (n : Nat) (x : Int) : full E n n ++ [x] = E ++ ([1] ++ List.replicate n 19 ++ [x]) := by simp [full]
theorem emd_ok {x : Int} (h : emd x = true) : 1 ≤ x ∧ x ≤ 23 ∧ x ≠ 11 := by
  unfold emd at h
  simp only [Bool.or_eq_true, beq_iff_eq] at h
  omega
theorem Deep_l2 (E : List Int) (n : Nat) (hn : E.length = n) (hn3 : n ≤ 300) (he : emds E) (level : Int) (hlv : (top (sts E 0 n)).lvl = level) : ∀ (d t : Nat), t + d = n → Ev (fun k => colophonlaw07_ExplicitDeep.l2 k (n : Int) (full E n t) level (t : Int)) true := by
  intro d
  induction d with
  | zero =>
    intro t ht
    obtain rfl : t = n := by omega
    refine ev_succ ?_
    have hlen : (full E t t).length < 17592186044416 := by simp [full]; omega
    obtain ⟨g1, g2, g3, g4, g5⟩ := full_get E t hn 2
    have hform : formed (full E t t ++ [2]) := by
      intro j hj
      rw [g5] at hj
      unfold okc
      by_cases h1 : j < t
      · rw [g1 j h1]
        have := emd_ok (he j (by omega))
        exact ⟨this.1, this.2.1, fun h => absurd h this.2.2⟩
      · by_cases h2 : j = t
        · rw [h2, g2]; exact ⟨by decide, by decide, fun h => absurd h (by decide)⟩
        · by_cases h3 : j < 2 * t + 1
          · have := g3 (j - (t + 1)) (by omega)
            rw [show t + 1 + (j - (t + 1)) = j by omega] at this
            rw [this]; exact ⟨by decide, by decide, fun h => absurd h (by decide)⟩
          · rw [show j = 2 * t + 1 by omega, g4]; exact ⟨by decide, by decide, fun h => absurd h (by decide)⟩
    have hdeep := deep_end (full E t t ++ [2]) (base := 0) (by decide) t (fun k hk => by rw [g1 k hk]; exact he k (by omega)) g2 g3 g4
    have hs : sts (full E t t ++ [2]) 0 t = sts E 0 t := by rw [full_app]; exact sts_app E _ 0 he t (by omega)
    have hmid : lv (full E t t ++ [2]) 0 t = level := by
      unfold lv
      rw [g2, if_neg (by decide), if_neg (by decide), met_at _ _ _ (by rw [g2]; decide), hs, hlv]
    have e1 : wrap64 (2 * (t : Int)) = ((2 * t : Nat) : Int) := by unfold wrap64; omega
    have e2 : wrap64 (((2 * t : Nat) : Int) + 2) = ((2 * t + 2 : Nat) : Int) := by unfold wrap64; omega
    have e3 : wrap64 (((2 * t : Nat) : Int) + 1) = ((2 * t + 1 : Nat) : Int) := by unfold wrap64; omega
    simp only [colophonlaw07_ExplicitDeep.l2, if_neg (show ¬ (t : Int) < (t : Int) by omega), if_pos hlen, res_ok _ 0 (by rw [g5]; omega) (.inl rfl) hform, Option.bind_some, if_true, lvs_length, g5, e1, e2, e3, if_pos (Int.natCast_nonneg t), if_pos (show (t : Int) < ((2 * t + 2 : Nat) : Int) by omega), rd_nat, lvs_get _ (0 : Int) t (by rw [g5]; omega), hmid, if_pos (Int.natCast_nonneg (2 * t + 1)), if_pos (show ((2 * t + 1 : Nat) : Int) < ((2 * t + 2 : Nat) : Int) by omega), lvs_get _ (0 : Int) (2 * t + 1) (by rw [g5]; omega), hdeep, beq_self_eq_true]
    exact Ev.now true
  | succ d ih =>
    intro t ht
    refine ev_succ ?_
    have hlen : (full E n t).length < 17592186044416 := by simp [full]; omega
    have e : full E n t ++ [19] = full E n (t + 1) := by simp [full, List.replicate_succ']
    simp only [colophonlaw07_ExplicitDeep.l2, if_pos (show (t : Int) < (n : Int) by omega), if_pos hlen, e, w64 (show t < 9223372036854775807 by omega)]
    exact ih (t + 1) (by omega)
theorem Deep_j5 (E : List Int) (n : Nat) (hn : E.length = n) (hn3 : n ≤ 300) (he : emds E) (level : Int) (hlv : (top (sts E 0 n)).lvl = level) : Ev (fun k => colophonlaw07_ExplicitDeep.j5 k (n : Int) E level) true := by
  refine ev_succ ?_
  simp only [colophonlaw07_ExplicitDeep.j5, if_pos (show E.length < 17592186044416 by omega)]
  have := Deep_l2 E n hn hn3 he level hlv n 0 (by omega)
  simpa [full] using this
theorem Deep_l1 (n : Nat) (hn3 : n ≤ 300) (level : Int) : ∀ (d i : Nat) (E : List Int), i + d = n → E.length = i → emds E → (∃ i0, i0 < i ∧ can (sts E 0 i0) (rgt (E.getD i0 0)) = false ∧ (sts E 0 i0).isl = 0 ∧ (top (sts E 0 i0)).lvl = level) →
    Ev (fun k => colophonlaw07_ExplicitDeep.l1 k (n : Int) E level (i : Int)) true := by
  intro d
  induction d with
  | zero =>
    intro i E hi hl he ⟨i0, h0, hc, hz, hv⟩
    refine ev_succ ?_
    simp only [colophonlaw07_ExplicitDeep.l1, if_neg (show ¬ (i : Int) < (n : Int) by omega)]
    refine Deep_j5 E n (by omega) hn3 he level ?_
    have hf := (full_sts E 0 i0 hc hz (n - i0) (fun k _ hk => he k (by omega))).1
    rw [show i0 + (n - i0) = n by omega] at hf
    unfold top at hv ⊢
    rw [hf]; exact hv
  | succ d ih =>
    intro i E hi hl he ⟨i0, h0, hc, hz, hv⟩
    refine ev_succ ?_
    simp only [colophonlaw07_ExplicitDeep.l1, if_pos (show (i : Int) < (n : Int) by omega), if_pos (show E.length < 17592186044416 by omega), w64 (show i < 9223372036854775807 by omega)]
    refine ih (i + 1) (E ++ [17]) (by omega) (by simp; omega) (emds_snoc he (by decide)) ⟨i0, by omega, ?_⟩
    rw [sts_app E [17] 0 he i0 (by omega), app_getD (by omega)]
    exact ⟨hc, hz, hv⟩
theorem Deep_l0 (n : Nat) (hn3 : n ≤ 300) (turns : List Bool) : ∀ (d i : Nat) (E : List Int) (level : Int), i + d = n → E.length = i → emds E → (sts E 0 i).isl = 0 → (sts E 0 i).emb = 0 → (top (sts E 0 i)).lvl = level →
    Ev (fun k => colophonlaw07_ExplicitDeep.l0 k (n : Int) turns E level (i : Int)) true := by
  intro d
  induction d with
  | zero =>
    intro i E level hi hl he hz hm hv
    refine ev_succ ?_
    simp only [colophonlaw07_ExplicitDeep.l0, if_neg (show ¬ (i : Int) < (n : Int) by omega)]
    exact Deep_j5 E n (by omega) hn3 he level (by rw [show n = i by omega]; exact hv)
  | succ d ih =>
    intro i E level hi hl he hz hm hv
    have hlo : 0 ≤ level := by
      have := ((sts_inv E (base := 0) (by decide) i).good.hd (by decide)).1
      rw [← hv]; exact this
    have hhi : level ≤ 125 := by
      have := ((sts_inv E (base := 0) (by decide) i).good.hd (by decide)).2.1
      rw [← hv]; exact this
    -- one embedding more, of either kind
    have hone : ∀ (r : Bool) (x : Int), (r = true ∧ x = 17 ∨ r = false ∧ x = 15) → Ev (fun k => colophonlaw07_ExplicitDeep.j2 k (n : Int) turns E level (i : Int) r x) true := by
      intro r x hx
      have hxe : emd x = true := by rcases hx with ⟨_, rfl⟩ | ⟨_, rfl⟩ <;> rfl
      have hxr : rgt x = r := by rcases hx with ⟨rfl, rfl⟩ | ⟨rfl, rfl⟩ <;> rfl
      have hsi : sts (E ++ [x]) 0 i = sts E 0 i := sts_app E [x] 0 he i (by omega)
      have hgx : (E ++ [x]).getD i 0 = x := by rw [← hl]; simp
      have hE2 := emds_snoc he hxe
      have hst : sts (E ++ [x]) 0 (i + 1) = embed (sts E 0 i) x := by rw [emd_step (by rw [hgx]; exact hxe), hgx, hsi]
      have hcan : can (sts E 0 i) r = decide (nl level r ≤ 125) := by
        unfold can
        rw [hz, hm, hv]
        simp
      -- the level that comes next
      have hj3 : Ev (fun k => colophonlaw07_ExplicitDeep.j3 k (n : Int) turns (E ++ [x]) level (i : Int) (nl level r)) true := by
        refine ev_succ ?_
        simp only [colophonlaw07_ExplicitDeep.j3, w64 (show i < 9223372036854775807 by omega)]
        by_cases h : nl level r > 125
        · simp only [if_pos h]
          refine Deep_l1 n hn3 level d (i + 1) (E ++ [x]) (by omega) (by simp; omega) hE2 ⟨i, by omega, ?_, by rw [hsi]; exact hz, by rw [hsi]; exact hv⟩
          rw [hsi, hgx, hxr, hcan]
          exact decide_eq_false (by omega)
        · simp only [if_neg h]
          have hc : can (sts E 0 i) (rgt x) = true := by rw [hxr, hcan]; exact decide_eq_true (by omega)
          have hp : embed (sts E 0 i) x = push (sts E 0 i) (rgt x) (frcOf x) false := by unfold embed; rw [if_pos hc]
          refine ih (i + 1) (E ++ [x]) (nl level r) (by omega) (by simp; omega) hE2 (by rw [hst, hp]; exact hz) (by rw [hst, hp]; exact hm) (by rw [hst, hp, hxr, ← hv]; rfl)
      refine ev_succ ?_
      have w1 : wrap64 (level + 1) = level + 1 := by unfold wrap64; omega
      have w2 : wrap64 (level + 1 + 1) = level + 2 := by unfold wrap64; omega
      have hm2 : Int.tmod (level + 1) 2 = (level + 1) % 2 := by rw [Int.tmod_eq_emod_of_nonneg (by omega)]
      simp only [colophonlaw07_ExplicitDeep.j2, if_pos (show E.length < 17592186044416 by omega), Option.bind_some, w1, w2, hm2]
      have hnl : nl level r = if (((level + 1) % 2 == 1) != r) = true then level + 2 else level + 1 := by
        unfold nl
        have e : ((level + 1) % 2 == 1) = decide ((level + 1) % 2 = 1) := by rw [Bool.eq_iff_iff]; simp
        rw [e]
        cases decide ((level + 1) % 2 = 1) <;> cases r <;> rfl
      rw [hnl] at hj3
      by_cases h : (((level + 1) % 2 == 1) != r) = true
      · simp only [if_pos h] at hj3 ⊢; exact hj3
      · simp only [if_neg h] at hj3 ⊢; exact hj3
    have hj1 : ∀ r, Ev (fun k => colophonlaw07_ExplicitDeep.j1 k (n : Int) turns E level (i : Int) r) true := by
      intro r
      refine ev_succ ?_
      simp only [colophonlaw07_ExplicitDeep.j1]
      cases r with
      | true => simp only [if_true]; exact hone true 17 (.inl ⟨rfl, rfl⟩)
      | false => simp only [Bool.false_eq_true, if_false]; exact hone false 15 (.inr ⟨rfl, rfl⟩)
    refine ev_succ ?_
    simp only [colophonlaw07_ExplicitDeep.l0, if_pos (show (i : Int) < (n : Int) by omega), if_pos (Int.natCast_nonneg i)]
    by_cases h : (i : Int) < (turns.length : Int)
    · simp only [if_pos h]; exact hj1 _
    · simp only [if_neg h]; exact hj1 _
theorem Deep_ev (a0 : Int) (turns : List Bool) : Ev (fun k => colophonlaw07_ExplicitDeep.f k a0 turns) true := by
  simp only [colophonlaw07_ExplicitDeep.f]
  refine Ev.bind works_ev ?_
  simp only [if_true]
  obtain ⟨n, hn, hn3⟩ : ∃ n : Nat, wrap64 (Int.tmod (IntKind.u64.wrap a0) 301) = (n : Int) ∧ n ≤ 300 := by
    have h0 : 0 ≤ IntKind.u64.wrap a0 := by show 0 ≤ a0 % 2 ^ IntKind.u64.bits; exact Int.emod_nonneg _ (by decide)
    have h1 : Int.tmod (IntKind.u64.wrap a0) 301 = (IntKind.u64.wrap a0) % 301 := by rw [Int.tmod_eq_emod_of_nonneg h0]
    rw [h1]
    refine ⟨((IntKind.u64.wrap a0) % 301).toNat, ?_, by omega⟩
    unfold wrap64
    omega
  rw [hn]
  exact Deep_l0 n hn3 turns n 0 [] 0 (by omega) rfl (fun k hk => by simp at hk) rfl rfl rfl
end Go.Proofs.Ythokljlalgclkaa.Pure
