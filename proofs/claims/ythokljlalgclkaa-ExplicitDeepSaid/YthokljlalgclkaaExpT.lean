/- Explicit levels in plain Lean: the stack on the way, what stays true of it, and that an isolate leaves it as it met it. No program, no memory. -/
import Derived.Test.YthokljlalgclkaaIso
namespace Go.Proofs.Ythokljlalgclkaa.Exp
open Go.Proofs.Ythokljlalgclkaa.Iso

structure E where
  lvl : Int
  frc : Int
  iso : Bool
structure S where
  stk : List E
  isl : Nat
  emb : Nat
  val : Nat

def nl (l : Int) (r : Bool) : Int := if decide ((l + 1) % 2 = 1) = r then l + 1 else l + 2
def top (s : S) : E := s.stk.headD ⟨0, 0, false⟩
def can (s : S) (r : Bool) : Bool := decide (nl (top s).lvl r ≤ 125 ∧ s.isl = 0 ∧ s.emb = 0)
def push (s : S) (r : Bool) (f : Int) (i : Bool) : S := ⟨⟨nl (top s).lvl r, f, i⟩ :: s.stk, s.isl, s.emb, s.val⟩
/-- Without the last isolate, and what lies above it. -/
def unto : List E → List E
  | [] => []
  | x :: t => if x.iso = true then t else unto t
def fin (s : S) : S := if 0 < s.isl then ⟨s.stk, s.isl - 1, s.emb, s.val⟩ else if 0 < s.val then ⟨unto s.stk, s.isl, 0, s.val - 1⟩ else s
def pop (s : S) : S := if 0 < s.isl then s else if 0 < s.emb then ⟨s.stk, s.isl, s.emb - 1, s.val⟩ else if (top s).iso = false ∧ 1 < s.stk.length then ⟨s.stk.tail, s.isl, s.emb, s.val⟩ else s
def emd (x : Int) : Bool := x == 17 || x == 15 || x == 18 || x == 16
def rem (x : Int) : Bool := x == 17 || x == 15 || x == 18 || x == 16 || x == 19 || x == 10
def frcOf (x : Int) : Int := if x = 18 then 2 else if x = 16 then 1 else 0
def rgt (x : Int) : Bool := x == 17 || x == 18
def embed (s : S) (x : Int) : S := if can s (rgt x) = true then push s (rgt x) (frcOf x) false else if s.isl = 0 then ⟨s.stk, s.isl, s.emb + 1, s.val⟩ else s
def begin_ (s : S) (r : Bool) : S := if can s r = true then ⟨⟨nl (top s).lvl r, 0, true⟩ :: s.stk, s.isl, s.emb, s.val + 1⟩ else ⟨s.stk, s.isl + 1, s.emb, s.val⟩
def step (s : S) (x : Int) (r : Bool) : S := if emd x = true then embed s x else if st x = true then begin_ s r else if x = 23 then fin s else if x = 19 then pop s else s
/-- Does an initiator go to odd levels? -/
def rt (c : List Int) (i : Nat) : Bool := if c.getD i 0 = 22 then decide (bs ((c.take (partner c i)).drop (i + 1)) 0 = 1) else decide (c.getD i 0 = 21)
def s0 (base : Int) : S := ⟨[⟨base, 0, false⟩], 0, 0, 0⟩
def sts (c : List Int) (base : Int) : Nat → S
  | 0 => s0 base
  | i + 1 => step (sts c base i) (c.getD i 0) (rt c i)
def met (c : List Int) (base : Int) (i : Nat) : S := if c.getD i 0 = 23 then sts c base (i + 1) else sts c base i
def lv (c : List Int) (base : Int) (i : Nat) : Int := if rem (c.getD i 0) = true then -1 else if c.getD i 0 = 11 then base else (top (met c base i)).lvl
def ty (c : List Int) (base : Int) (i : Nat) : Int := if rem (c.getD i 0) = true ∨ c.getD i 0 = 11 then c.getD i 0 else if (top (met c base i)).frc ≠ 0 then (top (met c base i)).frc else c.getD i 0
def lvs (c : List Int) (base : Int) : List Int := (List.range c.length).map (lv c base)
def tys (c : List Int) (base : Int) : List Int := (List.range c.length).map (ty c base)
def okc (c : List Int) (i : Nat) : Prop := 1 ≤ c.getD i 0 ∧ c.getD i 0 ≤ 23 ∧ (c.getD i 0 = 11 → i + 1 = c.length)
/-- May classes be a paragraph's? -/
def formed (c : List Int) : Prop := ∀ i, i < c.length → okc c i
theorem lvs_length (c : List Int) (base : Int) : (lvs c base).length = c.length := by simp [lvs]
theorem tys_length (c : List Int) (base : Int) : (tys c base).length = c.length := by simp [tys]
theorem lvs_get (c : List Int) (base : Int) (i : Nat) (h : i < c.length) : (lvs c base).getD i 0 = lv c base i := by simp [lvs, List.getD_eq_getElem?_getD, h]
theorem tys_get (c : List Int) (base : Int) (i : Nat) (h : i < c.length) : (tys c base).getD i 0 = ty c base i := by simp [tys, List.getD_eq_getElem?_getD, h]

theorem nl_gt (l : Int) (r : Bool) : l < nl l r ∧ nl l r ≤ l + 2 := by unfold nl; split <;> omega
/-! ### what stays true -/
def cnt (l : List E) : Nat := (l.filter (·.iso)).length
/-- A stack over the base. -/
def Good (base : Int) : List E → Prop
  | [] => False
  | e :: t => (e = ⟨base, 0, false⟩ ∧ t = []) ∨ ((t.headD ⟨0, 0, false⟩).lvl < e.lvl ∧ e.lvl ≤ 125 ∧ (e.frc = 0 ∨ e.frc = 1 ∨ e.frc = 2) ∧ (e.iso = true → e.frc = 0) ∧ Good base t)
structure Inv (base : Int) (s : S) : Prop where
  good : Good base s.stk
  val : s.val = cnt s.stk
theorem Good.ne {base : Int} {l : List E} (h : Good base l) : l ≠ [] := by cases l with | nil => exact h.elim | cons => simp
theorem Good.hd {base : Int} : ∀ {l : List E}, Good base l → base ≤ 125 → base ≤ (l.headD ⟨0, 0, false⟩).lvl ∧ (l.headD ⟨0, 0, false⟩).lvl ≤ 125 ∧ ((l.headD ⟨0, 0, false⟩).frc = 0 ∨ (l.headD ⟨0, 0, false⟩).frc = 1 ∨ (l.headD ⟨0, 0, false⟩).frc = 2)
  | [], h, _ => h.elim
  | e :: t, h, hb => by
    rcases h with ⟨rfl, rfl⟩ | ⟨h1, h2, h3, _, h4⟩
    · simp; exact hb
    · have := Good.hd h4 hb
      exact ⟨by simp only [List.headD_cons]; omega, h2, h3⟩
theorem Good.up {base : Int} {e : E} : ∀ {u t : List E}, Good base (u ++ e :: t) → t ≠ [] → (t.headD ⟨0, 0, false⟩).lvl < ((u ++ e :: t).headD ⟨0, 0, false⟩).lvl
  | [], t, h, hne => by
    rcases h with ⟨_, rfl⟩ | ⟨h1, _⟩
    · exact absurd rfl hne
    · exact h1
  | x :: u, t, h, hne => by
    rcases h with ⟨_, h⟩ | ⟨h1, _, _, _, h⟩
    · simp at h
    · have := Good.up (u := u) h hne
      change ((u ++ e :: t).headD ⟨0, 0, false⟩).lvl < x.lvl at h1
      simp only [List.cons_append, List.headD_cons] at h1 ⊢
      omega
theorem Good.unto {base : Int} : ∀ {l : List E}, Good base l → 0 < cnt l → Good base (unto l) ∧ cnt (unto l) = cnt l - 1
  | [], h, _ => h.elim
  | e :: t, h, hc => by
    rcases h with ⟨rfl, rfl⟩ | ⟨_, _, _, _, h⟩
    · simp [cnt] at hc
    · by_cases hi : e.iso = true
      · simp only [Exp.unto]
        rw [if_pos hi]
        exact ⟨h, by simp [cnt, hi]⟩
      · have e1 : cnt (e :: t) = cnt t := by simp [cnt, hi]
        simp only [Exp.unto]
        rw [if_neg hi, e1]
        exact Good.unto h (by omega)
theorem Good.tail {base : Int} {l : List E} (h : Good base l) (hl : 1 < l.length) : Good base l.tail := by
  cases l with
  | nil => exact h.elim
  | cons e t =>
    rcases h with ⟨_, rfl⟩ | ⟨_, _, _, _, h⟩
    · simp at hl
    · exact h
/-- The bottom is the one entry like it. -/
theorem Good.bottom {base : Int} {l : List E} (h : Good base l) (hb : base ≤ 125) : (l.headD ⟨0, 0, false⟩ = ⟨base, 0, false⟩) ↔ l.length = 1 := by
  cases l with
  | nil => exact h.elim
  | cons e t =>
    rcases h with ⟨rfl, rfl⟩ | ⟨h1, _, _, _, h⟩
    · simp
    · have h2 := h.hd hb
      constructor
      · intro he
        simp only [List.headD_cons] at he
        rw [he] at h1
        simp only at h1
        omega
      · intro hl
        simp at hl
        subst hl
        exact h.elim
theorem Inv.push {base : Int} {s : S} (h : Inv base s) (hb : base ≤ 125) (r : Bool) (f : Int) (hf : f = 0 ∨ f = 1 ∨ f = 2) (hc : can s r = true) : Good base (push s r f false).stk ∧ cnt (push s r f false).stk = cnt s.stk := by
  have h1 := h.good.hd hb
  have h2 := nl_gt (top s).lvl r
  have h3 := of_decide_eq_true hc
  refine ⟨.inr ⟨?_, h3.1, hf, by simp, h.good⟩, by simp [Exp.push, cnt]⟩
  exact h2.1
theorem Inv.step {base : Int} {s : S} (h : Inv base s) (hb : base ≤ 125) (x : Int) (r : Bool) : Inv base (step s x r) := by
  unfold Exp.step
  split
  · unfold embed
    split
    · rename_i hc
      have hp := h.push hb (rgt x) (frcOf x) (by unfold frcOf; (repeat' split) <;> simp) hc
      exact ⟨hp.1, by rw [hp.2]; exact h.val⟩
    · split
      · exact ⟨h.good, h.val⟩
      · exact h
  · split
    · unfold begin_
      split
      · rename_i hc
        have h1 := h.good.hd hb
        have h2 := nl_gt (top s).lvl r
        have h3 := of_decide_eq_true hc
        exact ⟨.inr ⟨h2.1, h3.1, .inl rfl, fun _ => rfl, h.good⟩, by simp [cnt]; exact h.val⟩
      · exact ⟨h.good, h.val⟩
    · split
      · unfold fin
        split
        · exact ⟨h.good, h.val⟩
        · split
          · rename_i hv
            have hu := h.good.unto (by rw [← h.val]; exact hv)
            exact ⟨hu.1, by rw [hu.2, h.val]⟩
          · exact h
      · split
        · unfold pop
          split
          · exact h
          · split
            · exact ⟨h.good, h.val⟩
            · split
              · rename_i hp
                refine ⟨h.good.tail hp.2, ?_⟩
                have hv := h.val
                have hi := hp.1
                unfold top at hi
                show s.val = cnt s.stk.tail
                rw [hv]
                cases hs : s.stk with
                | nil => rfl
                | cons e t =>
                  rw [hs] at hi
                  simp at hi
                  simp [cnt, hi]
              · exact h
        · exact h
theorem inv0 (base : Int) : Inv base (s0 base) := ⟨.inl ⟨rfl, rfl⟩, rfl⟩
theorem sts_inv (c : List Int) {base : Int} (hb : base ≤ 125) : ∀ i, Inv base (sts c base i)
  | 0 => inv0 base
  | i + 1 => (sts_inv c hb i).step hb _ _
theorem met_inv (c : List Int) {base : Int} (hb : base ≤ 125) (i : Nat) : Inv base (met c base i) := by
  unfold met; split <;> exact sts_inv c hb _
theorem emd_st {x : Int} (h : emd x = true) : st x = false := by
  simp [emd] at h
  rcases h with ((rfl | rfl) | rfl) | rfl <;> rfl
theorem st_emd {x : Int} (h : st x = true) : emd x = false := by
  rcases (st_iff x).1 h with rfl | rfl | rfl <;> rfl
/-! ### counts -/
theorem sts_small (c : List Int) (base : Int) : ∀ i, (sts c base i).isl ≤ i ∧ (sts c base i).emb ≤ i ∧ (sts c base i).val ≤ i ∧ (sts c base i).stk.length ≤ i + 1
  | 0 => by simp [sts, s0]
  | i + 1 => by
    have ih := sts_small c base i
    have hu : ∀ l : List E, (unto l).length ≤ l.length := by
      intro l
      induction l with
      | nil => simp [unto]
      | cons e t iht => simp only [unto]; split <;> simp <;> omega
    have hu1 := hu (sts c base i).stk
    simp only [sts, step, embed, begin_, fin, pop, push]
    repeat' split
    all_goals ((try simp only [List.length_cons, List.length_tail]); omega)
/-! ### an isolate leaves the stack as it met it -/
theorem cnt_append (a b : List E) : cnt (a ++ b) = cnt a + cnt b := by simp [cnt]
theorem unto_none : ∀ (u : List E) (e : E) (t : List E), cnt u = 0 → e.iso = true → unto (u ++ e :: t) = t
  | [], e, t, _, he => by simp [unto, he]
  | x :: u, e, t, hc, he => by
    have hx : x.iso = false := by
      cases hx : x.iso with
      | false => rfl
      | true => simp [cnt, hx] at hc
    have : cnt (x :: u) = cnt u := by simp [cnt, hx]
    rw [List.cons_append]
    simp only [unto]
    rw [if_neg (by simp [hx])]
    exact unto_none u e t (by omega) he
theorem unto_some : ∀ (u t : List E), 0 < cnt u → ∃ v, unto (u ++ t) = v ++ t ∧ cnt v = cnt u - 1
  | [], t, h => by simp [cnt] at h
  | x :: u, t, h => by
    rw [List.cons_append]
    simp only [unto]
    by_cases hx : x.iso = true
    · rw [if_pos hx]
      exact ⟨u, rfl, by simp [cnt, hx]⟩
    · rw [if_neg hx]
      have e1 : cnt (x :: u) = cnt u := by simp [cnt, hx]
      rw [e1] at h ⊢
      exact unto_some u t h
/-- How many isolates are open between an initiator and a place behind it. -/
def dep (c : List Int) (i j : Nat) : Nat := (R c j).length - (R c i).length - 1
theorem R_in {c : List Int} {i j : Nat} (hs : st (c.getD i 0) = true) (h1 : i < j) (h2 : j ≤ partner c i) (h3 : j ≤ c.length) : (R c j).length = dep c i j + 1 + (R c i).length := by
  obtain ⟨u, hu⟩ := R_suffix c i hs j h1 h2 h3
  unfold dep
  rw [hu]
  simp
  omega
theorem R_step (c : List Int) (j : Nat) : R c (j + 1) = if st (c.getD j 0) = true then j :: R c j else if c.getD j 0 = 23 then (R c j).tail else R c j := rfl
theorem inside_yes (c : List Int) (base : Int) (i : Nat) (hi : i < c.length) (hs : st (c.getD i 0) = true) (hc : can (sts c base i) (rt c i) = true) : ∀ j, i < j → j ≤ partner c i → j ≤ c.length →
    ∃ u e, e.iso = true ∧ (sts c base j).stk = u ++ e :: (sts c base i).stk ∧ (sts c base j).isl + cnt u = dep c i j ∧ (sts c base j).val = (sts c base i).val + 1 + cnt u
  | 0, h, _, _ => by omega
  | j + 1, h1, h2, h3 => by
    have hz := of_decide_eq_true hc
    have hD := R_in hs h1 h2 h3
    rcases Nat.lt_or_ge i j with hij | hij
    · obtain ⟨u, e, he, hk, hd, hv⟩ := inside_yes c base i hi hs hc j hij (by omega) (by omega)
      have hD0 := R_in hs hij (by omega) (by omega)
      rw [R_step] at hD
      simp only [sts]
      generalize hS : sts c base j = s at hk hd hv ⊢
      generalize hx : c.getD j 0 = x at hD ⊢
      by_cases h5 : st x = true
      · rw [if_pos h5, List.length_cons] at hD
        simp only [step]
        rw [if_neg (by rw [st_emd h5]; simp), if_pos h5]
        unfold begin_
        split
        · refine ⟨⟨nl (top s).lvl (rt c j), 0, true⟩ :: u, e, he, by rw [hk]; rfl, ?_, ?_⟩
          · simp [cnt] at hd ⊢; omega
          · simp [cnt] at hv ⊢; omega
        · exact ⟨u, e, he, hk, by show s.isl + 1 + cnt u = _; omega, hv⟩
      · rw [if_neg h5] at hD
        by_cases h6 : x = 23
        · rw [if_pos h6, List.length_tail] at hD
          have hpos : 0 < dep c i j := by
            rcases Nat.eq_zero_or_pos (dep c i j) with h0 | h0
            · omega
            · exact h0
          simp only [step]
          rw [if_neg (by rw [h6]; decide), if_neg h5, if_pos h6]
          unfold fin
          split
          · exact ⟨u, e, he, hk, by show s.isl - 1 + cnt u = _; omega, hv⟩
          · rename_i h7
            rw [if_pos (by omega)]
            obtain ⟨v, hu, hvc⟩ := unto_some u (e :: (sts c base i).stk) (by omega)
            exact ⟨v, e, he, by rw [hk]; exact hu, by show s.isl + cnt v = _; omega, by show s.val - 1 = _; omega⟩
        · rw [if_neg h6] at hD
          have hde : dep c i (j + 1) = dep c i j := by omega
          rw [hde]
          simp only [step]
          by_cases h8 : emd x = true
          · rw [if_pos h8]
            unfold embed
            split
            · refine ⟨⟨nl (top s).lvl (rgt x), frcOf x, false⟩ :: u, e, he, by show _ :: s.stk = _; rw [hk]; rfl, ?_, ?_⟩
              · show s.isl + _ = _; simp [cnt] at hd ⊢; omega
              · show s.val = _; simp [cnt] at hv ⊢; omega
            · split
              · exact ⟨u, e, he, hk, hd, hv⟩
              · exact ⟨u, e, he, hk, hd, hv⟩
          · rw [if_neg h8, if_neg h5, if_neg h6]
            split
            · unfold pop
              split
              · exact ⟨u, e, he, hk, hd, hv⟩
              · split
                · exact ⟨u, e, he, hk, hd, hv⟩
                · split
                  · rename_i hp
                    cases u with
                    | nil =>
                      unfold top at hp
                      rw [hk] at hp
                      simp [he] at hp
                    | cons y u =>
                      have hy : y.iso = false := by
                        have := hp.1
                        unfold top at this
                        rw [hk] at this
                        simpa using this
                      refine ⟨u, e, he, by show s.stk.tail = _; rw [hk]; rfl, ?_, ?_⟩
                      · show s.isl + _ = _; simp [cnt, hy] at hd ⊢; omega
                      · show s.val = _; simp [cnt, hy] at hv ⊢; omega
                  · exact ⟨u, e, he, hk, hd, hv⟩
            · exact ⟨u, e, he, hk, hd, hv⟩
    · obtain rfl : j = i := by omega
      rw [R_step, if_pos hs, List.length_cons] at hD
      simp only [sts, step]
      rw [if_neg (by rw [st_emd hs]; simp), if_pos hs]
      unfold begin_
      rw [if_pos hc]
      exact ⟨[], ⟨_, 0, true⟩, rfl, rfl, by show (sts c base j).isl + 0 = _; omega, by simp [cnt]⟩
theorem inside_no (c : List Int) (base : Int) (i : Nat) (hi : i < c.length) (hs : st (c.getD i 0) = true) (hc : ¬ can (sts c base i) (rt c i) = true) : ∀ j, i < j → j ≤ partner c i → j ≤ c.length →
    sts c base j = ⟨(sts c base i).stk, (sts c base i).isl + 1 + dep c i j, (sts c base i).emb, (sts c base i).val⟩
  | 0, h, _, _ => by omega
  | j + 1, h1, h2, h3 => by
    have hD := R_in hs h1 h2 h3
    rcases Nat.lt_or_ge i j with hij | hij
    · have ih := inside_no c base i hi hs hc j hij (by omega) (by omega)
      have hD0 := R_in hs hij (by omega) (by omega)
      rw [R_step] at hD
      simp only [sts]
      rw [ih]
      generalize sts c base i = s at *
      generalize hx : c.getD j 0 = x at hD ⊢
      have hcan : ∀ r, can ⟨s.stk, s.isl + 1 + dep c i j, s.emb, s.val⟩ r = false := fun r => by simp [can]
      by_cases h5 : st x = true
      · rw [if_pos h5, List.length_cons] at hD
        simp only [step]
        rw [if_neg (by rw [st_emd h5]; simp), if_pos h5]
        unfold begin_
        rw [if_neg (by rw [hcan]; simp)]
        congr 1
        show s.isl + 1 + dep c i j + 1 = _
        omega
      · rw [if_neg h5] at hD
        by_cases h6 : x = 23
        · rw [if_pos h6, List.length_tail] at hD
          have hpos : 0 < dep c i j := by
            rcases Nat.eq_zero_or_pos (dep c i j) with h0 | h0
            · omega
            · exact h0
          simp only [step]
          rw [if_neg (by rw [h6]; decide), if_neg h5, if_pos h6]
          unfold fin
          rw [if_pos (by show 0 < s.isl + 1 + dep c i j; omega)]
          congr 1
          show s.isl + 1 + dep c i j - 1 = _
          omega
        · rw [if_neg h6] at hD
          have hde : dep c i (j + 1) = dep c i j := by omega
          rw [hde]
          simp only [step]
          by_cases h8 : emd x = true
          · rw [if_pos h8]
            unfold embed
            rw [if_neg (by rw [hcan]; simp), if_neg (by show ¬ s.isl + 1 + dep c i j = 0; omega)]
          · rw [if_neg h8, if_neg h5, if_neg h6]
            split
            · unfold pop
              rw [if_pos (by show 0 < s.isl + 1 + dep c i j; omega)]
            · rfl
    · obtain rfl : j = i := by omega
      rw [R_step, if_pos hs, List.length_cons] at hD
      simp only [sts, step]
      rw [if_neg (by rw [st_emd hs]; simp), if_pos hs]
      unfold begin_
      rw [if_neg hc]
      congr 1
      omega
theorem sts_skip (c : List Int) (base : Int) (i : Nat) (hi : i < c.length) (hs : st (c.getD i 0) = true) (hp : partner c i < c.length) : sts c base (partner c i + 1) = sts c base i := by
  have hg := partner_gt c i
  have h23 := partner_pdi c i hi hp
  have hD := R_in hs hg (Nat.le_refl _) (by omega)
  rw [R_at hi hs hp, List.length_cons] at hD
  have hd : dep c i (partner c i) = 0 := by omega
  simp only [sts, step]
  rw [h23, if_neg (by decide), if_neg (by decide), if_pos rfl]
  by_cases hc : can (sts c base i) (rt c i) = true
  · have hz := of_decide_eq_true hc
    obtain ⟨u, e, he, hk, hl, hv⟩ := inside_yes c base i hi hs hc _ hg (Nat.le_refl _) (by omega)
    unfold fin
    rw [if_neg (by omega), if_pos (by omega), hk, unto_none u e _ (by omega) he, show (sts c base (partner c i)).isl = (sts c base i).isl by omega, show (sts c base (partner c i)).val - 1 = (sts c base i).val by omega]
    rw [show (0 : Nat) = (sts c base i).emb from hz.2.2.symm]
  · rw [inside_no c base i hi hs hc _ hg (Nat.le_refl _) (by omega), hd]
    unfold fin
    rw [if_pos (by show 0 < (sts c base i).isl + 1 + 0; omega)]
    show (⟨(sts c base i).stk, (sts c base i).isl + 1 + 0 - 1, (sts c base i).emb, (sts c base i).val⟩ : S) = _
    rw [show (sts c base i).isl + 1 + 0 - 1 = (sts c base i).isl by omega]
end Go.Proofs.Ythokljlalgclkaa.Exp
