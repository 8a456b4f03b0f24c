/- Rws of rows that a call made, each in a block of its own, told by their headers. By hand. -/
import Derived.Test.YteldofimjklckaaHTy
import Derived.Test.YteldofimjklckaaKitM
namespace Go.Proofs.Yteldofimjklckaa.G
open Go.RowKit Go.Proofs.YteldofimjklckaaW.PrintWords Go.Proofs.YteldofimjklckaaW.PrintLast Go.Proofs.YteldofimjklckaaW.PrintMore
set_option linter.unusedVariables false
set_option linter.unusedSimpArgs false

abbrev Head := Option Addr × Nat × Nat
def hdv (p : Head) : Value := .slice p.1 p.2.1 p.2.2
def hdr : Kd Head := Kd.scalar hdv (fun _ => rfl)
structure Rws (ok : Nat → Prop) (base : Nat) (v : Value) (hs : List Head) (xss : List (List Int)) (W : World) : Prop where
  head : Kd.R hdr 22 W base ok v hs
  len : hs.length = xss.length
  row : ∀ (i : Nat) (h : Head) (xs : List Int), hs[i]? = some h → xss[i]? = some xs → Kd.R (Kd.int .i64) 3 W base ok (hdv h) xs
  sep : ∀ (i j : Nat) (h h' : Head), hs[i]? = some h → hs[j]? = some h' → i ≠ j → ∀ k, (hdv h).ownBlock = some k → (hdv h').ownBlock ≠ some k
theorem Rws.step {ok : Nat → Prop} {base : Nat} {v : Value} {hs : List Head} {xss : List (List Int)} {W W' : World} (h : Rws ok base v hs xss W) (hb : Below W.heap.size W W') : Rws ok base v hs xss W' :=
  ⟨Kd.R_below h.head hb, h.len, fun i hh xs e1 e2 => Kd.R_below (h.row i hh xs e1 e2) hb, h.sep⟩
theorem R_grown_ty2 {α : Type} {d : Kd α} {e t base : Nat} {ok : Nat → Prop} {w w1 : World} {v : Value} {xs : List α} {row : Option Nat} (h : d.R e w base ok v xs) (hg : w.grownBy w1 row) (hrow : ∀ g, row = some g → ∃ cells, w.heap[g]? = some (.cells cells t (0, 0))) (ht : ∀ q, q ∈ e :: d.E → q ≠ t) : d.R e w1 base ok v xs := by
  cases row with
  | none => exact Kd.R_grown h hg (fun _ _ => by simp)
  | some g =>
    obtain ⟨cells, hh⟩ := hrow g rfl
    exact Kd.R_mono (Kd.R_grown (Kd.R_types h hh ht) hg (fun k hk e => hk.2 (by injection e))) (fun _ hk => hk.1)
/-- A row is another one, in its own block or a new one; the header row as it was. -/
theorem Rws.row_put {ok : Nat → Prop} {base : Nat} {v : Value} {hs : List Head} {xss : List (List Int)} {W W1 : World} (h : Rws ok base v hs xss W) (i : Nat) (p : Head) (hp : hs[i]? = some p) (hg : W.grownBy W1 (hdv p).ownBlock) :
    Kd.R hdr 22 W1 base ok v hs ∧ ∀ j q xs, hs[j]? = some q → xss[j]? = some xs → i ≠ j → Kd.R (Kd.int .i64) 3 W1 base ok (hdv q) xs := by
  obtain ⟨hil, hpe⟩ := List.getElem?_eq_some_iff.1 hp
  have hix : i < xss.length := by rw [← h.len]; exact hil
  have hrow := h.row i p xss[i] hp (List.getElem?_eq_getElem hix)
  refine ⟨R_grown_ty2 h.head hg (own_ty hrow) (by decide), fun j q xs e1 e2 hj => ?_⟩
  have h1 := h.row j q xs e1 e2
  exact Kd.R_reok rfl (Kd.R_grown (Kd.R_tight rfl h1) hg (fun k hk e => h.sep j i q p e1 hp (fun e => hj e.symm) k hk.symm e.symm)) (fun k hk => h1.1 k hk)
/-- A cell of a row is stored into. -/
theorem Rws.cell {ok : Nat → Prop} {base : Nat} {v : Value} {hs : List Head} {xss : List (List Int)} {W : World} (h : Rws ok base v hs xss W) (i g n cap : Nat) (hp : hs[i]? = some (some ⟨g, 0, none⟩, n, cap)) (xs : List Int) (hx : xss[i]? = some xs) (k : Nat) (x : Int) : Rws ok base v hs (xss.set i (xs.set k x)) (W.setCell ⟨g, k, none⟩ (.int .i64 x)) := by
  have hrow := h.row i _ xs hp hx
  have hput := Kd.R_putn hrow (k : Int) x
  rw [Int.toNat_natCast] at hput
  have hn : n = xs.length := (Kd.R_reads' hrow).1
  have hg2 : W.grownBy (W.setCell ⟨g, k, none⟩ (.int .i64 x)) (some g) := by
    have := (Kd.R_put (cap := cap) (by have h_ := hrow; rw [show hdv (some ⟨g, 0, none⟩, n, cap) = .slice (some ⟨g, 0, none⟩) xs.length cap by rw [← hn]; rfl] at h_; exact h_) (k : Int) x).2
    rwa [Int.toNat_natCast] at this
  obtain ⟨r1, r2⟩ := h.row_put i _ hp hg2
  obtain ⟨hil, _⟩ := List.getElem?_eq_some_iff.1 hp
  refine ⟨r1, by rw [List.length_set]; exact h.len, fun j q ys e1 e2 => ?_, h.sep⟩
  rw [List.getElem?_set] at e2
  by_cases hj : i = j
  · subst hj
    rw [if_pos rfl, if_pos (by rw [← h.len]; exact hil)] at e2
    injection e2 with e2
    rw [hp] at e1
    injection e1 with e1
    subst e1 e2
    exact hput
  · rw [if_neg hj] at e2
    exact r2 j q ys e1 e2 hj
/-- A row is another one, in its own block or a new one; its header is stored. -/
theorem Rws.put {ok : Nat → Prop} {base : Nat} {hs : List Head} {xss : List (List Int)} {g n cap : Nat} {W W1 : World} (h : Rws ok base (.slice (some ⟨g, 0, none⟩) n cap) hs xss W) (i : Nat) (p p1 : Head) (xs1 : List Int) (hp : hs[i]? = some p) (hr : Kd.R (Kd.int .i64) 3 W1 base ok (hdv p1) xs1) (hg : W.grownBy W1 (hdv p).ownBlock) (hat : (hdv p1).ownBlock = (hdv p).ownBlock ∨ ∃ b, (hdv p1).ownBlock = some b ∧ W.heap.size ≤ b) :
    Rws ok base (.slice (some ⟨g, 0, none⟩) n cap) (hs.set i p1) (xss.set i xs1) (W1.setCell ⟨g, i, none⟩ (hdv p1)) := by
  obtain ⟨hil, hpe⟩ := List.getElem?_eq_some_iff.1 hp
  have hix : i < xss.length := by rw [← h.len]; exact hil
  obtain ⟨hhead, hrows⟩ := h.row_put i p hp hg
  obtain ⟨cells, hh⟩ := own_ty hhead g rfl
  have hput := Kd.R_putn hhead (i : Int) p1
  rw [Int.toNat_natCast] at hput
  refine ⟨hput, by simp [h.len], fun j q xs e1 e2 => ?_, fun j k q q' e1 e2 hne b hb => ?_⟩
  · rw [List.getElem?_set] at e1 e2
    by_cases hj : i = j
    · subst hj
      rw [if_pos rfl, if_pos hil] at e1
      rw [if_pos rfl, if_pos hix] at e2
      injection e1 with e1
      injection e2 with e2
      subst e1 e2
      exact Kd.R_set hr hh (by decide) i _
    · rw [if_neg hj] at e1 e2
      exact Kd.R_set (hrows j q xs e1 e2 hj) hh (by decide) i _
  · have key : ∀ (j : Nat) (q : Head), (hs.set i p1)[j]? = some q → i ≠ j → hs[j]? = some q := fun j q e hj => by
      rw [List.getElem?_set, if_neg hj] at e
      exact e
    have self : ∀ q, (hs.set i p1)[i]? = some q → q = p1 := fun q e => by
      rw [List.getElem?_set, if_pos rfl, if_pos hil] at e
      injection e with e
      exact e.symm
    have lt : ∀ (j : Nat) (q : Head) (b : Nat), hs[j]? = some q → (hdv q).ownBlock = some b → b < W.heap.size := fun j q b e hb => by
      have hj : j < xss.length := by rw [← h.len]; exact (List.getElem?_eq_some_iff.1 e).1
      exact ((Kd.R_bound (h.row j q xss[j] e (List.getElem?_eq_getElem hj))).1 b hb).2.2.1
    by_cases hj : i = j
    · subst hj
      obtain rfl := self q e1
      have e2' := key k q' e2 hne
      rcases hat with hat | ⟨b', hb', hle⟩
      · rw [hat] at hb
        exact h.sep i k p q' hp e2' hne b hb
      · intro he
        have := lt k q' b e2' he
        rw [hb'] at hb
        injection hb with hb
        omega
    · have e1' := key j q e1 hj
      by_cases hk : i = k
      · subst hk
        obtain rfl := self q' e2
        rcases hat with hat | ⟨b', hb', hle⟩
        · rw [hat]
          exact h.sep j i q p e1' hp hne b hb
        · intro he
          have := lt j q b e1' hb
          rw [hb'] at he
          injection he with he
          omega
      · exact h.sep j k q q' e1' (key k q' e2 hk) hne b hb
def toHead : Value → Head
  | .slice a n c => (a, n, c)
  | _ => (none, 0, 0)
/-- Rws as the print has them. -/
theorem Rws.of_S {ok : Nat → Prop} {base : Nat} {v : Value} {xss : List (List Int)} {W : World} (h : Kd.S (Kd.slice 3 (Kd.int .i64)) 22 W base ok v xss) : ∃ hs, Rws ok base v hs xss W := by
  obtain ⟨f, h0, inner, ho, hl, hr⟩ := h
  have hsz : ((Kd.tag f (Kd.slice 3 (Kd.int .i64)))).sz = 1 := rfl
  rw [List.length_zipIdx] at hl
  rw [hsz, Nat.mul_one] at hl
  have hel : ∀ j (hj : j < xss.length), ∃ w_, inner[j]? = some w_ ∧ hdv (toHead w_) = w_ ∧ Kd.R (Kd.int .i64) 3 W base (fun k => (ok k ∧ some k ≠ v.ownBlock) ∧ f k = j) w_ xss[j] := fun j hj => by
    have hj' := hr j (xss[j], j) (by rw [List.getElem?_zipIdx, List.getElem?_eq_getElem hj]; simp)
    rw [hsz, Nat.mul_one, List.drop_eq_getElem_cons (by omega)] at hj'
    obtain ⟨w_, e, hR⟩ := hj'
    simp only [List.take_succ_cons, List.take_zero, List.cons.injEq, and_true] at e
    refine ⟨w_, by rw [List.getElem?_eq_getElem (by omega), e], ?_, hR⟩
    obtain ⟨A, c, e2⟩ := Kd.R_slice hR
    rw [e2]
    rfl
  have hin : inner.map (fun w_ => hdv (toHead w_)) = inner := by
    apply List.ext_getElem (by simp)
    intro j h1 h2
    obtain ⟨w_, e1, e2, _⟩ := hel j (by omega)
    rw [List.getElem?_eq_getElem h2] at e1
    injection e1 with e1
    simp only [List.getElem_map]
    rw [e1]
    exact e2
  refine ⟨inner.map toHead, ⟨?_, by rw [List.length_map]; omega, fun i p xs e1 e2 => ?_, fun i j p q e1 e2 hne k hk hk2 => ?_⟩⟩
  · have : encs hdv (inner.map toHead) = inner := by rw [encs, List.map_map]; exact hin
    refine Kd.R_of_own (enc := hdv) (h1 := fun _ => rfl) ?_ h0
    rw [this, List.length_map, hl]
    have ho' := ho
    rw [List.length_zipIdx] at ho'
    exact ho'
  · have hi : i < xss.length := (List.getElem?_eq_some_iff.1 e2).1
    obtain ⟨w_, c1, c2, c3⟩ := hel i hi
    rw [List.getElem?_map, c1] at e1
    simp only [Option.map_some, Option.some.injEq] at e1
    rw [List.getElem?_eq_getElem hi] at e2
    injection e2 with e2
    rw [← e1, c2, ← e2]
    exact Kd.R_mono c3 (fun _ hk => hk.1.1)
  · have hlen : ∀ (i : Nat) (p : Head), (inner.map toHead)[i]? = some p → i < xss.length := fun i p e => by
      have := (List.getElem?_eq_some_iff.1 e).1
      rw [List.length_map] at this
      omega
    obtain ⟨w1, c1, c2, c3⟩ := hel i (hlen i p e1)
    obtain ⟨w2, d1, d2, d3⟩ := hel j (hlen j q e2)
    rw [List.getElem?_map, c1] at e1
    rw [List.getElem?_map, d1] at e2
    simp only [Option.map_some, Option.some.injEq] at e1 e2
    rw [← e1, c2] at hk
    rw [← e2, d2] at hk2
    have f1 := (c3.1 k hk).2
    have f2 := (d3.1 k hk2).2
    omega
end Go.Proofs.Yteldofimjklckaa.G
