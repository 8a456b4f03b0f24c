-- Written by this session's own program over the seat's translation (a changed print); not the kit's printed text
import Derived.Test.YtcjmjggifeaggaaX0
import Derived.Test.YtcjmjggifeaggaaX1
import Derived.Test.YtcjmjggifeaggaaX2
import Derived.Test.YtcjmjggifeaggaaHRes
import Derived.Test.YtcjmjggifeaggaaHRefLev
namespace Go.Proofs.Ytcjmjggifeaggaa.X
open Go.RowKit Go.Proofs.YtcjmjggifeaggaaW.PrintWords Go.Proofs.YtcjmjggifeaggaaW.PrintLast Go.Proofs.YtcjmjggifeaggaaW.PrintMore Go.Proofs.Ytcjmjggifeaggaa.G
attribute [local go_sem] max2_int min2_int max_two min_two max_three min_three max_four min_four   -- for this text's walks alone
set_option linter.unusedVariables false
set_option linter.unusedSimpArgs false

/-! ### colophonlaw11_NeutralBetween: function 7 -/
mutual
def colophonlaw11_NeutralBetween.l0 : Nat → Int → Int → Int → Int → List Int → Int → Option (Bool)
  | 0, _, _, _, _, _, _ => none
  | k + 1, x0, x3, x10, x11, x12, x13 => if x13 < x0 then ((some (([13, 14, 23, 12] : List Int) : List Int)).bind fun y227 => (if 0 ≤ (Int.tmod x13 4) then (if (Int.tmod x13 4) < (y227.length : Int) then (if x12.length < 17592186044416 then (colophonlaw11_NeutralBetween.l0 k x0 x3 x10 x11 (x12 ++ [rd y227 (Int.tmod x13 4)]) (wrap64 (x13 + 1))) else (none)) else (none)) else (none))) else (if x12.length < 17592186044416 then ((some (x12 ++ [x11] : List Int)).bind fun y234 => ((colophonlaw11_side.f x10).bind fun t237 => ((colophonlaw11_side.f x11).bind fun t238 => (if t237 = t238 then ((colophonlaw11_side.f x10).bind fun t239 => (colophonlaw11_NeutralBetween.j1 k x0 x3 y234 t239)) else (colophonlaw11_NeutralBetween.j1 k x0 x3 y234 (wrap64 (1 + (Int.tmod x3 2)))))))) else (none))
def colophonlaw11_NeutralBetween.j1 : Nat → Int → Int → List Int → Int → Option (Bool)
  | 0, _, _, _, _ => none
  | k + 1, x0, x3, x12, x14 => colophonlaw11_NeutralBetween.l1 k x0 x3 x12 x14 1
def colophonlaw11_NeutralBetween.l1 : Nat → Int → Int → List Int → Int → Int → Option (Bool)
  | 0, _, _, _, _, _ => none
  | k + 1, x0, x3, x12, x14, x15 => if x15 ≤ 2 then (colophonlaw11_NeutralBetween.l2 k x0 x3 x12 x14 x15 1) else (some true)
def colophonlaw11_NeutralBetween.l2 : Nat → Int → Int → List Int → Int → Int → Int → Option (Bool)
  | 0, _, _, _, _, _, _ => none
  | k + 1, x0, x3, x12, x14, x15, x16 => if x16 ≤ 2 then ((neutral_Resolve.f x12 x3 x15 x16).bind fun bt240 => (if bt240.2 = 0 then (colophonlaw11_NeutralBetween.j4 k x0 x3 x12 x14 x15 x16 bt240.1 ((bt240.1.length : Int) != (wrap64 (x0 + 2)))) else (colophonlaw11_NeutralBetween.j4 k x0 x3 x12 x14 x15 x16 bt240.1 true))) else (colophonlaw11_NeutralBetween.l1 k x0 x3 x12 x14 (wrap64 (x15 + 1)))
def colophonlaw11_NeutralBetween.j4 : Nat → Int → Int → List Int → Int → Int → Int → List Int → Bool → Option (Bool)
  | 0, _, _, _, _, _, _, _, _ => none
  | k + 1, x0, x3, x12, x14, x15, x16, x17, x98 => if x98 = true then (some false) else (colophonlaw11_NeutralBetween.l3 k x0 x3 x12 x14 x15 x16 x17 1)
def colophonlaw11_NeutralBetween.l3 : Nat → Int → Int → List Int → Int → Int → Int → List Int → Int → Option (Bool)
  | 0, _, _, _, _, _, _, _, _ => none
  | k + 1, x0, x3, x12, x14, x15, x16, x17, x19 => if x19 ≤ x0 then (if 0 ≤ x19 then (if x19 < (x17.length : Int) then (if (rd x17 x19) = x14 then (colophonlaw11_NeutralBetween.l3 k x0 x3 x12 x14 x15 x16 x17 (wrap64 (x19 + 1))) else (some false)) else (none)) else (none)) else (colophonlaw11_NeutralBetween.l2 k x0 x3 x12 x14 x15 (wrap64 (x16 + 1)))
end
def colophonlaw11_NeutralBetween.f (k : Nat) (a0 : Int) (a1 : Int) (a2 : Int) (a3 : Int) : Option (Bool) := (colophonlaw11_works.f k).bind fun t218 => (if t218 = true then ((some (([1, 2, 4, 7] : List Int) : List Int)).bind fun y219 => (if 0 ≤ (wrap64 (Int.tmod (IntKind.u64.wrap (a1)) 4)) then (if (wrap64 (Int.tmod (IntKind.u64.wrap (a1)) 4)) < (y219.length : Int) then (if 0 ≤ (wrap64 (Int.tmod (IntKind.u64.wrap (a2)) 4)) then (if (wrap64 (Int.tmod (IntKind.u64.wrap (a2)) 4)) < (y219.length : Int) then (colophonlaw11_NeutralBetween.l0 k (wrap64 (Int.tmod (IntKind.u64.wrap (a0)) 50)) (wrap64 (Int.tmod (IntKind.u64.wrap (a3)) 127)) (rd y219 (wrap64 (Int.tmod (IntKind.u64.wrap (a1)) 4))) (rd y219 (wrap64 (Int.tmod (IntKind.u64.wrap (a2)) 4))) (([rd y219 (wrap64 (Int.tmod (IntKind.u64.wrap (a1)) 4))] : List Int)) 0) else (none)) else (none)) else (none)) else (none))) else (some false))
theorem colophonlaw11_NeutralBetween.mono_l : ∀ k, (∀ y0 y1 y2 y3 y4 y5, LeO (colophonlaw11_NeutralBetween.l0 k y0 y1 y2 y3 y4 y5) (colophonlaw11_NeutralBetween.l0 (k + 1) y0 y1 y2 y3 y4 y5)) ∧ (∀ y0 y1 y2 y3, LeO (colophonlaw11_NeutralBetween.j1 k y0 y1 y2 y3) (colophonlaw11_NeutralBetween.j1 (k + 1) y0 y1 y2 y3)) ∧ (∀ y0 y1 y2 y3 y4, LeO (colophonlaw11_NeutralBetween.l1 k y0 y1 y2 y3 y4) (colophonlaw11_NeutralBetween.l1 (k + 1) y0 y1 y2 y3 y4)) ∧ (∀ y0 y1 y2 y3 y4 y5, LeO (colophonlaw11_NeutralBetween.l2 k y0 y1 y2 y3 y4 y5) (colophonlaw11_NeutralBetween.l2 (k + 1) y0 y1 y2 y3 y4 y5)) ∧ (∀ y0 y1 y2 y3 y4 y5 y6 y7, LeO (colophonlaw11_NeutralBetween.j4 k y0 y1 y2 y3 y4 y5 y6 y7) (colophonlaw11_NeutralBetween.j4 (k + 1) y0 y1 y2 y3 y4 y5 y6 y7)) ∧ (∀ y0 y1 y2 y3 y4 y5 y6 y7, LeO (colophonlaw11_NeutralBetween.l3 k y0 y1 y2 y3 y4 y5 y6 y7) (colophonlaw11_NeutralBetween.l3 (k + 1) y0 y1 y2 y3 y4 y5 y6 y7))
  | 0 => ⟨fun _ _ _ _ _ _ r h => by simp [colophonlaw11_NeutralBetween.l0] at h, fun _ _ _ _ r h => by simp [colophonlaw11_NeutralBetween.j1] at h, fun _ _ _ _ _ r h => by simp [colophonlaw11_NeutralBetween.l1] at h, fun _ _ _ _ _ _ r h => by simp [colophonlaw11_NeutralBetween.l2] at h, fun _ _ _ _ _ _ _ _ r h => by simp [colophonlaw11_NeutralBetween.j4] at h, fun _ _ _ _ _ _ _ _ r h => by simp [colophonlaw11_NeutralBetween.l3] at h⟩
  | k + 1 => by
    obtain ⟨ih0, ih1, ih2, ih3, ih4, ih5⟩ := colophonlaw11_NeutralBetween.mono_l k
    refine ⟨?_, ?_, ?_, ?_, ?_, ?_⟩
    · intro y0 y1 y2 y3 y4 y5
      unfold colophonlaw11_NeutralBetween.l0
      repeat' first
      | (with_reducible exact ih0 _ _ _ _ _ _)
      | (with_reducible exact ih1 _ _ _ _)
      | (with_reducible exact ih2 _ _ _ _ _)
      | (with_reducible exact ih3 _ _ _ _ _ _)
      | (with_reducible exact ih4 _ _ _ _ _ _ _ _)
      | (with_reducible exact ih5 _ _ _ _ _ _ _ _)
      | (with_reducible exact colophonlaw11_works.mono _)
      | (with_reducible exact LeO.refl _)
      | (with_reducible exact LeO.none _)
      | (with_reducible refine LeO.ite ?_ ?_)
      | (with_reducible refine LeO.bind ?_ (fun _ => ?_))
      | exact ih0 _ _ _ _ _ _
      | exact ih1 _ _ _ _
      | exact ih2 _ _ _ _ _
      | exact ih3 _ _ _ _ _ _
      | exact ih4 _ _ _ _ _ _ _ _
      | exact ih5 _ _ _ _ _ _ _ _
      | exact colophonlaw11_works.mono _
      | exact LeO.none _
      | refine LeO.ite ?_ ?_
      | refine LeO.bind ?_ (fun _ => ?_)
    · intro y0 y1 y2 y3
      unfold colophonlaw11_NeutralBetween.j1
      repeat' first
      | (with_reducible exact ih0 _ _ _ _ _ _)
      | (with_reducible exact ih1 _ _ _ _)
      | (with_reducible exact ih2 _ _ _ _ _)
      | (with_reducible exact ih3 _ _ _ _ _ _)
      | (with_reducible exact ih4 _ _ _ _ _ _ _ _)
      | (with_reducible exact ih5 _ _ _ _ _ _ _ _)
      | (with_reducible exact colophonlaw11_works.mono _)
      | (with_reducible exact LeO.refl _)
      | (with_reducible exact LeO.none _)
      | (with_reducible refine LeO.ite ?_ ?_)
      | (with_reducible refine LeO.bind ?_ (fun _ => ?_))
      | exact ih0 _ _ _ _ _ _
      | exact ih1 _ _ _ _
      | exact ih2 _ _ _ _ _
      | exact ih3 _ _ _ _ _ _
      | exact ih4 _ _ _ _ _ _ _ _
      | exact ih5 _ _ _ _ _ _ _ _
      | exact colophonlaw11_works.mono _
      | exact LeO.none _
      | refine LeO.ite ?_ ?_
      | refine LeO.bind ?_ (fun _ => ?_)
    · intro y0 y1 y2 y3 y4
      unfold colophonlaw11_NeutralBetween.l1
      repeat' first
      | (with_reducible exact ih0 _ _ _ _ _ _)
      | (with_reducible exact ih1 _ _ _ _)
      | (with_reducible exact ih2 _ _ _ _ _)
      | (with_reducible exact ih3 _ _ _ _ _ _)
      | (with_reducible exact ih4 _ _ _ _ _ _ _ _)
      | (with_reducible exact ih5 _ _ _ _ _ _ _ _)
      | (with_reducible exact colophonlaw11_works.mono _)
      | (with_reducible exact LeO.refl _)
      | (with_reducible exact LeO.none _)
      | (with_reducible refine LeO.ite ?_ ?_)
      | (with_reducible refine LeO.bind ?_ (fun _ => ?_))
      | exact ih0 _ _ _ _ _ _
      | exact ih1 _ _ _ _
      | exact ih2 _ _ _ _ _
      | exact ih3 _ _ _ _ _ _
      | exact ih4 _ _ _ _ _ _ _ _
      | exact ih5 _ _ _ _ _ _ _ _
      | exact colophonlaw11_works.mono _
      | exact LeO.none _
      | refine LeO.ite ?_ ?_
      | refine LeO.bind ?_ (fun _ => ?_)
    · intro y0 y1 y2 y3 y4 y5
      unfold colophonlaw11_NeutralBetween.l2
      repeat' first
      | (with_reducible exact ih0 _ _ _ _ _ _)
      | (with_reducible exact ih1 _ _ _ _)
      | (with_reducible exact ih2 _ _ _ _ _)
      | (with_reducible exact ih3 _ _ _ _ _ _)
      | (with_reducible exact ih4 _ _ _ _ _ _ _ _)
      | (with_reducible exact ih5 _ _ _ _ _ _ _ _)
      | (with_reducible exact colophonlaw11_works.mono _)
      | (with_reducible exact LeO.refl _)
      | (with_reducible exact LeO.none _)
      | (with_reducible refine LeO.ite ?_ ?_)
      | (with_reducible refine LeO.bind ?_ (fun _ => ?_))
      | exact ih0 _ _ _ _ _ _
      | exact ih1 _ _ _ _
      | exact ih2 _ _ _ _ _
      | exact ih3 _ _ _ _ _ _
      | exact ih4 _ _ _ _ _ _ _ _
      | exact ih5 _ _ _ _ _ _ _ _
      | exact colophonlaw11_works.mono _
      | exact LeO.none _
      | refine LeO.ite ?_ ?_
      | refine LeO.bind ?_ (fun _ => ?_)
    · intro y0 y1 y2 y3 y4 y5 y6 y7
      unfold colophonlaw11_NeutralBetween.j4
      repeat' first
      | (with_reducible exact ih0 _ _ _ _ _ _)
      | (with_reducible exact ih1 _ _ _ _)
      | (with_reducible exact ih2 _ _ _ _ _)
      | (with_reducible exact ih3 _ _ _ _ _ _)
      | (with_reducible exact ih4 _ _ _ _ _ _ _ _)
      | (with_reducible exact ih5 _ _ _ _ _ _ _ _)
      | (with_reducible exact colophonlaw11_works.mono _)
      | (with_reducible exact LeO.refl _)
      | (with_reducible exact LeO.none _)
      | (with_reducible refine LeO.ite ?_ ?_)
      | (with_reducible refine LeO.bind ?_ (fun _ => ?_))
      | exact ih0 _ _ _ _ _ _
      | exact ih1 _ _ _ _
      | exact ih2 _ _ _ _ _
      | exact ih3 _ _ _ _ _ _
      | exact ih4 _ _ _ _ _ _ _ _
      | exact ih5 _ _ _ _ _ _ _ _
      | exact colophonlaw11_works.mono _
      | exact LeO.none _
      | refine LeO.ite ?_ ?_
      | refine LeO.bind ?_ (fun _ => ?_)
    · intro y0 y1 y2 y3 y4 y5 y6 y7
      unfold colophonlaw11_NeutralBetween.l3
      repeat' first
      | (with_reducible exact ih0 _ _ _ _ _ _)
      | (with_reducible exact ih1 _ _ _ _)
      | (with_reducible exact ih2 _ _ _ _ _)
      | (with_reducible exact ih3 _ _ _ _ _ _)
      | (with_reducible exact ih4 _ _ _ _ _ _ _ _)
      | (with_reducible exact ih5 _ _ _ _ _ _ _ _)
      | (with_reducible exact colophonlaw11_works.mono _)
      | (with_reducible exact LeO.refl _)
      | (with_reducible exact LeO.none _)
      | (with_reducible refine LeO.ite ?_ ?_)
      | (with_reducible refine LeO.bind ?_ (fun _ => ?_))
      | exact ih0 _ _ _ _ _ _
      | exact ih1 _ _ _ _
      | exact ih2 _ _ _ _ _
      | exact ih3 _ _ _ _ _ _
      | exact ih4 _ _ _ _ _ _ _ _
      | exact ih5 _ _ _ _ _ _ _ _
      | exact colophonlaw11_works.mono _
      | exact LeO.none _
      | refine LeO.ite ?_ ?_
      | refine LeO.bind ?_ (fun _ => ?_)
theorem colophonlaw11_NeutralBetween.mono : ∀ a0 a1 a2 a3 k, LeO (colophonlaw11_NeutralBetween.f k a0 a1 a2 a3) (colophonlaw11_NeutralBetween.f (k + 1) a0 a1 a2 a3) := by
  intro a0 a1 a2 a3 k
  obtain ⟨ih0, ih1, ih2, ih3, ih4, ih5⟩ := colophonlaw11_NeutralBetween.mono_l k
  unfold colophonlaw11_NeutralBetween.f
  repeat' first
      | (with_reducible exact ih0 _ _ _ _ _ _)
      | (with_reducible exact ih1 _ _ _ _)
      | (with_reducible exact ih2 _ _ _ _ _)
      | (with_reducible exact ih3 _ _ _ _ _ _)
      | (with_reducible exact ih4 _ _ _ _ _ _ _ _)
      | (with_reducible exact ih5 _ _ _ _ _ _ _ _)
      | (with_reducible exact colophonlaw11_works.mono _)
      | (with_reducible exact LeO.refl _)
      | (with_reducible exact LeO.none _)
      | (with_reducible refine LeO.ite ?_ ?_)
      | (with_reducible refine LeO.bind ?_ (fun _ => ?_))
      | exact ih0 _ _ _ _ _ _
      | exact ih1 _ _ _ _
      | exact ih2 _ _ _ _ _
      | exact ih3 _ _ _ _ _ _
      | exact ih4 _ _ _ _ _ _ _ _
      | exact ih5 _ _ _ _ _ _ _ _
      | exact colophonlaw11_works.mono _
      | exact LeO.none _
      | refine LeO.ite ?_ ?_
      | refine LeO.bind ?_ (fun _ => ?_)
set_option maxHeartbeats 8000000 in
set_option maxRecDepth 100000 in
theorem colophonlaw11_NeutralBetween.calls (k : Nat) (a0 : Int) (a1 : Int) (a2 : Int) (a3 : Int) (r : Bool) (w : World) (h : colophonlaw11_NeutralBetween.f k a0 a1 a2 a3 = some r) :
    Calls Try.prog 7 #[.int .i64 a0, .int .i64 a1, .int .i64 a2, .int .i64 a3] w fun e w' => e = .returned (.bool r) ∧ Below w.heap.size w w' := by
  have HB := Aside0.mk (Below.refl w.heap.size w)
  have H : ((colophonlaw11_works.f k).bind fun t218 => (if t218 = true then ((some (([1, 2, 4, 7] : List Int) : List Int)).bind fun y219 => (if 0 ≤ (wrap64 (Int.tmod (IntKind.u64.wrap (a1)) 4)) then (if (wrap64 (Int.tmod (IntKind.u64.wrap (a1)) 4)) < (y219.length : Int) then (if 0 ≤ (wrap64 (Int.tmod (IntKind.u64.wrap (a2)) 4)) then (if (wrap64 (Int.tmod (IntKind.u64.wrap (a2)) 4)) < (y219.length : Int) then (colophonlaw11_NeutralBetween.l0 k (wrap64 (Int.tmod (IntKind.u64.wrap (a0)) 50)) (wrap64 (Int.tmod (IntKind.u64.wrap (a3)) 127)) (rd y219 (wrap64 (Int.tmod (IntKind.u64.wrap (a1)) 4))) (rd y219 (wrap64 (Int.tmod (IntKind.u64.wrap (a2)) 4))) (([rd y219 (wrap64 (Int.tmod (IntKind.u64.wrap (a1)) 4))] : List Int)) 0) else (none)) else (none)) else (none)) else (none))) else (some false))) = some r := h
  clear h
  replace H := Option.bind_eq_some_iff.mp H
  obtain ⟨t218, A50, H⟩ := H
  replace H : (if t218 = true then ((some (([1, 2, 4, 7] : List Int) : List Int)).bind fun y219 => (if 0 ≤ (wrap64 (Int.tmod (IntKind.u64.wrap (a1)) 4)) then (if (wrap64 (Int.tmod (IntKind.u64.wrap (a1)) 4)) < (y219.length : Int) then (if 0 ≤ (wrap64 (Int.tmod (IntKind.u64.wrap (a2)) 4)) then (if (wrap64 (Int.tmod (IntKind.u64.wrap (a2)) 4)) < (y219.length : Int) then (colophonlaw11_NeutralBetween.l0 k (wrap64 (Int.tmod (IntKind.u64.wrap (a0)) 50)) (wrap64 (Int.tmod (IntKind.u64.wrap (a3)) 127)) (rd y219 (wrap64 (Int.tmod (IntKind.u64.wrap (a1)) 4))) (rd y219 (wrap64 (Int.tmod (IntKind.u64.wrap (a2)) 4))) (([rd y219 (wrap64 (Int.tmod (IntKind.u64.wrap (a1)) 4))] : List Int)) 0) else (none)) else (none)) else (none)) else (none))) else (some false)) = some r := H
  have A5 := Aside0.mk A50
  clear A50
  by_cases c6 : t218 = true
  · as_aux_lemma =>
    subst c6
    have H1 : ((some (([1, 2, 4, 7] : List Int) : List Int)).bind fun y219 => (if 0 ≤ (wrap64 (Int.tmod (IntKind.u64.wrap (a1)) 4)) then (if (wrap64 (Int.tmod (IntKind.u64.wrap (a1)) 4)) < (y219.length : Int) then (if 0 ≤ (wrap64 (Int.tmod (IntKind.u64.wrap (a2)) 4)) then (if (wrap64 (Int.tmod (IntKind.u64.wrap (a2)) 4)) < (y219.length : Int) then (colophonlaw11_NeutralBetween.l0 k (wrap64 (Int.tmod (IntKind.u64.wrap (a0)) 50)) (wrap64 (Int.tmod (IntKind.u64.wrap (a3)) 127)) (rd y219 (wrap64 (Int.tmod (IntKind.u64.wrap (a1)) 4))) (rd y219 (wrap64 (Int.tmod (IntKind.u64.wrap (a2)) 4))) (([rd y219 (wrap64 (Int.tmod (IntKind.u64.wrap (a1)) 4))] : List Int)) 0) else (none)) else (none)) else (none)) else (none))) = some r := by rw [if_pos rfl] at H; exact H
    clear H
    have H := H1
    clear H1
    obtain ⟨y219, hy219⟩ : ∃ y_ : List Int, y_ = (([1, 2, 4, 7] : List Int)) := ⟨_, rfl⟩
    replace H : (if 0 ≤ (wrap64 (Int.tmod (IntKind.u64.wrap (a1)) 4)) then (if (wrap64 (Int.tmod (IntKind.u64.wrap (a1)) 4)) < (y219.length : Int) then (if 0 ≤ (wrap64 (Int.tmod (IntKind.u64.wrap (a2)) 4)) then (if (wrap64 (Int.tmod (IntKind.u64.wrap (a2)) 4)) < (y219.length : Int) then (colophonlaw11_NeutralBetween.l0 k (wrap64 (Int.tmod (IntKind.u64.wrap (a0)) 50)) (wrap64 (Int.tmod (IntKind.u64.wrap (a3)) 127)) (rd y219 (wrap64 (Int.tmod (IntKind.u64.wrap (a1)) 4))) (rd y219 (wrap64 (Int.tmod (IntKind.u64.wrap (a2)) 4))) (([rd y219 (wrap64 (Int.tmod (IntKind.u64.wrap (a1)) 4))] : List Int)) 0) else (none)) else (none)) else (none)) else (none)) = some r := by first | (rw [hy219]; with_reducible exact H) | (have H2_ := (Option.bind_some _ _).symm.trans H; rw [hy219]; with_reducible exact H2_) | (have H2_ := (Option.bind_some _ _).symm.trans H; with_reducible exact H2_) | with_reducible exact H | (rw [hy219]; exact H) | exact H
    have Ny219 := Aside0.mk hy219
    clear hy219
    obtain ⟨ji7, hji7⟩ : ∃ j_ : Int, (wrap64 (Int.tmod (IntKind.u64.wrap (a1)) 4)) = j_ := ⟨_, rfl⟩
    replace H : (if 0 ≤ (ji7) then (if (ji7) < (y219.length : Int) then (if 0 ≤ (wrap64 (Int.tmod (IntKind.u64.wrap (a2)) 4)) then (if (wrap64 (Int.tmod (IntKind.u64.wrap (a2)) 4)) < (y219.length : Int) then (colophonlaw11_NeutralBetween.l0 k (wrap64 (Int.tmod (IntKind.u64.wrap (a0)) 50)) (wrap64 (Int.tmod (IntKind.u64.wrap (a3)) 127)) (rd y219 (ji7)) (rd y219 (wrap64 (Int.tmod (IntKind.u64.wrap (a2)) 4))) (([rd y219 (ji7)] : List Int)) 0) else (none)) else (none)) else (none)) else (none)) = some r := by first | (rw [hji7] at H; exact H) | (simp only [hji7] at H ⊢; exact H)
    (try rw [hji7] at A5)
    have hji7w : (IntKind.i64.wrap (Int.tmod (IntKind.u64.wrap (a1)) 4)) = ji7 := (i64_w _).trans hji7
    by_cases c8 : 0 ≤ (ji7)
    · as_aux_lemma =>
      rw [if_pos c8] at H
      have c8b0 : decide (0 ≤ (ji7)) = true := decide_eq_true c8
      clear c8
      by_cases c9 : (ji7) < (y219.length : Int)
      · as_aux_lemma =>
        rw [if_pos c9] at H
        have c9b0 : decide ((ji7) < (y219.length : Int)) = true := decide_eq_true c9
        clear c9
        obtain ⟨ji10, hji10⟩ : ∃ j_ : Int, (wrap64 (Int.tmod (IntKind.u64.wrap (a2)) 4)) = j_ := ⟨_, rfl⟩
        replace H : (if 0 ≤ (ji10) then (if (ji10) < (y219.length : Int) then (colophonlaw11_NeutralBetween.l0 k (wrap64 (Int.tmod (IntKind.u64.wrap (a0)) 50)) (wrap64 (Int.tmod (IntKind.u64.wrap (a3)) 127)) (rd y219 (ji7)) (rd y219 (ji10)) (([rd y219 (ji7)] : List Int)) 0) else (none)) else (none)) = some r := by first | (rw [hji10] at H; exact H) | (simp only [hji10] at H ⊢; exact H)
        (try rw [hji10] at A5)
        have hji10w : (IntKind.i64.wrap (Int.tmod (IntKind.u64.wrap (a2)) 4)) = ji10 := (i64_w _).trans hji10
        by_cases c11 : 0 ≤ (ji10)
        · as_aux_lemma =>
          rw [if_pos c11] at H
          have c11b0 : decide (0 ≤ (ji10)) = true := decide_eq_true c11
          clear c11
          by_cases c12 : (ji10) < (y219.length : Int)
          · as_aux_lemma =>
            rw [if_pos c12] at H
            have c12b0 : decide ((ji10) < (y219.length : Int)) = true := decide_eq_true c12
            clear c12
            obtain ⟨y224, hy224⟩ : ∃ y_ : List Int, y_ = (([rd y219 (ji7)] : List Int)) := ⟨_, rfl⟩
            replace H : (colophonlaw11_NeutralBetween.l0 k (wrap64 (Int.tmod (IntKind.u64.wrap (a0)) 50)) (wrap64 (Int.tmod (IntKind.u64.wrap (a3)) 127)) (rd y219 (ji7)) (rd y219 (ji10)) y224 0) = some r := by first | (rw [hy224]; with_reducible exact H) | (have H2_ := (Option.bind_some _ _).symm.trans H; rw [hy224]; with_reducible exact H2_) | (have H2_ := (Option.bind_some _ _).symm.trans H; with_reducible exact H2_) | with_reducible exact H | (rw [hy224]; exact H) | exact H
            have Ny224 := Aside0.mk hy224
            clear hy224
            have H' := Aside0.mk H
            clear H
            go_enter Try.func7, Try.ntmps7
            go_wp2_with (first | (go_at_call 9; (with_reducible refine (colophonlaw11_works.calls k  true _ A5.out).mono ?_); rintro e w13 ⟨rfl, hb⟩; have n0_ := Aside0.mk (below_step (by repeat (first | (with_reducible first | exact HB.out | apply below_alloc | apply pw_below_drewN | apply below_drew1) | exact HB.out)) hb); clear HB; have HB := n0_; clear n0_; (try clear hb); (try clear hb2); (try clear hk); (try clear hi)) | ((with_reducible refine gate_dst (N := 22) rfl ?_); (try (refine gate_guard (by rfl) ?_; dsimp only)); refine Kd.R_lit (Kd.int .i64) _ 3 ?hg (N := 22) ?hd (xs := ([1, 2, 4, 7] : List Int)) (inner := [.int .i64 1, .int .i64 2, .int .i64 4, .int .i64 7]) (ok := fun _ => True) (okp := fun _ => True) ?hr ?hp (fun _ hk => hk) trivial (Below.refl _ _) (Nat.le_refl _) (by simp) ?_; (case hd => rfl); (case hg => rfl); (case hr => first | (go_simp; done) | (go_simp; rfl)); (case hp => exact (Reps.one (show Kd.M (Kd.int .i64) _ _ _ 1 [.int .i64 1] from rfl) (Reps.one (show Kd.M (Kd.int .i64) _ _ _ 2 [.int .i64 2] from rfl) (Reps.one (show Kd.M (Kd.int .i64) _ _ _ 4 [.int .i64 4] from rfl) (Reps.one (show Kd.M (Kd.int .i64) _ _ _ 7 [.int .i64 7] from rfl) (Reps.none _ _)))))); intro v220 w14 ho15 hb hg_ hnew_; clear hg_ hnew_; (first | rw [← Ny219.out] at ho15 | (simp only [Int.reduceToNat] at ho15; rw [← Ny219.out] at ho15)); have n0_ := Aside0.mk (Kd.R_lower ho15 (below_size (by repeat (first | (with_reducible first | exact HB.out | apply below_alloc | apply pw_below_drewN | apply below_drew1) | exact HB.out)))); have n1_ := Aside0.mk (below_step (by repeat (first | (with_reducible first | exact HB.out | apply below_alloc | apply pw_below_drewN | apply below_drew1) | exact HB.out)) hb); clear HB; have HO221 := n0_; have HB := n1_; clear n0_ n1_; clear hb ho15; obtain ⟨Ao16, co16, eo16⟩ := Kd.R_slice HO221.out; subst eo16; have p222 : 0 ≤ ((ji7) : Int) := of_decide_eq_true (by first | (with_reducible assumption) | assumption); have q222 : (ji7) < (y219.length : Int) := of_decide_eq_true (by first | (with_reducible assumption) | assumption); obtain ⟨ad222, e222, hx222_0⟩ := Kd.at_int (Kd.R_reads' HO221.out).2.2 (ji7) p222 q222; cases e222; replace p222 := eq_true p222; replace q222 := eq_true q222; have p223 : 0 ≤ ((ji10) : Int) := of_decide_eq_true (by first | (with_reducible assumption) | assumption); have q223 : (ji10) < (y219.length : Int) := of_decide_eq_true (by first | (with_reducible assumption) | assumption); obtain ⟨ad223, e223, hx223_0⟩ := Kd.at_int (Kd.R_reads' HO221.out).2.2 (ji10) p223 q223; obtain rfl : ad222 = ad223 := (by injection e223); replace p223 := eq_true p223; replace q223 := eq_true q223) | ((with_reducible refine gate_dst (N := 46) rfl ?_); (try (refine gate_guard (by rfl) ?_; dsimp only)); refine Kd.R_lit (Kd.int .i64) _ 3 ?hg (N := 46) ?hd (xs := ([rd y219 (ji7)] : List Int)) (inner := [.int .i64 (rd y219 (ji7))]) (ok := fun _ => True) (okp := fun _ => True) ?hr ?hp (fun _ hk => hk) trivial (Below.refl _ _) (Nat.le_refl _) (by simp) ?_; (case hd => rfl); (case hg => rfl); (case hr => first | (go_simp; done) | (go_simp; rfl)); (case hp => exact (Reps.one (show Kd.M (Kd.int .i64) _ _ _ (rd y219 (ji7)) [.int .i64 (rd y219 (ji7))] from rfl) (Reps.none _ _))); intro v225 w17 ho18 hb hg_ hnew_; clear hg_ hnew_; (first | rw [← Ny224.out] at ho18 | (simp only [Int.reduceToNat] at ho18; rw [← Ny224.out] at ho18)); have n0_ := Aside0.mk (Kd.R_elder' (by (with_reducible repeat (first | apply Kd.R_alloc | apply Kd.R_drewN | apply Kd.R_drew)); (first | exact HO221.out | exact Kd.R_mono HO221.out (fun _ hk => ⟨trivial, hk⟩) | exact Kd.R_mono HO221.out (fun _ hk => hk.2) | exact Kd.R_mono HO221.out (fun _ hk => ⟨trivial, hk.2⟩))) (Kd.R_base ho18) hb); have n1_ := Aside0.mk (Kd.R_lower (Kd.R_new' ho18 (Kd.R_lt (by (with_reducible repeat (first | apply Kd.R_alloc | apply Kd.R_drewN | apply Kd.R_drew)); (first | exact HO221.out | exact Kd.R_mono HO221.out (fun _ hk => ⟨trivial, hk⟩) | exact Kd.R_mono HO221.out (fun _ hk => hk.2) | exact Kd.R_mono HO221.out (fun _ hk => ⟨trivial, hk.2⟩))))) (below_size (by repeat (first | (with_reducible first | exact HB.out | apply below_alloc | apply pw_below_drewN | apply below_drew1) | exact HB.out)))); have n2_ := Aside0.mk (below_step (by repeat (first | (with_reducible first | exact HB.out | apply below_alloc | apply pw_below_drewN | apply below_drew1) | exact HB.out)) hb); clear HO221; clear HB; have HO221 := n0_; have HO226 := n1_; have HB := n2_; clear n0_ n1_ n2_; clear hb ho18))
            repeat (go_quiet (first | (go_at_call 9; (with_reducible refine (colophonlaw11_works.calls k  true _ A5.out).mono ?_); rintro e w13 ⟨rfl, hb⟩; have n0_ := Aside0.mk (below_step (by repeat (first | (with_reducible first | exact HB.out | apply below_alloc | apply pw_below_drewN | apply below_drew1) | exact HB.out)) hb); clear HB; have HB := n0_; clear n0_; (try clear hb); (try clear hb2); (try clear hk); (try clear hi)) | ((with_reducible refine gate_dst (N := 22) rfl ?_); (try (refine gate_guard (by rfl) ?_; dsimp only)); refine Kd.R_lit (Kd.int .i64) _ 3 ?hg (N := 22) ?hd (xs := ([1, 2, 4, 7] : List Int)) (inner := [.int .i64 1, .int .i64 2, .int .i64 4, .int .i64 7]) (ok := fun _ => True) (okp := fun _ => True) ?hr ?hp (fun _ hk => hk) trivial (Below.refl _ _) (Nat.le_refl _) (by simp) ?_; (case hd => rfl); (case hg => rfl); (case hr => first | (go_simp; done) | (go_simp; rfl)); (case hp => exact (Reps.one (show Kd.M (Kd.int .i64) _ _ _ 1 [.int .i64 1] from rfl) (Reps.one (show Kd.M (Kd.int .i64) _ _ _ 2 [.int .i64 2] from rfl) (Reps.one (show Kd.M (Kd.int .i64) _ _ _ 4 [.int .i64 4] from rfl) (Reps.one (show Kd.M (Kd.int .i64) _ _ _ 7 [.int .i64 7] from rfl) (Reps.none _ _)))))); intro v220 w14 ho15 hb hg_ hnew_; clear hg_ hnew_; (first | rw [← Ny219.out] at ho15 | (simp only [Int.reduceToNat] at ho15; rw [← Ny219.out] at ho15)); have n0_ := Aside0.mk (Kd.R_lower ho15 (below_size (by repeat (first | (with_reducible first | exact HB.out | apply below_alloc | apply pw_below_drewN | apply below_drew1) | exact HB.out)))); have n1_ := Aside0.mk (below_step (by repeat (first | (with_reducible first | exact HB.out | apply below_alloc | apply pw_below_drewN | apply below_drew1) | exact HB.out)) hb); clear HB; have HO221 := n0_; have HB := n1_; clear n0_ n1_; clear hb ho15; obtain ⟨Ao16, co16, eo16⟩ := Kd.R_slice HO221.out; subst eo16; have p222 : 0 ≤ ((ji7) : Int) := of_decide_eq_true (by first | (with_reducible assumption) | assumption); have q222 : (ji7) < (y219.length : Int) := of_decide_eq_true (by first | (with_reducible assumption) | assumption); obtain ⟨ad222, e222, hx222_0⟩ := Kd.at_int (Kd.R_reads' HO221.out).2.2 (ji7) p222 q222; cases e222; replace p222 := eq_true p222; replace q222 := eq_true q222; have p223 : 0 ≤ ((ji10) : Int) := of_decide_eq_true (by first | (with_reducible assumption) | assumption); have q223 : (ji10) < (y219.length : Int) := of_decide_eq_true (by first | (with_reducible assumption) | assumption); obtain ⟨ad223, e223, hx223_0⟩ := Kd.at_int (Kd.R_reads' HO221.out).2.2 (ji10) p223 q223; obtain rfl : ad222 = ad223 := (by injection e223); replace p223 := eq_true p223; replace q223 := eq_true q223) | ((with_reducible refine gate_dst (N := 46) rfl ?_); (try (refine gate_guard (by rfl) ?_; dsimp only)); refine Kd.R_lit (Kd.int .i64) _ 3 ?hg (N := 46) ?hd (xs := ([rd y219 (ji7)] : List Int)) (inner := [.int .i64 (rd y219 (ji7))]) (ok := fun _ => True) (okp := fun _ => True) ?hr ?hp (fun _ hk => hk) trivial (Below.refl _ _) (Nat.le_refl _) (by simp) ?_; (case hd => rfl); (case hg => rfl); (case hr => first | (go_simp; done) | (go_simp; rfl)); (case hp => exact (Reps.one (show Kd.M (Kd.int .i64) _ _ _ (rd y219 (ji7)) [.int .i64 (rd y219 (ji7))] from rfl) (Reps.none _ _))); intro v225 w17 ho18 hb hg_ hnew_; clear hg_ hnew_; (first | rw [← Ny224.out] at ho18 | (simp only [Int.reduceToNat] at ho18; rw [← Ny224.out] at ho18)); have n0_ := Aside0.mk (Kd.R_elder' (by (with_reducible repeat (first | apply Kd.R_alloc | apply Kd.R_drewN | apply Kd.R_drew)); (first | exact HO221.out | exact Kd.R_mono HO221.out (fun _ hk => ⟨trivial, hk⟩) | exact Kd.R_mono HO221.out (fun _ hk => hk.2) | exact Kd.R_mono HO221.out (fun _ hk => ⟨trivial, hk.2⟩))) (Kd.R_base ho18) hb); have n1_ := Aside0.mk (Kd.R_lower (Kd.R_new' ho18 (Kd.R_lt (by (with_reducible repeat (first | apply Kd.R_alloc | apply Kd.R_drewN | apply Kd.R_drew)); (first | exact HO221.out | exact Kd.R_mono HO221.out (fun _ hk => ⟨trivial, hk⟩) | exact Kd.R_mono HO221.out (fun _ hk => hk.2) | exact Kd.R_mono HO221.out (fun _ hk => ⟨trivial, hk.2⟩))))) (below_size (by repeat (first | (with_reducible first | exact HB.out | apply below_alloc | apply pw_below_drewN | apply below_drew1) | exact HB.out)))); have n2_ := Aside0.mk (below_step (by repeat (first | (with_reducible first | exact HB.out | apply below_alloc | apply pw_below_drewN | apply below_drew1) | exact HB.out)) hb); clear HO221; clear HB; have HO221 := n0_; have HO226 := n1_; have HB := n2_; clear n0_ n1_ n2_; clear hb ho18)); try go_wp2_with (first | (go_at_call 9; (with_reducible refine (colophonlaw11_works.calls k  true _ A5.out).mono ?_); rintro e w13 ⟨rfl, hb⟩; have n0_ := Aside0.mk (below_step (by repeat (first | (with_reducible first | exact HB.out | apply below_alloc | apply pw_below_drewN | apply below_drew1) | exact HB.out)) hb); clear HB; have HB := n0_; clear n0_; (try clear hb); (try clear hb2); (try clear hk); (try clear hi)) | ((with_reducible refine gate_dst (N := 22) rfl ?_); (try (refine gate_guard (by rfl) ?_; dsimp only)); refine Kd.R_lit (Kd.int .i64) _ 3 ?hg (N := 22) ?hd (xs := ([1, 2, 4, 7] : List Int)) (inner := [.int .i64 1, .int .i64 2, .int .i64 4, .int .i64 7]) (ok := fun _ => True) (okp := fun _ => True) ?hr ?hp (fun _ hk => hk) trivial (Below.refl _ _) (Nat.le_refl _) (by simp) ?_; (case hd => rfl); (case hg => rfl); (case hr => first | (go_simp; done) | (go_simp; rfl)); (case hp => exact (Reps.one (show Kd.M (Kd.int .i64) _ _ _ 1 [.int .i64 1] from rfl) (Reps.one (show Kd.M (Kd.int .i64) _ _ _ 2 [.int .i64 2] from rfl) (Reps.one (show Kd.M (Kd.int .i64) _ _ _ 4 [.int .i64 4] from rfl) (Reps.one (show Kd.M (Kd.int .i64) _ _ _ 7 [.int .i64 7] from rfl) (Reps.none _ _)))))); intro v220 w14 ho15 hb hg_ hnew_; clear hg_ hnew_; (first | rw [← Ny219.out] at ho15 | (simp only [Int.reduceToNat] at ho15; rw [← Ny219.out] at ho15)); have n0_ := Aside0.mk (Kd.R_lower ho15 (below_size (by repeat (first | (with_reducible first | exact HB.out | apply below_alloc | apply pw_below_drewN | apply below_drew1) | exact HB.out)))); have n1_ := Aside0.mk (below_step (by repeat (first | (with_reducible first | exact HB.out | apply below_alloc | apply pw_below_drewN | apply below_drew1) | exact HB.out)) hb); clear HB; have HO221 := n0_; have HB := n1_; clear n0_ n1_; clear hb ho15; obtain ⟨Ao16, co16, eo16⟩ := Kd.R_slice HO221.out; subst eo16; have p222 : 0 ≤ ((ji7) : Int) := of_decide_eq_true (by first | (with_reducible assumption) | assumption); have q222 : (ji7) < (y219.length : Int) := of_decide_eq_true (by first | (with_reducible assumption) | assumption); obtain ⟨ad222, e222, hx222_0⟩ := Kd.at_int (Kd.R_reads' HO221.out).2.2 (ji7) p222 q222; cases e222; replace p222 := eq_true p222; replace q222 := eq_true q222; have p223 : 0 ≤ ((ji10) : Int) := of_decide_eq_true (by first | (with_reducible assumption) | assumption); have q223 : (ji10) < (y219.length : Int) := of_decide_eq_true (by first | (with_reducible assumption) | assumption); obtain ⟨ad223, e223, hx223_0⟩ := Kd.at_int (Kd.R_reads' HO221.out).2.2 (ji10) p223 q223; obtain rfl : ad222 = ad223 := (by injection e223); replace p223 := eq_true p223; replace q223 := eq_true q223) | ((with_reducible refine gate_dst (N := 46) rfl ?_); (try (refine gate_guard (by rfl) ?_; dsimp only)); refine Kd.R_lit (Kd.int .i64) _ 3 ?hg (N := 46) ?hd (xs := ([rd y219 (ji7)] : List Int)) (inner := [.int .i64 (rd y219 (ji7))]) (ok := fun _ => True) (okp := fun _ => True) ?hr ?hp (fun _ hk => hk) trivial (Below.refl _ _) (Nat.le_refl _) (by simp) ?_; (case hd => rfl); (case hg => rfl); (case hr => first | (go_simp; done) | (go_simp; rfl)); (case hp => exact (Reps.one (show Kd.M (Kd.int .i64) _ _ _ (rd y219 (ji7)) [.int .i64 (rd y219 (ji7))] from rfl) (Reps.none _ _))); intro v225 w17 ho18 hb hg_ hnew_; clear hg_ hnew_; (first | rw [← Ny224.out] at ho18 | (simp only [Int.reduceToNat] at ho18; rw [← Ny224.out] at ho18)); have n0_ := Aside0.mk (Kd.R_elder' (by (with_reducible repeat (first | apply Kd.R_alloc | apply Kd.R_drewN | apply Kd.R_drew)); (first | exact HO221.out | exact Kd.R_mono HO221.out (fun _ hk => ⟨trivial, hk⟩) | exact Kd.R_mono HO221.out (fun _ hk => hk.2) | exact Kd.R_mono HO221.out (fun _ hk => ⟨trivial, hk.2⟩))) (Kd.R_base ho18) hb); have n1_ := Aside0.mk (Kd.R_lower (Kd.R_new' ho18 (Kd.R_lt (by (with_reducible repeat (first | apply Kd.R_alloc | apply Kd.R_drewN | apply Kd.R_drew)); (first | exact HO221.out | exact Kd.R_mono HO221.out (fun _ hk => ⟨trivial, hk⟩) | exact Kd.R_mono HO221.out (fun _ hk => hk.2) | exact Kd.R_mono HO221.out (fun _ hk => ⟨trivial, hk.2⟩))))) (below_size (by repeat (first | (with_reducible first | exact HB.out | apply below_alloc | apply pw_below_drewN | apply below_drew1) | exact HB.out)))); have n2_ := Aside0.mk (below_step (by repeat (first | (with_reducible first | exact HB.out | apply below_alloc | apply pw_below_drewN | apply below_drew1) | exact HB.out)) hb); clear HO221; clear HB; have HO221 := n0_; have HO226 := n1_; have HB := n2_; clear n0_ n1_ n2_; clear hb ho18)))
            go_loopg [12, 13] k (fun kq v12 v13 w' => ∃ (x12_1 : List Int) (x13_1 : Int), v13 = .int .i64 x13_1 ∧ Aside0 (colophonlaw11_NeutralBetween.l0 kq (wrap64 (Int.tmod (IntKind.u64.wrap (a0)) 50)) (wrap64 (Int.tmod (IntKind.u64.wrap (a3)) 127)) (rd y219 (ji7)) (rd y219 (ji10)) x12_1 x13_1 = some r) ∧ Aside0 (kq ≤ k) ∧ Aside0 (Kd.R (Kd.int .i64) 3 w' w.heap.size (fun _ => True) v12 x12_1) ∧ Aside0 (Below w.heap.size w w'))
            case atStart => exact ⟨(y224), (0), (by first | rfl | (simp; done) | (simp [*]; done)), H', ⟨Nat.le_refl _⟩, ⟨by (with_reducible repeat (first | apply Kd.R_alloc | apply Kd.R_drewN | apply Kd.R_drew)); (first | exact Kd.R_mono HO226.out (fun _ hk => trivial) | exact HO226.out | exact Kd.R_mono HO226.out (fun _ hk => ⟨trivial, hk⟩) | exact Kd.R_mono HO226.out (fun _ hk => hk.2) | exact Kd.R_mono HO226.out (fun _ hk => ⟨trivial, hk.2⟩))⟩, ⟨by repeat (first | (with_reducible first | exact HB.out | apply below_alloc | apply pw_below_drewN | apply below_drew1) | exact HB.out)⟩⟩
            case round =>
              clear H'
              try clear c1
              try clear p2
              try clear q2
              try clear hx2
              try clear c6
              try clear p6
              try clear c7
              try clear c8
              try clear c8b0
              try clear c9
              try clear c9b0
              try clear c11
              try clear c11b0
              try clear c12
              try clear c12b0
              try clear hx222_0
              try clear hx223_0
              try clear p222
              try clear p223
              try clear q222
              try clear q223
              obtain ⟨x12_1, x13_1, rfl, HA, HK1, HO_12, HB⟩ := hrel
              cases gk with
              | zero => exact absurd HA.out (by simp [colophonlaw11_NeutralBetween.l0])
              | succ k1 =>
                have H := HA.out
                clear HA
                simp only [colophonlaw11_NeutralBetween.l0] at H
                by_cases c19 : x13_1 < (wrap64 (Int.tmod (IntKind.u64.wrap (a0)) 50))
                · as_aux_lemma =>
                  rw [if_pos c19] at H
                  have c19b0 : decide (x13_1 < (wrap64 (Int.tmod (IntKind.u64.wrap (a0)) 50))) = true := decide_eq_true c19
                  clear c19
                  obtain ⟨y227, hy227⟩ : ∃ y_ : List Int, y_ = (([13, 14, 23, 12] : List Int)) := ⟨_, rfl⟩
                  replace H : (if 0 ≤ (Int.tmod x13_1 4) then (if (Int.tmod x13_1 4) < (y227.length : Int) then (if x12_1.length < 17592186044416 then (colophonlaw11_NeutralBetween.l0 k1 (wrap64 (Int.tmod (IntKind.u64.wrap (a0)) 50)) (wrap64 (Int.tmod (IntKind.u64.wrap (a3)) 127)) (rd y219 (ji7)) (rd y219 (ji10)) (x12_1 ++ [rd y227 (Int.tmod x13_1 4)]) (wrap64 (x13_1 + 1))) else (none)) else (none)) else (none)) = some r := by first | (rw [hy227]; with_reducible exact H) | (have H2_ := (Option.bind_some _ _).symm.trans H; rw [hy227]; with_reducible exact H2_) | (have H2_ := (Option.bind_some _ _).symm.trans H; with_reducible exact H2_) | with_reducible exact H | (rw [hy227]; exact H) | exact H
                  have Ny227 := Aside0.mk hy227
                  clear hy227
                  obtain ⟨ji20, hji20⟩ : ∃ j_ : Int, (Int.tmod x13_1 4) = j_ := ⟨_, rfl⟩
                  replace H : (if 0 ≤ (ji20) then (if (ji20) < (y227.length : Int) then (if x12_1.length < 17592186044416 then (colophonlaw11_NeutralBetween.l0 k1 (wrap64 (Int.tmod (IntKind.u64.wrap (a0)) 50)) (wrap64 (Int.tmod (IntKind.u64.wrap (a3)) 127)) (rd y219 (ji7)) (rd y219 (ji10)) (x12_1 ++ [rd y227 (ji20)]) (wrap64 (x13_1 + 1))) else (none)) else (none)) else (none)) = some r := by first | (rw [hji20] at H; exact H) | (simp only [hji20] at H ⊢; exact H)
                  by_cases c21 : 0 ≤ (ji20)
                  · as_aux_lemma =>
                    rw [if_pos c21] at H
                    have c21b0 : decide (0 ≤ (ji20)) = true := decide_eq_true c21
                    clear c21
                    by_cases c22 : (ji20) < (y227.length : Int)
                    · as_aux_lemma =>
                      rw [if_pos c22] at H
                      have c22b0 : decide ((ji20) < (y227.length : Int)) = true := decide_eq_true c22
                      clear c22
                      by_cases c23 : x12_1.length < 17592186044416
                      · as_aux_lemma =>
                        rw [if_pos c23] at H
                        have LMc23 := Aside0.mk c23
                        clear c23
                        obtain ⟨y231, hy231⟩ : ∃ y_ : List Int, y_ = (x12_1 ++ [rd y227 (ji20)]) := ⟨_, rfl⟩
                        replace H : (colophonlaw11_NeutralBetween.l0 k1 (wrap64 (Int.tmod (IntKind.u64.wrap (a0)) 50)) (wrap64 (Int.tmod (IntKind.u64.wrap (a3)) 127)) (rd y219 (ji7)) (rd y219 (ji10)) y231 (wrap64 (x13_1 + 1))) = some r := by first | (rw [hy231]; with_reducible exact H) | (have H2_ := (Option.bind_some _ _).symm.trans H; rw [hy231]; with_reducible exact H2_) | (have H2_ := (Option.bind_some _ _).symm.trans H; with_reducible exact H2_) | with_reducible exact H | (rw [hy231]; exact H) | exact H
                        have Ny231 := Aside0.mk hy231
                        clear hy231
                        have H' := Aside0.mk H
                        clear H
                        go_wp2_with (first | ((with_reducible refine gate_dst (N := 53) rfl ?_); (try (refine gate_guard (by rfl) ?_; dsimp only)); refine Kd.R_lit (Kd.int .i64) _ 3 ?hg (N := 53) ?hd (xs := ([13, 14, 23, 12] : List Int)) (inner := [.int .i64 13, .int .i64 14, .int .i64 23, .int .i64 12]) (ok := fun _ => True) (okp := fun _ => True) ?hr ?hp (fun _ hk => hk) trivial (Below.refl _ _) (Nat.le_refl _) (by simp) ?_; (case hd => rfl); (case hg => rfl); (case hr => first | (go_simp; done) | (go_simp; rfl)); (case hp => exact (Reps.one (show Kd.M (Kd.int .i64) _ _ _ 13 [.int .i64 13] from rfl) (Reps.one (show Kd.M (Kd.int .i64) _ _ _ 14 [.int .i64 14] from rfl) (Reps.one (show Kd.M (Kd.int .i64) _ _ _ 23 [.int .i64 23] from rfl) (Reps.one (show Kd.M (Kd.int .i64) _ _ _ 12 [.int .i64 12] from rfl) (Reps.none _ _)))))); intro v228 w24 ho25 hb hg_ hnew_; clear hg_ hnew_; (first | rw [← Ny227.out] at ho25 | (simp only [Int.reduceToNat] at ho25; rw [← Ny227.out] at ho25)); have n0_ := Aside0.mk (Kd.R_elder' (by (with_reducible repeat (first | apply Kd.R_alloc | apply Kd.R_drewN | apply Kd.R_drew)); (first | exact HO_12.out | exact Kd.R_mono HO_12.out (fun _ hk => ⟨trivial, hk⟩) | exact Kd.R_mono HO_12.out (fun _ hk => hk.2) | exact Kd.R_mono HO_12.out (fun _ hk => ⟨trivial, hk.2⟩))) (Kd.R_base ho25) hb); have n1_ := Aside0.mk (Kd.R_lower (Kd.R_new' ho25 (Kd.R_lt (by (with_reducible repeat (first | apply Kd.R_alloc | apply Kd.R_drewN | apply Kd.R_drew)); (first | exact HO_12.out | exact Kd.R_mono HO_12.out (fun _ hk => ⟨trivial, hk⟩) | exact Kd.R_mono HO_12.out (fun _ hk => hk.2) | exact Kd.R_mono HO_12.out (fun _ hk => ⟨trivial, hk.2⟩))))) (below_size (by repeat (first | (with_reducible first | exact HB.out | apply below_alloc | apply pw_below_drewN | apply below_drew1) | exact HB.out)))); have n2_ := Aside0.mk (below_step (by repeat (first | (with_reducible first | exact HB.out | apply below_alloc | apply pw_below_drewN | apply below_drew1) | exact HB.out)) hb); clear HO_12; clear HB; have HO_12 := n0_; have HO229 := n1_; have HB := n2_; clear n0_ n1_ n2_; clear hb ho25; obtain ⟨Ao26, co26, eo26⟩ := Kd.R_slice HO229.out; subst eo26; have p230 : 0 ≤ ((ji20) : Int) := of_decide_eq_true (by first | (with_reducible assumption) | assumption); have q230 : (ji20) < (y227.length : Int) := of_decide_eq_true (by first | (with_reducible assumption) | assumption); obtain ⟨ad230, e230, hx230_0⟩ := Kd.at_int (Kd.R_reads' HO229.out).2.2 (ji20) p230 q230; cases e230; replace p230 := eq_true p230; replace q230 := eq_true q230) | ((with_reducible refine gate_builtin (b := .append) (xs := #[.tmp 52, .tmp 58]) rfl ?_); (try (refine gate_guard (by rfl) ?_; dsimp only)); at_builtin; refine Kd.R_append (Kd.int .i64) (w0 := w) w.heap.size rfl (.tmp 52) (.tmp 58) 22 3 (.int .i64 0) 8 rfl Try.underlying22 info3 rfl (by decide) (by omega) u12 x12_1 (rd y227 (ji20)) [.int .i64 (rd y227 (ji20))] (fun k_ => some k_ ≠ (.slice (some ad230) y227.length co26 : Value).ownBlock) (fun _ => False) rfl rfl ?aP (fun _ hk => hk.elim) ?aF ?aO ?aB ?aS ?aL ?_; (case aP => exact rfl); (case aB => exact (by repeat (first | (with_reducible first | exact HB.out | apply below_alloc | apply pw_below_drewN | apply below_drew1) | exact HB.out))); (case aF => exact (fun k_ hk => Kd.fresh' (Kd.R_lt (by (with_reducible repeat (first | apply Kd.R_alloc | apply Kd.R_drewN | apply Kd.R_drew)); (first | exact HO229.out | exact Kd.R_mono HO229.out (fun _ hk => ⟨trivial, hk⟩) | exact Kd.R_mono HO229.out (fun _ hk => hk.2) | exact Kd.R_mono HO229.out (fun _ hk => ⟨trivial, hk.2⟩)))) k_ hk)); (case aO => exact (by (with_reducible repeat (first | apply Kd.R_alloc | apply Kd.R_drewN | apply Kd.R_drew)); (first | exact Kd.R_mono HO_12.out (fun _ hk => hk.2) | exact HO_12.out | exact Kd.R_mono HO_12.out (fun _ hk => ⟨trivial, hk⟩) | exact Kd.R_mono HO_12.out (fun _ hk => ⟨trivial, hk.2⟩)))); (case aS => exact (below_size (by repeat (first | (with_reducible first | exact HB.out | apply below_alloc | apply pw_below_drewN | apply below_drew1) | exact HB.out)))); (case aL => have := LMc23.out; omega); intro v232 w27 ho hb hg hat; rw [← Ny231.out] at ho; have n0_ := Aside0.mk (Kd.R_after (ok := (fun _ => True)) (by (with_reducible repeat (first | apply Kd.R_alloc | apply Kd.R_drewN | apply Kd.R_drew)); (first | exact HO229.out | exact Kd.R_mono HO229.out (fun _ hk => ⟨trivial, hk⟩) | exact Kd.R_mono HO229.out (fun _ hk => hk.2) | exact Kd.R_mono HO229.out (fun _ hk => ⟨trivial, hk.2⟩))) hg hat); have n1_ := Aside0.mk (hb); have n2_ := Aside0.mk (ho); clear HO229; clear HB; clear HO_12; have HO229 := n0_; have HB := n1_; have HO233 := n2_; clear n0_ n1_ n2_; clear ho hb hg hat))
                        repeat (go_quiet (first | ((with_reducible refine gate_dst (N := 53) rfl ?_); (try (refine gate_guard (by rfl) ?_; dsimp only)); refine Kd.R_lit (Kd.int .i64) _ 3 ?hg (N := 53) ?hd (xs := ([13, 14, 23, 12] : List Int)) (inner := [.int .i64 13, .int .i64 14, .int .i64 23, .int .i64 12]) (ok := fun _ => True) (okp := fun _ => True) ?hr ?hp (fun _ hk => hk) trivial (Below.refl _ _) (Nat.le_refl _) (by simp) ?_; (case hd => rfl); (case hg => rfl); (case hr => first | (go_simp; done) | (go_simp; rfl)); (case hp => exact (Reps.one (show Kd.M (Kd.int .i64) _ _ _ 13 [.int .i64 13] from rfl) (Reps.one (show Kd.M (Kd.int .i64) _ _ _ 14 [.int .i64 14] from rfl) (Reps.one (show Kd.M (Kd.int .i64) _ _ _ 23 [.int .i64 23] from rfl) (Reps.one (show Kd.M (Kd.int .i64) _ _ _ 12 [.int .i64 12] from rfl) (Reps.none _ _)))))); intro v228 w24 ho25 hb hg_ hnew_; clear hg_ hnew_; (first | rw [← Ny227.out] at ho25 | (simp only [Int.reduceToNat] at ho25; rw [← Ny227.out] at ho25)); have n0_ := Aside0.mk (Kd.R_elder' (by (with_reducible repeat (first | apply Kd.R_alloc | apply Kd.R_drewN | apply Kd.R_drew)); (first | exact HO_12.out | exact Kd.R_mono HO_12.out (fun _ hk => ⟨trivial, hk⟩) | exact Kd.R_mono HO_12.out (fun _ hk => hk.2) | exact Kd.R_mono HO_12.out (fun _ hk => ⟨trivial, hk.2⟩))) (Kd.R_base ho25) hb); have n1_ := Aside0.mk (Kd.R_lower (Kd.R_new' ho25 (Kd.R_lt (by (with_reducible repeat (first | apply Kd.R_alloc | apply Kd.R_drewN | apply Kd.R_drew)); (first | exact HO_12.out | exact Kd.R_mono HO_12.out (fun _ hk => ⟨trivial, hk⟩) | exact Kd.R_mono HO_12.out (fun _ hk => hk.2) | exact Kd.R_mono HO_12.out (fun _ hk => ⟨trivial, hk.2⟩))))) (below_size (by repeat (first | (with_reducible first | exact HB.out | apply below_alloc | apply pw_below_drewN | apply below_drew1) | exact HB.out)))); have n2_ := Aside0.mk (below_step (by repeat (first | (with_reducible first | exact HB.out | apply below_alloc | apply pw_below_drewN | apply below_drew1) | exact HB.out)) hb); clear HO_12; clear HB; have HO_12 := n0_; have HO229 := n1_; have HB := n2_; clear n0_ n1_ n2_; clear hb ho25; obtain ⟨Ao26, co26, eo26⟩ := Kd.R_slice HO229.out; subst eo26; have p230 : 0 ≤ ((ji20) : Int) := of_decide_eq_true (by first | (with_reducible assumption) | assumption); have q230 : (ji20) < (y227.length : Int) := of_decide_eq_true (by first | (with_reducible assumption) | assumption); obtain ⟨ad230, e230, hx230_0⟩ := Kd.at_int (Kd.R_reads' HO229.out).2.2 (ji20) p230 q230; cases e230; replace p230 := eq_true p230; replace q230 := eq_true q230) | ((with_reducible refine gate_builtin (b := .append) (xs := #[.tmp 52, .tmp 58]) rfl ?_); (try (refine gate_guard (by rfl) ?_; dsimp only)); at_builtin; refine Kd.R_append (Kd.int .i64) (w0 := w) w.heap.size rfl (.tmp 52) (.tmp 58) 22 3 (.int .i64 0) 8 rfl Try.underlying22 info3 rfl (by decide) (by omega) u12 x12_1 (rd y227 (ji20)) [.int .i64 (rd y227 (ji20))] (fun k_ => some k_ ≠ (.slice (some ad230) y227.length co26 : Value).ownBlock) (fun _ => False) rfl rfl ?aP (fun _ hk => hk.elim) ?aF ?aO ?aB ?aS ?aL ?_; (case aP => exact rfl); (case aB => exact (by repeat (first | (with_reducible first | exact HB.out | apply below_alloc | apply pw_below_drewN | apply below_drew1) | exact HB.out))); (case aF => exact (fun k_ hk => Kd.fresh' (Kd.R_lt (by (with_reducible repeat (first | apply Kd.R_alloc | apply Kd.R_drewN | apply Kd.R_drew)); (first | exact HO229.out | exact Kd.R_mono HO229.out (fun _ hk => ⟨trivial, hk⟩) | exact Kd.R_mono HO229.out (fun _ hk => hk.2) | exact Kd.R_mono HO229.out (fun _ hk => ⟨trivial, hk.2⟩)))) k_ hk)); (case aO => exact (by (with_reducible repeat (first | apply Kd.R_alloc | apply Kd.R_drewN | apply Kd.R_drew)); (first | exact Kd.R_mono HO_12.out (fun _ hk => hk.2) | exact HO_12.out | exact Kd.R_mono HO_12.out (fun _ hk => ⟨trivial, hk⟩) | exact Kd.R_mono HO_12.out (fun _ hk => ⟨trivial, hk.2⟩)))); (case aS => exact (below_size (by repeat (first | (with_reducible first | exact HB.out | apply below_alloc | apply pw_below_drewN | apply below_drew1) | exact HB.out)))); (case aL => have := LMc23.out; omega); intro v232 w27 ho hb hg hat; rw [← Ny231.out] at ho; have n0_ := Aside0.mk (Kd.R_after (ok := (fun _ => True)) (by (with_reducible repeat (first | apply Kd.R_alloc | apply Kd.R_drewN | apply Kd.R_drew)); (first | exact HO229.out | exact Kd.R_mono HO229.out (fun _ hk => ⟨trivial, hk⟩) | exact Kd.R_mono HO229.out (fun _ hk => hk.2) | exact Kd.R_mono HO229.out (fun _ hk => ⟨trivial, hk.2⟩))) hg hat); have n1_ := Aside0.mk (hb); have n2_ := Aside0.mk (ho); clear HO229; clear HB; clear HO_12; have HO229 := n0_; have HB := n1_; have HO233 := n2_; clear n0_ n1_ n2_; clear ho hb hg hat)); try go_wp2_with (first | ((with_reducible refine gate_dst (N := 53) rfl ?_); (try (refine gate_guard (by rfl) ?_; dsimp only)); refine Kd.R_lit (Kd.int .i64) _ 3 ?hg (N := 53) ?hd (xs := ([13, 14, 23, 12] : List Int)) (inner := [.int .i64 13, .int .i64 14, .int .i64 23, .int .i64 12]) (ok := fun _ => True) (okp := fun _ => True) ?hr ?hp (fun _ hk => hk) trivial (Below.refl _ _) (Nat.le_refl _) (by simp) ?_; (case hd => rfl); (case hg => rfl); (case hr => first | (go_simp; done) | (go_simp; rfl)); (case hp => exact (Reps.one (show Kd.M (Kd.int .i64) _ _ _ 13 [.int .i64 13] from rfl) (Reps.one (show Kd.M (Kd.int .i64) _ _ _ 14 [.int .i64 14] from rfl) (Reps.one (show Kd.M (Kd.int .i64) _ _ _ 23 [.int .i64 23] from rfl) (Reps.one (show Kd.M (Kd.int .i64) _ _ _ 12 [.int .i64 12] from rfl) (Reps.none _ _)))))); intro v228 w24 ho25 hb hg_ hnew_; clear hg_ hnew_; (first | rw [← Ny227.out] at ho25 | (simp only [Int.reduceToNat] at ho25; rw [← Ny227.out] at ho25)); have n0_ := Aside0.mk (Kd.R_elder' (by (with_reducible repeat (first | apply Kd.R_alloc | apply Kd.R_drewN | apply Kd.R_drew)); (first | exact HO_12.out | exact Kd.R_mono HO_12.out (fun _ hk => ⟨trivial, hk⟩) | exact Kd.R_mono HO_12.out (fun _ hk => hk.2) | exact Kd.R_mono HO_12.out (fun _ hk => ⟨trivial, hk.2⟩))) (Kd.R_base ho25) hb); have n1_ := Aside0.mk (Kd.R_lower (Kd.R_new' ho25 (Kd.R_lt (by (with_reducible repeat (first | apply Kd.R_alloc | apply Kd.R_drewN | apply Kd.R_drew)); (first | exact HO_12.out | exact Kd.R_mono HO_12.out (fun _ hk => ⟨trivial, hk⟩) | exact Kd.R_mono HO_12.out (fun _ hk => hk.2) | exact Kd.R_mono HO_12.out (fun _ hk => ⟨trivial, hk.2⟩))))) (below_size (by repeat (first | (with_reducible first | exact HB.out | apply below_alloc | apply pw_below_drewN | apply below_drew1) | exact HB.out)))); have n2_ := Aside0.mk (below_step (by repeat (first | (with_reducible first | exact HB.out | apply below_alloc | apply pw_below_drewN | apply below_drew1) | exact HB.out)) hb); clear HO_12; clear HB; have HO_12 := n0_; have HO229 := n1_; have HB := n2_; clear n0_ n1_ n2_; clear hb ho25; obtain ⟨Ao26, co26, eo26⟩ := Kd.R_slice HO229.out; subst eo26; have p230 : 0 ≤ ((ji20) : Int) := of_decide_eq_true (by first | (with_reducible assumption) | assumption); have q230 : (ji20) < (y227.length : Int) := of_decide_eq_true (by first | (with_reducible assumption) | assumption); obtain ⟨ad230, e230, hx230_0⟩ := Kd.at_int (Kd.R_reads' HO229.out).2.2 (ji20) p230 q230; cases e230; replace p230 := eq_true p230; replace q230 := eq_true q230) | ((with_reducible refine gate_builtin (b := .append) (xs := #[.tmp 52, .tmp 58]) rfl ?_); (try (refine gate_guard (by rfl) ?_; dsimp only)); at_builtin; refine Kd.R_append (Kd.int .i64) (w0 := w) w.heap.size rfl (.tmp 52) (.tmp 58) 22 3 (.int .i64 0) 8 rfl Try.underlying22 info3 rfl (by decide) (by omega) u12 x12_1 (rd y227 (ji20)) [.int .i64 (rd y227 (ji20))] (fun k_ => some k_ ≠ (.slice (some ad230) y227.length co26 : Value).ownBlock) (fun _ => False) rfl rfl ?aP (fun _ hk => hk.elim) ?aF ?aO ?aB ?aS ?aL ?_; (case aP => exact rfl); (case aB => exact (by repeat (first | (with_reducible first | exact HB.out | apply below_alloc | apply pw_below_drewN | apply below_drew1) | exact HB.out))); (case aF => exact (fun k_ hk => Kd.fresh' (Kd.R_lt (by (with_reducible repeat (first | apply Kd.R_alloc | apply Kd.R_drewN | apply Kd.R_drew)); (first | exact HO229.out | exact Kd.R_mono HO229.out (fun _ hk => ⟨trivial, hk⟩) | exact Kd.R_mono HO229.out (fun _ hk => hk.2) | exact Kd.R_mono HO229.out (fun _ hk => ⟨trivial, hk.2⟩)))) k_ hk)); (case aO => exact (by (with_reducible repeat (first | apply Kd.R_alloc | apply Kd.R_drewN | apply Kd.R_drew)); (first | exact Kd.R_mono HO_12.out (fun _ hk => hk.2) | exact HO_12.out | exact Kd.R_mono HO_12.out (fun _ hk => ⟨trivial, hk⟩) | exact Kd.R_mono HO_12.out (fun _ hk => ⟨trivial, hk.2⟩)))); (case aS => exact (below_size (by repeat (first | (with_reducible first | exact HB.out | apply below_alloc | apply pw_below_drewN | apply below_drew1) | exact HB.out)))); (case aL => have := LMc23.out; omega); intro v232 w27 ho hb hg hat; rw [← Ny231.out] at ho; have n0_ := Aside0.mk (Kd.R_after (ok := (fun _ => True)) (by (with_reducible repeat (first | apply Kd.R_alloc | apply Kd.R_drewN | apply Kd.R_drew)); (first | exact HO229.out | exact Kd.R_mono HO229.out (fun _ hk => ⟨trivial, hk⟩) | exact Kd.R_mono HO229.out (fun _ hk => hk.2) | exact Kd.R_mono HO229.out (fun _ hk => ⟨trivial, hk.2⟩))) hg hat); have n1_ := Aside0.mk (hb); have n2_ := Aside0.mk (ho); clear HO229; clear HB; clear HO_12; have HO229 := n0_; have HB := n1_; have HO233 := n2_; clear n0_ n1_ n2_; clear ho hb hg hat)))
                        go_roundg k1
                        case measure => have := HK1.out; omega
                        case rel => exact ⟨(y231), (wrap64 (x13_1 + 1)), (by first | rfl | (simp; done) | (simp [*]; done)), H', ⟨by have := HK1.out; omega⟩, ⟨by (with_reducible repeat (first | apply Kd.R_alloc | apply Kd.R_drewN | apply Kd.R_drew)); (first | exact Kd.R_mono HO233.out (fun _ hk => trivial) | exact HO233.out | exact Kd.R_mono HO233.out (fun _ hk => ⟨trivial, hk⟩) | exact Kd.R_mono HO233.out (fun _ hk => hk.2) | exact Kd.R_mono HO233.out (fun _ hk => ⟨trivial, hk.2⟩))⟩, ⟨by repeat (first | (with_reducible first | exact HB.out | apply below_alloc | apply pw_below_drewN | apply below_drew1) | exact HB.out)⟩⟩
                      · rw [if_neg c23] at H
                        exact absurd H (by simp)
                    · rw [if_neg c22] at H
                      exact absurd H (by simp)
                  · rw [if_neg c21] at H
                    exact absurd H (by simp)
                · as_aux_lemma =>
                  rw [if_neg c19] at H
                  have c19b0 : decide (x13_1 < (wrap64 (Int.tmod (IntKind.u64.wrap (a0)) 50))) = false := decide_eq_false c19
                  clear c19
                  by_cases c28 : x12_1.length < 17592186044416
                  · as_aux_lemma =>
                    rw [if_pos c28] at H
                    have LMc28 := Aside0.mk c28
                    clear c28
                    obtain ⟨y234, hy234⟩ : ∃ y_ : List Int, y_ = (x12_1 ++ [(rd y219 (ji10))]) := ⟨_, rfl⟩
                    replace H : ((colophonlaw11_side.f (rd y219 (ji7))).bind fun t237 => ((colophonlaw11_side.f (rd y219 (ji10))).bind fun t238 => (if t237 = t238 then ((colophonlaw11_side.f (rd y219 (ji7))).bind fun t239 => (colophonlaw11_NeutralBetween.j1 k1 (wrap64 (Int.tmod (IntKind.u64.wrap (a0)) 50)) (wrap64 (Int.tmod (IntKind.u64.wrap (a3)) 127)) y234 t239)) else (colophonlaw11_NeutralBetween.j1 k1 (wrap64 (Int.tmod (IntKind.u64.wrap (a0)) 50)) (wrap64 (Int.tmod (IntKind.u64.wrap (a3)) 127)) y234 (wrap64 (1 + (Int.tmod (wrap64 (Int.tmod (IntKind.u64.wrap (a3)) 127)) 2))))))) = some r := by first | (rw [hy234]; with_reducible exact H) | (have H2_ := (Option.bind_some _ _).symm.trans H; rw [hy234]; with_reducible exact H2_) | (have H2_ := (Option.bind_some _ _).symm.trans H; with_reducible exact H2_) | with_reducible exact H | (rw [hy234]; exact H) | exact H
                    have Ny234 := Aside0.mk hy234
                    clear hy234
                    replace H := Option.bind_eq_some_iff.mp H
                    obtain ⟨t237, A290, H⟩ := H
                    replace H : ((colophonlaw11_side.f (rd y219 (ji10))).bind fun t238 => (if t237 = t238 then ((colophonlaw11_side.f (rd y219 (ji7))).bind fun t239 => (colophonlaw11_NeutralBetween.j1 k1 (wrap64 (Int.tmod (IntKind.u64.wrap (a0)) 50)) (wrap64 (Int.tmod (IntKind.u64.wrap (a3)) 127)) y234 t239)) else (colophonlaw11_NeutralBetween.j1 k1 (wrap64 (Int.tmod (IntKind.u64.wrap (a0)) 50)) (wrap64 (Int.tmod (IntKind.u64.wrap (a3)) 127)) y234 (wrap64 (1 + (Int.tmod (wrap64 (Int.tmod (IntKind.u64.wrap (a3)) 127)) 2)))))) = some r := H
                    have A29 := Aside0.mk A290
                    clear A290
                    replace H := Option.bind_eq_some_iff.mp H
                    obtain ⟨t238, A300, H⟩ := H
                    replace H : (if t237 = t238 then ((colophonlaw11_side.f (rd y219 (ji7))).bind fun t239 => (colophonlaw11_NeutralBetween.j1 k1 (wrap64 (Int.tmod (IntKind.u64.wrap (a0)) 50)) (wrap64 (Int.tmod (IntKind.u64.wrap (a3)) 127)) y234 t239)) else (colophonlaw11_NeutralBetween.j1 k1 (wrap64 (Int.tmod (IntKind.u64.wrap (a0)) 50)) (wrap64 (Int.tmod (IntKind.u64.wrap (a3)) 127)) y234 (wrap64 (1 + (Int.tmod (wrap64 (Int.tmod (IntKind.u64.wrap (a3)) 127)) 2))))) = some r := H
                    have A30 := Aside0.mk A300
                    clear A300
                    have HC31 := Aside0.mk H
                    clear H
                    go_upto_if 71 with (first | ((with_reducible refine gate_builtin (b := .append) (xs := #[.tmp 60, .tmp 62]) rfl ?_); (try (refine gate_guard (by rfl) ?_; dsimp only)); at_builtin; refine Kd.R_append (Kd.int .i64) (w0 := w) w.heap.size rfl (.tmp 60) (.tmp 62) 22 3 (.int .i64 0) 8 rfl Try.underlying22 info3 rfl (by decide) (by omega) u12 x12_1 (rd y219 (ji10)) [.int .i64 (rd y219 (ji10))] (fun _ => True) (fun _ => False) rfl rfl ?aP (fun _ hk => hk.elim) ?aF ?aO ?aB ?aS ?aL ?_; (case aP => exact rfl); (case aB => exact (by repeat (first | (with_reducible first | exact HB.out | apply below_alloc | apply pw_below_drewN | apply below_drew1) | exact HB.out))); (case aF => exact (fun _ _ => trivial)); (case aO => exact (by (with_reducible repeat (first | apply Kd.R_alloc | apply Kd.R_drewN | apply Kd.R_drew)); (first | exact HO_12.out | exact Kd.R_mono HO_12.out (fun _ hk => ⟨trivial, hk⟩) | exact Kd.R_mono HO_12.out (fun _ hk => hk.2) | exact Kd.R_mono HO_12.out (fun _ hk => ⟨trivial, hk.2⟩)))); (case aS => exact (below_size (by repeat (first | (with_reducible first | exact HB.out | apply below_alloc | apply pw_below_drewN | apply below_drew1) | exact HB.out)))); (case aL => have := LMc28.out; omega); intro v235 w32 ho hb hg hat; rw [← Ny234.out] at ho; have n0_ := Aside0.mk (hb); have n1_ := Aside0.mk (ho); clear HB; clear HO_12; have HB := n0_; have HO236 := n1_; clear n0_ n1_; clear ho hb hg hat) | (go_at_call 15; (with_reducible refine (colophonlaw11_side.calls (rd y219 (ji7)) t237 _ A29.out).mono ?_); rintro e w' ⟨rfl, ⟨nd, rfl⟩⟩; (try first | exact ⟨rfl, _, World.drewN_drewN _ _ _⟩ | exact ⟨rfl, _, Eq.trans (World.drewN_drewN _ _ _) (congrArg (World.drewN _) (Nat.add_assoc _ _ _))⟩)) | (go_at_call 15; (with_reducible refine (colophonlaw11_side.calls (rd y219 (ji10)) t238 _ A30.out).mono ?_); rintro e w' ⟨rfl, ⟨nd, rfl⟩⟩; (try first | exact ⟨rfl, _, World.drewN_drewN _ _ _⟩ | exact ⟨rfl, _, Eq.trans (World.drewN_drewN _ _ _) (congrArg (World.drewN _) (Nat.add_assoc _ _ _))⟩)))
                    repeat (go_quiet (first | ((with_reducible refine gate_builtin (b := .append) (xs := #[.tmp 60, .tmp 62]) rfl ?_); (try (refine gate_guard (by rfl) ?_; dsimp only)); at_builtin; refine Kd.R_append (Kd.int .i64) (w0 := w) w.heap.size rfl (.tmp 60) (.tmp 62) 22 3 (.int .i64 0) 8 rfl Try.underlying22 info3 rfl (by decide) (by omega) u12 x12_1 (rd y219 (ji10)) [.int .i64 (rd y219 (ji10))] (fun _ => True) (fun _ => False) rfl rfl ?aP (fun _ hk => hk.elim) ?aF ?aO ?aB ?aS ?aL ?_; (case aP => exact rfl); (case aB => exact (by repeat (first | (with_reducible first | exact HB.out | apply below_alloc | apply pw_below_drewN | apply below_drew1) | exact HB.out))); (case aF => exact (fun _ _ => trivial)); (case aO => exact (by (with_reducible repeat (first | apply Kd.R_alloc | apply Kd.R_drewN | apply Kd.R_drew)); (first | exact HO_12.out | exact Kd.R_mono HO_12.out (fun _ hk => ⟨trivial, hk⟩) | exact Kd.R_mono HO_12.out (fun _ hk => hk.2) | exact Kd.R_mono HO_12.out (fun _ hk => ⟨trivial, hk.2⟩)))); (case aS => exact (below_size (by repeat (first | (with_reducible first | exact HB.out | apply below_alloc | apply pw_below_drewN | apply below_drew1) | exact HB.out)))); (case aL => have := LMc28.out; omega); intro v235 w32 ho hb hg hat; rw [← Ny234.out] at ho; have n0_ := Aside0.mk (hb); have n1_ := Aside0.mk (ho); clear HB; clear HO_12; have HB := n0_; have HO236 := n1_; clear n0_ n1_; clear ho hb hg hat) | (go_at_call 15; (with_reducible refine (colophonlaw11_side.calls (rd y219 (ji7)) t237 _ A29.out).mono ?_); rintro e w' ⟨rfl, ⟨nd, rfl⟩⟩; (try first | exact ⟨rfl, _, World.drewN_drewN _ _ _⟩ | exact ⟨rfl, _, Eq.trans (World.drewN_drewN _ _ _) (congrArg (World.drewN _) (Nat.add_assoc _ _ _))⟩)) | (go_at_call 15; (with_reducible refine (colophonlaw11_side.calls (rd y219 (ji10)) t238 _ A30.out).mono ?_); rintro e w' ⟨rfl, ⟨nd, rfl⟩⟩; (try first | exact ⟨rfl, _, World.drewN_drewN _ _ _⟩ | exact ⟨rfl, _, Eq.trans (World.drewN_drewN _ _ _) (congrArg (World.drewN _) (Nat.add_assoc _ _ _))⟩))); go_upto_if 71 with (first | ((with_reducible refine gate_builtin (b := .append) (xs := #[.tmp 60, .tmp 62]) rfl ?_); (try (refine gate_guard (by rfl) ?_; dsimp only)); at_builtin; refine Kd.R_append (Kd.int .i64) (w0 := w) w.heap.size rfl (.tmp 60) (.tmp 62) 22 3 (.int .i64 0) 8 rfl Try.underlying22 info3 rfl (by decide) (by omega) u12 x12_1 (rd y219 (ji10)) [.int .i64 (rd y219 (ji10))] (fun _ => True) (fun _ => False) rfl rfl ?aP (fun _ hk => hk.elim) ?aF ?aO ?aB ?aS ?aL ?_; (case aP => exact rfl); (case aB => exact (by repeat (first | (with_reducible first | exact HB.out | apply below_alloc | apply pw_below_drewN | apply below_drew1) | exact HB.out))); (case aF => exact (fun _ _ => trivial)); (case aO => exact (by (with_reducible repeat (first | apply Kd.R_alloc | apply Kd.R_drewN | apply Kd.R_drew)); (first | exact HO_12.out | exact Kd.R_mono HO_12.out (fun _ hk => ⟨trivial, hk⟩) | exact Kd.R_mono HO_12.out (fun _ hk => hk.2) | exact Kd.R_mono HO_12.out (fun _ hk => ⟨trivial, hk.2⟩)))); (case aS => exact (below_size (by repeat (first | (with_reducible first | exact HB.out | apply below_alloc | apply pw_below_drewN | apply below_drew1) | exact HB.out)))); (case aL => have := LMc28.out; omega); intro v235 w32 ho hb hg hat; rw [← Ny234.out] at ho; have n0_ := Aside0.mk (hb); have n1_ := Aside0.mk (ho); clear HB; clear HO_12; have HB := n0_; have HO236 := n1_; clear n0_ n1_; clear ho hb hg hat) | (go_at_call 15; (with_reducible refine (colophonlaw11_side.calls (rd y219 (ji7)) t237 _ A29.out).mono ?_); rintro e w' ⟨rfl, ⟨nd, rfl⟩⟩; (try first | exact ⟨rfl, _, World.drewN_drewN _ _ _⟩ | exact ⟨rfl, _, Eq.trans (World.drewN_drewN _ _ _) (congrArg (World.drewN _) (Nat.add_assoc _ _ _))⟩)) | (go_at_call 15; (with_reducible refine (colophonlaw11_side.calls (rd y219 (ji10)) t238 _ A30.out).mono ?_); rintro e w' ⟨rfl, ⟨nd, rfl⟩⟩; (try first | exact ⟨rfl, _, World.drewN_drewN _ _ _⟩ | exact ⟨rfl, _, Eq.trans (World.drewN_drewN _ _ _) (congrArg (World.drewN _) (Nat.add_assoc _ _ _))⟩))))
                    (try simp only [Act.put, List.setIfInBounds_toArray, List.set_cons_zero, List.set_cons_succ])
                    go_cut [14] (fun v14 wc => ∃ (kq : Nat) (x14_30 : Int), v14 = .int .i64 x14_30 ∧ Aside0 (colophonlaw11_NeutralBetween.j1 kq (wrap64 (Int.tmod (IntKind.u64.wrap (a0)) 50)) (wrap64 (Int.tmod (IntKind.u64.wrap (a3)) 127)) y234 x14_30 = some r) ∧ Aside0 (kq ≤ k1) ∧ Aside0 (Kd.R (Kd.int .i64) 3 wc w.heap.size (fun _ => True) v235 y234) ∧ Aside0 (Below w.heap.size w wc))
                    case first =>
                      have H := HC31.out
                      clear HC31
                      by_cases c33 : t237 = t238
                      · rw [if_pos c33] at H
                        have c33b0 : (t237 == t238) = true := beq_iff_eq.mpr c33
                        have c33b1 : (t237 != t238) = false := bne_eq_false_iff_eq.mpr c33
                        clear c33
                        (first | rw [c33b0] | (simp only [i64_w, i32_w]; rw [c33b0]) | skip)
                        replace H := Option.bind_eq_some_iff.mp H
                        obtain ⟨t239, A340, H⟩ := H
                        replace H : (colophonlaw11_NeutralBetween.j1 k1 (wrap64 (Int.tmod (IntKind.u64.wrap (a0)) 50)) (wrap64 (Int.tmod (IntKind.u64.wrap (a3)) 127)) y234 t239) = some r := H
                        have A34 := Aside0.mk A340
                        clear A340
                        have H' := Aside0.mk H
                        clear H
                        go_wp2_with (first | (go_at_call 15; (with_reducible refine (colophonlaw11_side.calls (rd y219 (ji7)) t239 _ A34.out).mono ?_); rintro e w' ⟨rfl, ⟨nd, rfl⟩⟩; (try first | exact ⟨rfl, _, World.drewN_drewN _ _ _⟩ | exact ⟨rfl, _, Eq.trans (World.drewN_drewN _ _ _) (congrArg (World.drewN _) (Nat.add_assoc _ _ _))⟩)))
                        repeat (go_quiet (first | (go_at_call 15; (with_reducible refine (colophonlaw11_side.calls (rd y219 (ji7)) t239 _ A34.out).mono ?_); rintro e w' ⟨rfl, ⟨nd, rfl⟩⟩; (try first | exact ⟨rfl, _, World.drewN_drewN _ _ _⟩ | exact ⟨rfl, _, Eq.trans (World.drewN_drewN _ _ _) (congrArg (World.drewN _) (Nat.add_assoc _ _ _))⟩))); try go_wp2_with (first | (go_at_call 15; (with_reducible refine (colophonlaw11_side.calls (rd y219 (ji7)) t239 _ A34.out).mono ?_); rintro e w' ⟨rfl, ⟨nd, rfl⟩⟩; (try first | exact ⟨rfl, _, World.drewN_drewN _ _ _⟩ | exact ⟨rfl, _, Eq.trans (World.drewN_drewN _ _ _) (congrArg (World.drewN _) (Nat.add_assoc _ _ _))⟩))))
                        go_meet
                        case rel => exact ⟨_, (t239), (by first | rfl | (simp; done) | (simp [*]; done)), H', ⟨by have := HK1.out; first | omega | exact Nat.le_refl _⟩, ⟨by (with_reducible repeat (first | apply Kd.R_alloc | apply Kd.R_drewN | apply Kd.R_drew)); (first | exact HO236.out | exact Kd.R_mono HO236.out (fun _ hk => ⟨trivial, hk⟩) | exact Kd.R_mono HO236.out (fun _ hk => hk.2) | exact Kd.R_mono HO236.out (fun _ hk => ⟨trivial, hk.2⟩))⟩, ⟨by repeat (first | (with_reducible first | exact HB.out | apply below_alloc | apply pw_below_drewN | apply below_drew1) | exact HB.out)⟩⟩
                      · rw [if_neg c33] at H
                        have c33b0 : (t237 == t238) = false := beq_eq_false_iff_ne.mpr c33
                        have c33b1 : (t237 != t238) = true := bne_iff_ne.mpr c33
                        (first | rw [c33b0] | (simp only [i64_w, i32_w]; rw [c33b0]) | skip)
                        have H' := Aside0.mk H
                        clear H
                        go_wp2
                        repeat (go_quiet (fail); try go_wp2)
                        go_meet
                        case rel => exact ⟨_, (wrap64 (1 + (Int.tmod (wrap64 (Int.tmod (IntKind.u64.wrap (a3)) 127)) 2))), (by first | rfl | (simp; done) | (simp [*]; done)), H', ⟨by have := HK1.out; first | omega | exact Nat.le_refl _⟩, ⟨by (with_reducible repeat (first | apply Kd.R_alloc | apply Kd.R_drewN | apply Kd.R_drew)); (first | exact HO236.out | exact Kd.R_mono HO236.out (fun _ hk => ⟨trivial, hk⟩) | exact Kd.R_mono HO236.out (fun _ hk => hk.2) | exact Kd.R_mono HO236.out (fun _ hk => ⟨trivial, hk.2⟩))⟩, ⟨by repeat (first | (with_reducible first | exact HB.out | apply below_alloc | apply pw_below_drewN | apply below_drew1) | exact HB.out)⟩⟩
                    case rest =>
                      clear HC31
                      try clear c1
                      try clear c2
                      try clear p2
                      try clear q2
                      try clear hx2
                      try clear c3
                      try clear c6
                      try clear p6
                      try clear c7
                      try clear c8
                      try clear c8b0
                      try clear c9
                      try clear c9b0
                      try clear c11
                      try clear c11b0
                      try clear c12
                      try clear c12b0
                      try clear c19
                      try clear c19b0
                      try clear c21
                      try clear c21b0
                      try clear c22
                      try clear c22b0
                      try clear p22
                      try clear q22
                      try clear hx22
                      try clear c23
                      try clear p23
                      try clear q23
                      try clear hx23
                      try clear c28
                      try clear c33
                      try clear c33b0
                      try clear c33b1
                      try clear hx222_0
                      try clear hx223_0
                      try clear hx230_0
                      try clear p2
                      try clear p222
                      try clear p223
                      try clear p230
                      try clear p6
                      try clear q2
                      try clear q222
                      try clear q223
                      try clear q230
                      obtain ⟨kq, x14_30, rfl, HA, HJ30, HO_12, HB⟩ := hcut
                      cases kq with
                      | zero => exact absurd HA.out (by simp [colophonlaw11_NeutralBetween.j1])
                      | succ kj30 =>
                        have H := HA.out
                        clear HA
                        simp only [colophonlaw11_NeutralBetween.j1] at H
                        have H' := Aside0.mk H
                        clear H
                        go_wp2
                        repeat (go_quiet (fail); try go_wp2)
                        go_loopg [15] kj30 (fun kq v15 w' => ∃ (x15_3 : Int), v15 = .int .i64 x15_3 ∧ Aside0 (colophonlaw11_NeutralBetween.l1 kq (wrap64 (Int.tmod (IntKind.u64.wrap (a0)) 50)) (wrap64 (Int.tmod (IntKind.u64.wrap (a3)) 127)) y234 x14_30 x15_3 = some r) ∧ Aside0 (kq ≤ kj30) ∧ Aside0 (Kd.R (Kd.int .i64) 3 w' w.heap.size (fun _ => True) v235 y234) ∧ Aside0 (Below w.heap.size w w'))
                        case atStart => exact ⟨(1), (by first | rfl | (simp; done) | (simp [*]; done)), H', ⟨Nat.le_refl _⟩, ⟨by (with_reducible repeat (first | apply Kd.R_alloc | apply Kd.R_drewN | apply Kd.R_drew)); (first | exact HO_12.out | exact Kd.R_mono HO_12.out (fun _ hk => ⟨trivial, hk⟩) | exact Kd.R_mono HO_12.out (fun _ hk => hk.2) | exact Kd.R_mono HO_12.out (fun _ hk => ⟨trivial, hk.2⟩))⟩, ⟨by repeat (first | (with_reducible first | exact HB.out | apply below_alloc | apply pw_below_drewN | apply below_drew1) | exact HB.out)⟩⟩
                        case round =>
                          clear H'
                          try clear c1
                          try clear c2
                          try clear p2
                          try clear q2
                          try clear hx2
                          try clear c3
                          try clear c6
                          try clear p6
                          try clear c7
                          try clear c8
                          try clear c8b0
                          try clear c9
                          try clear c9b0
                          try clear c11
                          try clear c11b0
                          try clear c12
                          try clear c12b0
                          try clear c19
                          try clear c19b0
                          try clear c21
                          try clear c21b0
                          try clear c22
                          try clear c22b0
                          try clear p22
                          try clear q22
                          try clear hx22
                          try clear c23
                          try clear p23
                          try clear q23
                          try clear hx23
                          try clear c28
                          try clear c33
                          try clear c33b0
                          try clear c33b1
                          try clear hx222_0
                          try clear hx223_0
                          try clear hx230_0
                          try clear p2
                          try clear p22
                          try clear p222
                          try clear p223
                          try clear p23
                          try clear p230
                          try clear p6
                          try clear q2
                          try clear q22
                          try clear q222
                          try clear q223
                          try clear q23
                          try clear q230
                          obtain ⟨x15_3, rfl, HA, HK3, HO_12, HB⟩ := hrel
                          cases gk with
                          | zero => exact absurd HA.out (by simp [colophonlaw11_NeutralBetween.l1])
                          | succ k3 =>
                            have H := HA.out
                            clear HA
                            simp only [colophonlaw11_NeutralBetween.l1] at H
                            by_cases c35 : x15_3 ≤ 2
                            · as_aux_lemma =>
                              rw [if_pos c35] at H
                              have c35b0 : decide (x15_3 ≤ 2) = true := decide_eq_true c35
                              clear c35
                              have H' := Aside0.mk H
                              clear H
                              go_wp2
                              repeat (go_quiet (fail); try go_wp2)
                              go_loopg [16] k3 (fun kq v16 w' => ∃ (x16_4 : Int), v16 = .int .i64 x16_4 ∧ Aside0 (colophonlaw11_NeutralBetween.l2 kq (wrap64 (Int.tmod (IntKind.u64.wrap (a0)) 50)) (wrap64 (Int.tmod (IntKind.u64.wrap (a3)) 127)) y234 x14_30 x15_3 x16_4 = some r) ∧ Aside0 (kq ≤ k3) ∧ Aside0 (Kd.R (Kd.int .i64) 3 w' w.heap.size (fun _ => True) v235 y234) ∧ Aside0 (Below w.heap.size w w'))
                              case atStart => exact ⟨(1), (by first | rfl | (simp; done) | (simp [*]; done)), H', ⟨Nat.le_refl _⟩, ⟨by (with_reducible repeat (first | apply Kd.R_alloc | apply Kd.R_drewN | apply Kd.R_drew)); (first | exact HO_12.out | exact Kd.R_mono HO_12.out (fun _ hk => ⟨trivial, hk⟩) | exact Kd.R_mono HO_12.out (fun _ hk => hk.2) | exact Kd.R_mono HO_12.out (fun _ hk => ⟨trivial, hk.2⟩))⟩, ⟨by repeat (first | (with_reducible first | exact HB.out | apply below_alloc | apply pw_below_drewN | apply below_drew1) | exact HB.out)⟩⟩
                              case round =>
                                clear H'
                                try clear c1
                                try clear c2
                                try clear p2
                                try clear q2
                                try clear hx2
                                try clear c3
                                try clear c6
                                try clear p6
                                try clear c7
                                try clear c8
                                try clear c8b0
                                try clear c9
                                try clear c9b0
                                try clear c11
                                try clear c11b0
                                try clear c12
                                try clear c12b0
                                try clear c19
                                try clear c19b0
                                try clear c21
                                try clear c21b0
                                try clear c22
                                try clear c22b0
                                try clear p22
                                try clear q22
                                try clear hx22
                                try clear c23
                                try clear p23
                                try clear q23
                                try clear hx23
                                try clear c28
                                try clear c33
                                try clear c33b0
                                try clear c33b1
                                try clear c35
                                try clear c35b0
                                try clear hx222_0
                                try clear hx223_0
                                try clear hx230_0
                                try clear p2
                                try clear p22
                                try clear p222
                                try clear p223
                                try clear p23
                                try clear p230
                                try clear p6
                                try clear q2
                                try clear q22
                                try clear q222
                                try clear q223
                                try clear q23
                                try clear q230
                                obtain ⟨x16_4, rfl, HA, HK4, HO_12, HB⟩ := hrel
                                cases gk with
                                | zero => exact absurd HA.out (by simp [colophonlaw11_NeutralBetween.l2])
                                | succ k4 =>
                                  have H := HA.out
                                  clear HA
                                  simp only [colophonlaw11_NeutralBetween.l2] at H
                                  by_cases c36 : x16_4 ≤ 2
                                  · as_aux_lemma =>
                                    rw [if_pos c36] at H
                                    have c36b0 : decide (x16_4 ≤ 2) = true := decide_eq_true c36
                                    clear c36
                                    replace H := Option.bind_eq_some_iff.mp H
                                    obtain ⟨⟨t240, t241⟩, A370, H⟩ := H
                                    replace H : (if t241 = 0 then (colophonlaw11_NeutralBetween.j4 k4 (wrap64 (Int.tmod (IntKind.u64.wrap (a0)) 50)) (wrap64 (Int.tmod (IntKind.u64.wrap (a3)) 127)) y234 x14_30 x15_3 x16_4 t240 ((t240.length : Int) != (wrap64 ((wrap64 (Int.tmod (IntKind.u64.wrap (a0)) 50)) + 2)))) else (colophonlaw11_NeutralBetween.j4 k4 (wrap64 (Int.tmod (IntKind.u64.wrap (a0)) 50)) (wrap64 (Int.tmod (IntKind.u64.wrap (a3)) 127)) y234 x14_30 x15_3 x16_4 t240 true)) = some r := H
                                    have A37 := Aside0.mk A370
                                    clear A370
                                    have HC38 := Aside0.mk H
                                    clear H
                                    obtain ⟨Ao39, co39, eo39⟩ := Kd.R_slice HO_12.out
                                    subst eo39
                                    go_upto_region 23 with (first | (go_at_call 10; (with_reducible refine (neutral_Resolve.calls _ _ y234 (wrap64 (Int.tmod (IntKind.u64.wrap (a3)) 127)) x15_3 x16_4 t240 t241 _ ?side1 ?side2 A37.out).mono ?_); (case side1 => repeat (first | exact (Kd.R_reads' HO_12.out).2.2 | (with_reducible refine Kd.C_alloc ?_ _) | (with_reducible refine Kd.C_drewN ?_ _) | (with_reducible refine Kd.C_drew ?_))); (case side2 => exact (Kd.R_reads' HO_12.out).2.1); rintro e w40 ⟨v242, rfl, ho0, hb⟩; have n0_ := Aside0.mk (Kd.R_elder' (by (with_reducible repeat (first | apply Kd.R_alloc | apply Kd.R_drewN | apply Kd.R_drew)); (first | exact HO_12.out | exact Kd.R_mono HO_12.out (fun _ hk => ⟨trivial, hk⟩) | exact Kd.R_mono HO_12.out (fun _ hk => hk.2) | exact Kd.R_mono HO_12.out (fun _ hk => ⟨trivial, hk.2⟩))) (Kd.R_base ho0) hb); have n1_ := Aside0.mk (Kd.R_lower (Kd.R_new' ho0 (Kd.R_lt (by (with_reducible repeat (first | apply Kd.R_alloc | apply Kd.R_drewN | apply Kd.R_drew)); (first | exact HO_12.out | exact Kd.R_mono HO_12.out (fun _ hk => ⟨trivial, hk⟩) | exact Kd.R_mono HO_12.out (fun _ hk => hk.2) | exact Kd.R_mono HO_12.out (fun _ hk => ⟨trivial, hk.2⟩))))) (below_size (by repeat (first | (with_reducible first | exact HB.out | apply below_alloc | apply pw_below_drewN | apply below_drew1) | exact HB.out)))); have n2_ := Aside0.mk (below_step (by repeat (first | (with_reducible first | exact HB.out | apply below_alloc | apply pw_below_drewN | apply below_drew1) | exact HB.out)) hb); clear HO_12; clear HB; have HO_12 := n0_; have HO243 := n1_; have HB := n2_; clear n0_ n1_ n2_; (try clear hb); (try clear hb2); (try clear hk); (try clear hi); (try clear ho0)))
                                    repeat (go_quiet (first | (go_at_call 10; (with_reducible refine (neutral_Resolve.calls _ _ y234 (wrap64 (Int.tmod (IntKind.u64.wrap (a3)) 127)) x15_3 x16_4 t240 t241 _ ?side1 ?side2 A37.out).mono ?_); (case side1 => repeat (first | exact (Kd.R_reads' HO_12.out).2.2 | (with_reducible refine Kd.C_alloc ?_ _) | (with_reducible refine Kd.C_drewN ?_ _) | (with_reducible refine Kd.C_drew ?_))); (case side2 => exact (Kd.R_reads' HO_12.out).2.1); rintro e w40 ⟨v242, rfl, ho0, hb⟩; have n0_ := Aside0.mk (Kd.R_elder' (by (with_reducible repeat (first | apply Kd.R_alloc | apply Kd.R_drewN | apply Kd.R_drew)); (first | exact HO_12.out | exact Kd.R_mono HO_12.out (fun _ hk => ⟨trivial, hk⟩) | exact Kd.R_mono HO_12.out (fun _ hk => hk.2) | exact Kd.R_mono HO_12.out (fun _ hk => ⟨trivial, hk.2⟩))) (Kd.R_base ho0) hb); have n1_ := Aside0.mk (Kd.R_lower (Kd.R_new' ho0 (Kd.R_lt (by (with_reducible repeat (first | apply Kd.R_alloc | apply Kd.R_drewN | apply Kd.R_drew)); (first | exact HO_12.out | exact Kd.R_mono HO_12.out (fun _ hk => ⟨trivial, hk⟩) | exact Kd.R_mono HO_12.out (fun _ hk => hk.2) | exact Kd.R_mono HO_12.out (fun _ hk => ⟨trivial, hk.2⟩))))) (below_size (by repeat (first | (with_reducible first | exact HB.out | apply below_alloc | apply pw_below_drewN | apply below_drew1) | exact HB.out)))); have n2_ := Aside0.mk (below_step (by repeat (first | (with_reducible first | exact HB.out | apply below_alloc | apply pw_below_drewN | apply below_drew1) | exact HB.out)) hb); clear HO_12; clear HB; have HO_12 := n0_; have HO243 := n1_; have HB := n2_; clear n0_ n1_ n2_; (try clear hb); (try clear hb2); (try clear hk); (try clear hi); (try clear ho0))); go_upto_region 23 with (first | (go_at_call 10; (with_reducible refine (neutral_Resolve.calls _ _ y234 (wrap64 (Int.tmod (IntKind.u64.wrap (a3)) 127)) x15_3 x16_4 t240 t241 _ ?side1 ?side2 A37.out).mono ?_); (case side1 => repeat (first | exact (Kd.R_reads' HO_12.out).2.2 | (with_reducible refine Kd.C_alloc ?_ _) | (with_reducible refine Kd.C_drewN ?_ _) | (with_reducible refine Kd.C_drew ?_))); (case side2 => exact (Kd.R_reads' HO_12.out).2.1); rintro e w40 ⟨v242, rfl, ho0, hb⟩; have n0_ := Aside0.mk (Kd.R_elder' (by (with_reducible repeat (first | apply Kd.R_alloc | apply Kd.R_drewN | apply Kd.R_drew)); (first | exact HO_12.out | exact Kd.R_mono HO_12.out (fun _ hk => ⟨trivial, hk⟩) | exact Kd.R_mono HO_12.out (fun _ hk => hk.2) | exact Kd.R_mono HO_12.out (fun _ hk => ⟨trivial, hk.2⟩))) (Kd.R_base ho0) hb); have n1_ := Aside0.mk (Kd.R_lower (Kd.R_new' ho0 (Kd.R_lt (by (with_reducible repeat (first | apply Kd.R_alloc | apply Kd.R_drewN | apply Kd.R_drew)); (first | exact HO_12.out | exact Kd.R_mono HO_12.out (fun _ hk => ⟨trivial, hk⟩) | exact Kd.R_mono HO_12.out (fun _ hk => hk.2) | exact Kd.R_mono HO_12.out (fun _ hk => ⟨trivial, hk.2⟩))))) (below_size (by repeat (first | (with_reducible first | exact HB.out | apply below_alloc | apply pw_below_drewN | apply below_drew1) | exact HB.out)))); have n2_ := Aside0.mk (below_step (by repeat (first | (with_reducible first | exact HB.out | apply below_alloc | apply pw_below_drewN | apply below_drew1) | exact HB.out)) hb); clear HO_12; clear HB; have HO_12 := n0_; have HO243 := n1_; have HB := n2_; clear n0_ n1_ n2_; (try clear hb); (try clear hb2); (try clear hk); (try clear hi); (try clear ho0))))
                                    (try simp only [Act.put, List.setIfInBounds_toArray, List.set_cons_zero, List.set_cons_succ])
                                    go_cut [98] (fun v98 wc => ∃ (kq : Nat) (x98_37 : Bool), v98 = .bool x98_37 ∧ Aside0 (colophonlaw11_NeutralBetween.j4 kq (wrap64 (Int.tmod (IntKind.u64.wrap (a0)) 50)) (wrap64 (Int.tmod (IntKind.u64.wrap (a3)) 127)) y234 x14_30 x15_3 x16_4 t240 x98_37 = some r) ∧ Aside0 (kq ≤ k4) ∧ Aside0 (Kd.R (Kd.int .i64) 3 wc w.heap.size (fun k_ => some k_ ≠ (v242 : Value).ownBlock) (.slice Ao39 y234.length co39) y234) ∧ Aside0 (Kd.R (Kd.int .i64) 3 wc w.heap.size (fun k_ => some k_ ≠ ((.slice Ao39 y234.length co39) : Value).ownBlock) v242 t240) ∧ Aside0 (Below w.heap.size w wc))
                                    case first =>
                                      have H := HC38.out
                                      clear HC38
                                      by_cases c41 : t241 = 0
                                      · rw [if_pos c41] at H
                                        have c41b0 : (t241 == 0) = true := beq_iff_eq.mpr c41
                                        have c41b1 : (t241 != 0) = false := bne_eq_false_iff_eq.mpr c41
                                        clear c41
                                        (first | rw [c41b0] | (simp only [i64_w, i32_w]; rw [c41b0]) | skip)
                                        have H' := Aside0.mk H
                                        clear H
                                        obtain ⟨Ao42, co42, eo42⟩ := Kd.R_slice HO243.out
                                        subst eo42
                                        go_wp2
                                        repeat (go_quiet (fail); try go_wp2)
                                        go_meet
                                        case rel => exact ⟨_, (((t240.length : Int) != (wrap64 ((wrap64 (Int.tmod (IntKind.u64.wrap (a0)) 50)) + 2)))), (by first | rfl | (simp; done) | (simp [*]; done)), H', ⟨by have := HK1.out; have := HJ30.out; have := HK3.out; have := HK4.out; first | omega | exact Nat.le_refl _⟩, ⟨by (with_reducible repeat (first | apply Kd.R_alloc | apply Kd.R_drewN | apply Kd.R_drew)); (first | exact Kd.R_mono HO_12.out (fun _ hk => hk.2) | exact HO_12.out | exact Kd.R_mono HO_12.out (fun _ hk => ⟨trivial, hk⟩) | exact Kd.R_mono HO_12.out (fun _ hk => ⟨trivial, hk.2⟩))⟩, ⟨by (with_reducible repeat (first | apply Kd.R_alloc | apply Kd.R_drewN | apply Kd.R_drew)); (first | exact Kd.R_mono HO243.out (fun _ hk => hk.2) | exact HO243.out | exact Kd.R_mono HO243.out (fun _ hk => ⟨trivial, hk⟩) | exact Kd.R_mono HO243.out (fun _ hk => ⟨trivial, hk.2⟩))⟩, ⟨by repeat (first | (with_reducible first | exact HB.out | apply below_alloc | apply pw_below_drewN | apply below_drew1) | exact HB.out)⟩⟩
                                      · rw [if_neg c41] at H
                                        have c41b0 : (t241 == 0) = false := beq_eq_false_iff_ne.mpr c41
                                        have c41b1 : (t241 != 0) = true := bne_iff_ne.mpr c41
                                        (first | rw [c41b0] | (simp only [i64_w, i32_w]; rw [c41b0]) | skip)
                                        have H' := Aside0.mk H
                                        clear H
                                        go_wp2
                                        repeat (go_quiet (fail); try go_wp2)
                                        go_meet
                                        case rel => exact ⟨_, (true), (by first | rfl | (simp; done) | (simp [*]; done)), H', ⟨by have := HK1.out; have := HJ30.out; have := HK3.out; have := HK4.out; first | omega | exact Nat.le_refl _⟩, ⟨by (with_reducible repeat (first | apply Kd.R_alloc | apply Kd.R_drewN | apply Kd.R_drew)); (first | exact Kd.R_mono HO_12.out (fun _ hk => hk.2) | exact HO_12.out | exact Kd.R_mono HO_12.out (fun _ hk => ⟨trivial, hk⟩) | exact Kd.R_mono HO_12.out (fun _ hk => ⟨trivial, hk.2⟩))⟩, ⟨by (with_reducible repeat (first | apply Kd.R_alloc | apply Kd.R_drewN | apply Kd.R_drew)); (first | exact Kd.R_mono HO243.out (fun _ hk => hk.2) | exact HO243.out | exact Kd.R_mono HO243.out (fun _ hk => ⟨trivial, hk⟩) | exact Kd.R_mono HO243.out (fun _ hk => ⟨trivial, hk.2⟩))⟩, ⟨by repeat (first | (with_reducible first | exact HB.out | apply below_alloc | apply pw_below_drewN | apply below_drew1) | exact HB.out)⟩⟩
                                    case rest =>
                                      clear HC38
                                      try clear c1
                                      try clear c2
                                      try clear p2
                                      try clear q2
                                      try clear hx2
                                      try clear c3
                                      try clear c4
                                      try clear c6
                                      try clear p6
                                      try clear c7
                                      try clear c8
                                      try clear c8b0
                                      try clear c9
                                      try clear c9b0
                                      try clear c11
                                      try clear c11b0
                                      try clear c12
                                      try clear c12b0
                                      try clear c19
                                      try clear c19b0
                                      try clear c21
                                      try clear c21b0
                                      try clear c22
                                      try clear c22b0
                                      try clear p22
                                      try clear q22
                                      try clear hx22
                                      try clear c23
                                      try clear p23
                                      try clear q23
                                      try clear hx23
                                      try clear c28
                                      try clear c33
                                      try clear c33b0
                                      try clear c33b1
                                      try clear c35
                                      try clear c35b0
                                      try clear c36
                                      try clear c36b0
                                      try clear c41
                                      try clear c41b0
                                      try clear c41b1
                                      try clear hx222_0
                                      try clear hx223_0
                                      try clear hx230_0
                                      try clear p2
                                      try clear p22
                                      try clear p222
                                      try clear p223
                                      try clear p23
                                      try clear p230
                                      try clear p6
                                      try clear q2
                                      try clear q22
                                      try clear q222
                                      try clear q223
                                      try clear q23
                                      try clear q230
                                      obtain ⟨kq, x98_37, rfl, HA, HJ37, HO_12, HO_17, HB⟩ := hcut
                                      cases kq with
                                      | zero => exact absurd HA.out (by simp [colophonlaw11_NeutralBetween.j4])
                                      | succ kj37 =>
                                        have H := HA.out
                                        clear HA
                                        simp only [colophonlaw11_NeutralBetween.j4] at H
                                        by_cases c43 : x98_37 = true
                                        · subst c43
                                          have H1 : (some false) = some r := by rw [if_pos rfl] at H; exact H
                                          clear H
                                          have H := H1
                                          clear H1
                                          obtain rfl := Option.some.inj H
                                          go_wp2
                                          repeat (go_quiet (fail); try go_wp2)
                                          go_ret
                                          exact ⟨by first | rfl | (simp [errW_none, errW_some] <;> rfl) | (simp only [← hji7, ← hji10]; first | rfl | (simp [errW_none, errW_some] <;> rfl)) | (simp [*, errW_none, errW_some] <;> rfl), by repeat (first | (with_reducible first | exact HB.out | apply below_alloc | apply pw_below_drewN | apply below_drew1) | exact HB.out)⟩
                                        · as_aux_lemma =>
                                          replace c43 := Bool.eq_false_iff.mpr c43
                                          subst c43
                                          have H1 : (colophonlaw11_NeutralBetween.l3 kj37 (wrap64 (Int.tmod (IntKind.u64.wrap (a0)) 50)) (wrap64 (Int.tmod (IntKind.u64.wrap (a3)) 127)) y234 x14_30 x15_3 x16_4 t240 1) = some r := by rw [if_neg (show ¬ (false = true) by decide)] at H; exact H
                                          clear H
                                          have H := H1
                                          clear H1
                                          have H' := Aside0.mk H
                                          clear H
                                          go_wp2
                                          repeat (go_quiet (fail); try go_wp2)
                                          go_loopg [19] kj37 (fun kq v19 w' => ∃ (x19_6 : Int), v19 = .int .i64 x19_6 ∧ Aside0 (colophonlaw11_NeutralBetween.l3 kq (wrap64 (Int.tmod (IntKind.u64.wrap (a0)) 50)) (wrap64 (Int.tmod (IntKind.u64.wrap (a3)) 127)) y234 x14_30 x15_3 x16_4 t240 x19_6 = some r) ∧ Aside0 (kq ≤ kj37) ∧ Aside0 (Kd.R (Kd.int .i64) 3 w' w.heap.size (fun k_ => some k_ ≠ (v242 : Value).ownBlock) (.slice Ao39 y234.length co39) y234) ∧ Aside0 (Kd.R (Kd.int .i64) 3 w' w.heap.size (fun k_ => some k_ ≠ ((.slice Ao39 y234.length co39) : Value).ownBlock) v242 t240) ∧ Aside0 (Below w.heap.size w w'))
                                          case atStart => exact ⟨(1), (by first | rfl | (simp; done) | (simp [*]; done)), H', ⟨Nat.le_refl _⟩, ⟨by (with_reducible repeat (first | apply Kd.R_alloc | apply Kd.R_drewN | apply Kd.R_drew)); (first | exact HO_12.out | exact Kd.R_mono HO_12.out (fun _ hk => ⟨trivial, hk⟩) | exact Kd.R_mono HO_12.out (fun _ hk => hk.2) | exact Kd.R_mono HO_12.out (fun _ hk => ⟨trivial, hk.2⟩))⟩, ⟨by (with_reducible repeat (first | apply Kd.R_alloc | apply Kd.R_drewN | apply Kd.R_drew)); (first | exact HO_17.out | exact Kd.R_mono HO_17.out (fun _ hk => ⟨trivial, hk⟩) | exact Kd.R_mono HO_17.out (fun _ hk => hk.2) | exact Kd.R_mono HO_17.out (fun _ hk => ⟨trivial, hk.2⟩))⟩, ⟨by repeat (first | (with_reducible first | exact HB.out | apply below_alloc | apply pw_below_drewN | apply below_drew1) | exact HB.out)⟩⟩
                                          case round =>
                                            clear H'
                                            try clear c1
                                            try clear c2
                                            try clear p2
                                            try clear q2
                                            try clear hx2
                                            try clear c3
                                            try clear c4
                                            try clear c6
                                            try clear p6
                                            try clear c7
                                            try clear c8
                                            try clear c8b0
                                            try clear c9
                                            try clear c9b0
                                            try clear c11
                                            try clear c11b0
                                            try clear c12
                                            try clear c12b0
                                            try clear c19
                                            try clear c19b0
                                            try clear c21
                                            try clear c21b0
                                            try clear c22
                                            try clear c22b0
                                            try clear p22
                                            try clear q22
                                            try clear hx22
                                            try clear c23
                                            try clear p23
                                            try clear q23
                                            try clear hx23
                                            try clear c28
                                            try clear c33
                                            try clear c33b0
                                            try clear c33b1
                                            try clear c35
                                            try clear c35b0
                                            try clear c36
                                            try clear c36b0
                                            try clear c41
                                            try clear c41b0
                                            try clear c41b1
                                            try clear c43
                                            try clear hx222_0
                                            try clear hx223_0
                                            try clear hx230_0
                                            try clear p2
                                            try clear p22
                                            try clear p222
                                            try clear p223
                                            try clear p23
                                            try clear p230
                                            try clear p6
                                            try clear q2
                                            try clear q22
                                            try clear q222
                                            try clear q223
                                            try clear q23
                                            try clear q230
                                            obtain ⟨x19_6, rfl, HA, HK6, HO_12, HO_17, HB⟩ := hrel
                                            cases gk with
                                            | zero => exact absurd HA.out (by simp [colophonlaw11_NeutralBetween.l3])
                                            | succ k6 =>
                                              have H := HA.out
                                              clear HA
                                              simp only [colophonlaw11_NeutralBetween.l3] at H
                                              by_cases c44 : x19_6 ≤ (wrap64 (Int.tmod (IntKind.u64.wrap (a0)) 50))
                                              · rw [if_pos c44] at H
                                                have c44b0 : decide (x19_6 ≤ (wrap64 (Int.tmod (IntKind.u64.wrap (a0)) 50))) = true := decide_eq_true c44
                                                clear c44
                                                by_cases c45 : 0 ≤ x19_6
                                                · rw [if_pos c45] at H
                                                  have c45b0 : decide (0 ≤ x19_6) = true := decide_eq_true c45
                                                  clear c45
                                                  by_cases c46 : x19_6 < (t240.length : Int)
                                                  · rw [if_pos c46] at H
                                                    have c46b0 : decide (x19_6 < (t240.length : Int)) = true := decide_eq_true c46
                                                    clear c46
                                                    by_cases c47 : (rd t240 x19_6) = x14_30
                                                    · rw [if_pos c47] at H
                                                      have c47b0 : ((rd t240 x19_6) == x14_30) = true := beq_iff_eq.mpr c47
                                                      have c47b1 : ((rd t240 x19_6) != x14_30) = false := bne_eq_false_iff_eq.mpr c47
                                                      clear c47
                                                      have H' := Aside0.mk H
                                                      clear H
                                                      obtain ⟨Ao48, co48, eo48⟩ := Kd.R_slice HO_17.out
                                                      subst eo48
                                                      have p244 : 0 ≤ (x19_6 : Int) := of_decide_eq_true (by first | (with_reducible assumption) | assumption)
                                                      have q244 : x19_6 < (t240.length : Int) := of_decide_eq_true (by first | (with_reducible assumption) | assumption)
                                                      try (obtain ⟨Aq244, cq244, eq244⟩ := Kd.R_slice HO_17.out; subst eq244)
                                                      obtain ⟨ad244, e244, hx244_0⟩ := Kd.at_int (Kd.R_reads' HO_17.out).2.2 x19_6 p244 q244
                                                      cases e244
                                                      replace p244 := eq_true p244
                                                      replace q244 := eq_true q244
                                                      go_wp2
                                                      repeat (go_quiet (fail); try go_wp2)
                                                      go_roundg k6
                                                      case measure => have := HK1.out; have := HJ30.out; have := HK3.out; have := HK4.out; have := HJ37.out; have := HK6.out; omega
                                                      case rel => exact ⟨(wrap64 (x19_6 + 1)), (by first | rfl | (simp; done) | (simp [*]; done)), H', ⟨by have := HK1.out; have := HJ30.out; have := HK3.out; have := HK4.out; have := HJ37.out; have := HK6.out; omega⟩, ⟨by (with_reducible repeat (first | apply Kd.R_alloc | apply Kd.R_drewN | apply Kd.R_drew)); (first | exact HO_12.out | exact Kd.R_mono HO_12.out (fun _ hk => ⟨trivial, hk⟩) | exact Kd.R_mono HO_12.out (fun _ hk => hk.2) | exact Kd.R_mono HO_12.out (fun _ hk => ⟨trivial, hk.2⟩))⟩, ⟨by (with_reducible repeat (first | apply Kd.R_alloc | apply Kd.R_drewN | apply Kd.R_drew)); (first | exact HO_17.out | exact Kd.R_mono HO_17.out (fun _ hk => ⟨trivial, hk⟩) | exact Kd.R_mono HO_17.out (fun _ hk => hk.2) | exact Kd.R_mono HO_17.out (fun _ hk => ⟨trivial, hk.2⟩))⟩, ⟨by repeat (first | (with_reducible first | exact HB.out | apply below_alloc | apply pw_below_drewN | apply below_drew1) | exact HB.out)⟩⟩
                                                    · rw [if_neg c47] at H
                                                      have c47b0 : ((rd t240 x19_6) == x14_30) = false := beq_eq_false_iff_ne.mpr c47
                                                      have c47b1 : ((rd t240 x19_6) != x14_30) = true := bne_iff_ne.mpr c47
                                                      obtain rfl := Option.some.inj H
                                                      obtain ⟨Ao49, co49, eo49⟩ := Kd.R_slice HO_17.out
                                                      subst eo49
                                                      have p244 : 0 ≤ (x19_6 : Int) := of_decide_eq_true (by first | (with_reducible assumption) | assumption)
                                                      have q244 : x19_6 < (t240.length : Int) := of_decide_eq_true (by first | (with_reducible assumption) | assumption)
                                                      try (obtain ⟨Aq244, cq244, eq244⟩ := Kd.R_slice HO_17.out; subst eq244)
                                                      obtain ⟨ad244, e244, hx244_0⟩ := Kd.at_int (Kd.R_reads' HO_17.out).2.2 x19_6 p244 q244
                                                      cases e244
                                                      replace p244 := eq_true p244
                                                      replace q244 := eq_true q244
                                                      go_wp2
                                                      repeat (go_quiet (fail); try go_wp2)
                                                      go_ret
                                                      exact ⟨by first | rfl | (simp [errW_none, errW_some] <;> rfl) | (simp only [← hji7, ← hji10]; first | rfl | (simp [errW_none, errW_some] <;> rfl)) | (simp [*, errW_none, errW_some] <;> rfl), by repeat (first | (with_reducible first | exact HB.out | apply below_alloc | apply pw_below_drewN | apply below_drew1) | exact HB.out)⟩
                                                  · rw [if_neg c46] at H
                                                    exact absurd H (by simp)
                                                · rw [if_neg c45] at H
                                                  exact absurd H (by simp)
                                              · rw [if_neg c44] at H
                                                have c44b0 : decide (x19_6 ≤ (wrap64 (Int.tmod (IntKind.u64.wrap (a0)) 50))) = false := decide_eq_false c44
                                                clear c44
                                                have H' := Aside0.mk H
                                                clear H
                                                go_wp2
                                                repeat (go_quiet (fail); try go_wp2)
                                                go_roundg k6
                                                case measure => have := HK1.out; have := HJ30.out; have := HK3.out; have := HK4.out; have := HJ37.out; have := HK6.out; omega
                                                case rel => exact ⟨(wrap64 (x16_4 + 1)), (by first | rfl | (simp; done) | (simp [*]; done)), H', ⟨by have := HK1.out; have := HJ30.out; have := HK3.out; have := HK4.out; have := HJ37.out; have := HK6.out; omega⟩, ⟨by (with_reducible repeat (first | apply Kd.R_alloc | apply Kd.R_drewN | apply Kd.R_drew)); (first | exact Kd.R_mono HO_12.out (fun _ hk => trivial) | exact HO_12.out | exact Kd.R_mono HO_12.out (fun _ hk => ⟨trivial, hk⟩) | exact Kd.R_mono HO_12.out (fun _ hk => hk.2) | exact Kd.R_mono HO_12.out (fun _ hk => ⟨trivial, hk.2⟩))⟩, ⟨by repeat (first | (with_reducible first | exact HB.out | apply below_alloc | apply pw_below_drewN | apply below_drew1) | exact HB.out)⟩⟩
                                  · rw [if_neg c36] at H
                                    have c36b0 : decide (x16_4 ≤ 2) = false := decide_eq_false c36
                                    clear c36
                                    have H' := Aside0.mk H
                                    clear H
                                    go_wp2
                                    repeat (go_quiet (fail); try go_wp2)
                                    go_roundg k4
                                    case measure => have := HK1.out; have := HJ30.out; have := HK3.out; have := HK4.out; omega
                                    case rel => exact ⟨(wrap64 (x15_3 + 1)), (by first | rfl | (simp; done) | (simp [*]; done)), H', ⟨by have := HK1.out; have := HJ30.out; have := HK3.out; have := HK4.out; omega⟩, ⟨by (with_reducible repeat (first | apply Kd.R_alloc | apply Kd.R_drewN | apply Kd.R_drew)); (first | exact HO_12.out | exact Kd.R_mono HO_12.out (fun _ hk => ⟨trivial, hk⟩) | exact Kd.R_mono HO_12.out (fun _ hk => hk.2) | exact Kd.R_mono HO_12.out (fun _ hk => ⟨trivial, hk.2⟩))⟩, ⟨by repeat (first | (with_reducible first | exact HB.out | apply below_alloc | apply pw_below_drewN | apply below_drew1) | exact HB.out)⟩⟩
                            · rw [if_neg c35] at H
                              have c35b0 : decide (x15_3 ≤ 2) = false := decide_eq_false c35
                              clear c35
                              obtain rfl := Option.some.inj H
                              go_wp2
                              repeat (go_quiet (fail); try go_wp2)
                              go_ret
                              exact ⟨by first | rfl | (simp [errW_none, errW_some] <;> rfl) | (simp only [← hji7, ← hji10]; first | rfl | (simp [errW_none, errW_some] <;> rfl)) | (simp [*, errW_none, errW_some] <;> rfl), by repeat (first | (with_reducible first | exact HB.out | apply below_alloc | apply pw_below_drewN | apply below_drew1) | exact HB.out)⟩
                  · rw [if_neg c28] at H
                    exact absurd H (by simp)
          · rw [if_neg c12] at H
            exact absurd H (by simp)
        · rw [if_neg c11] at H
          exact absurd H (by simp)
      · rw [if_neg c9] at H
        exact absurd H (by simp)
    · rw [if_neg c8] at H
      exact absurd H (by simp)
  · replace c6 := Bool.eq_false_iff.mpr c6
    subst c6
    have H1 : (some false) = some r := by rw [if_neg (show ¬ (false = true) by decide)] at H; exact H
    clear H
    have H := H1
    clear H1
    obtain rfl := Option.some.inj H
    go_enter Try.func7, Try.ntmps7
    go_wp2_with (first | (go_at_call 9; (with_reducible refine (colophonlaw11_works.calls k  false _ A5.out).mono ?_); rintro e w50 ⟨rfl, hb⟩; have n0_ := Aside0.mk (below_step (by repeat (first | (with_reducible first | exact HB.out | apply below_alloc | apply pw_below_drewN | apply below_drew1) | exact HB.out)) hb); clear HB; have HB := n0_; clear n0_; (try clear hb); (try clear hb2); (try clear hk); (try clear hi)))
    repeat (go_quiet (first | (go_at_call 9; (with_reducible refine (colophonlaw11_works.calls k  false _ A5.out).mono ?_); rintro e w50 ⟨rfl, hb⟩; have n0_ := Aside0.mk (below_step (by repeat (first | (with_reducible first | exact HB.out | apply below_alloc | apply pw_below_drewN | apply below_drew1) | exact HB.out)) hb); clear HB; have HB := n0_; clear n0_; (try clear hb); (try clear hb2); (try clear hk); (try clear hi))); try go_wp2_with (first | (go_at_call 9; (with_reducible refine (colophonlaw11_works.calls k  false _ A5.out).mono ?_); rintro e w50 ⟨rfl, hb⟩; have n0_ := Aside0.mk (below_step (by repeat (first | (with_reducible first | exact HB.out | apply below_alloc | apply pw_below_drewN | apply below_drew1) | exact HB.out)) hb); clear HB; have HB := n0_; clear n0_; (try clear hb); (try clear hb2); (try clear hk); (try clear hi))))
    go_ret
    exact ⟨by first | rfl | (simp [errW_none, errW_some] <;> rfl) | (simp [*, errW_none, errW_some] <;> rfl), by repeat (first | (with_reducible first | exact HB.out | apply below_alloc | apply pw_below_drewN | apply below_drew1) | exact HB.out)⟩

/-- THE ONE PURE STATEMENT of colophonlaw11_NeutralBetween: yours. -/
def colophonlaw11_NeutralBetween.Pure : Prop := ∀ (a0 : Int) (a1 : Int) (a2 : Int) (a3 : Int), (Lit.int .i64 a0).wf = true → (Lit.int .i64 a1).wf = true → (Lit.int .i64 a2).wf = true → (Lit.int .i64 a3).wf = true → ∃ k, colophonlaw11_NeutralBetween.f k a0 a1 a2 a3 = some true
theorem colophonlaw11_NeutralBetween.walk (P : colophonlaw11_NeutralBetween.Pure) (a0 : Int) (a1 : Int) (a2 : Int) (a3 : Int) (w : World) (w0 : (Lit.int .i64 a0).wf = true) (w1 : (Lit.int .i64 a1).wf = true) (w2 : (Lit.int .i64 a2).wf = true) (w3 : (Lit.int .i64 a3).wf = true) :
    Calls Try.prog 7 #[.int .i64 a0, .int .i64 a1, .int .i64 a2, .int .i64 a3] w fun e w' => e = .returned (.bool true) ∧ Below w.heap.size w w' := by
  obtain ⟨k, h⟩ := P a0 a1 a2 a3 w0 w1 w2 w3
  refine (colophonlaw11_NeutralBetween.calls k a0 a1 a2 a3 true w h).mono ?_
  rintro e w' ⟨rfl, hd⟩
  exact ⟨rfl, hd⟩

end Go.Proofs.Ytcjmjggifeaggaa.X
