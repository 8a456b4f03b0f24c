-- Written by this session's own program over the seat's translation (a changed print); not the kit's printed text
import Derived.Test.YthokljlalgclkaaX0
import Derived.Test.YthokljlalgclkaaX1
import Derived.Test.YthokljlalgclkaaX3
import Derived.Test.YthokljlalgclkaaHRes
namespace Go.Proofs.Ythokljlalgclkaa.X
open Go.RowKit Go.Proofs.YthokljlalgclkaaW.PrintWords Go.Proofs.YthokljlalgclkaaW.PrintLast Go.Proofs.YthokljlalgclkaaW.PrintMore Go.Proofs.Ythokljlalgclkaa.G
attribute [local go_sem] max2_int min2_int max_two min_two max_three min_three max_four min_four   -- for this text's walks alone
set_option linter.unusedVariables false
set_option linter.unusedSimpArgs false

/-! ### colophonlaw07_ExplicitPairs: function 4 -/
mutual
def colophonlaw07_ExplicitPairs.j0 : Nat → List Int → Int → List Int → List Int → List Int → Bool → Option (Bool)
  | 0, _, _, _, _, _, _ => none
  | k + 1, x0, x1, x5, x6, x8, x51 => if x51 = true then (some false) else (colophonlaw07_ExplicitPairs.l0 k x0 x1 x5 x6 x8 true x0 (x0.length : Int) 0)
def colophonlaw07_ExplicitPairs.l0 : Nat → List Int → Int → List Int → List Int → List Int → Bool → List Int → Int → Int → Option (Bool)
  | 0, _, _, _, _, _, _, _, _, _ => none
  | k + 1, x0, x1, x5, x6, x8, x9, x52, x53, x54 => if x54 < x53 then (if 0 ≤ x54 then (if x54 < (x52.length : Int) then (if x9 = true then (if (rd x52 x54) = 17 then (colophonlaw07_ExplicitPairs.j2 k x0 x1 x5 x6 x8 false x54 (rd x52 x54) x52 x53 x54) else (if (rd x52 x54) = 15 then (colophonlaw07_ExplicitPairs.j2 k x0 x1 x5 x6 x8 false x54 (rd x52 x54) x52 x53 x54) else (if (rd x52 x54) = 18 then (colophonlaw07_ExplicitPairs.j2 k x0 x1 x5 x6 x8 false x54 (rd x52 x54) x52 x53 x54) else (colophonlaw07_ExplicitPairs.j2 k x0 x1 x5 x6 x8 ((rd x52 x54) != 16) x54 (rd x52 x54) x52 x53 x54)))) else (colophonlaw07_ExplicitPairs.j2 k x0 x1 x5 x6 x8 false x54 (rd x52 x54) x52 x53 x54)) else (none)) else (none)) else (colophonlaw07_ExplicitPairs.l1 k x0 x1 x5 x6 x9 0)
def colophonlaw07_ExplicitPairs.j2 : Nat → List Int → Int → List Int → List Int → List Int → Bool → Int → Int → List Int → Int → Int → Option (Bool)
  | 0, _, _, _, _, _, _, _, _, _, _, _ => none
  | k + 1, x0, x1, x5, x6, x8, x9, x10, x11, x52, x53, x54 => if x11 = 21 then (colophonlaw07_ExplicitPairs.j3 k x0 x1 x5 x6 x8 x9 x10 x11 x52 x53 x54 true) else (if x11 = 20 then (colophonlaw07_ExplicitPairs.j3 k x0 x1 x5 x6 x8 x9 x10 x11 x52 x53 x54 true) else (colophonlaw07_ExplicitPairs.j3 k x0 x1 x5 x6 x8 x9 x10 x11 x52 x53 x54 (x11 == 22)))
def colophonlaw07_ExplicitPairs.j3 : Nat → List Int → Int → List Int → List Int → List Int → Bool → Int → Int → List Int → Int → Int → Bool → Option (Bool)
  | 0, _, _, _, _, _, _, _, _, _, _, _, _ => none
  | k + 1, x0, x1, x5, x6, x8, x9, x10, x11, x52, x53, x54, x85 => if x85 = true then (if 0 ≤ x10 then (if x10 < (x8.length : Int) then (if (rd x8 x10) < (x0.length : Int) then (if 0 ≤ (rd x8 x10) then (if (rd x8 x10) < (x5.length : Int) then (if x10 < (x5.length : Int) then (if (rd x5 (rd x8 x10)) = (rd x5 x10) then (if x10 < (x6.length : Int) then (if (rd x8 x10) < (x6.length : Int) then (if (((rd x6 x10) == x11) != ((rd x6 (rd x8 x10)) == 23)) = true then (some false) else (if (rd x6 x10) = x11 then (colophonlaw07_ExplicitPairs.l0 k x0 x1 x5 x6 x8 false x52 x53 (wrap64 (x54 + 1))) else (if (rd x6 x10) = (rd x6 (rd x8 x10)) then (colophonlaw07_ExplicitPairs.l0 k x0 x1 x5 x6 x8 false x52 x53 (wrap64 (x54 + 1))) else (some false)))) else (none)) else (none)) else (some false)) else (none)) else (none)) else (none)) else (colophonlaw07_ExplicitPairs.l0 k x0 x1 x5 x6 x8 false x52 x53 (wrap64 (x54 + 1)))) else (none)) else (none)) else (colophonlaw07_ExplicitPairs.l0 k x0 x1 x5 x6 x8 x9 x52 x53 (wrap64 (x54 + 1)))
def colophonlaw07_ExplicitPairs.l1 : Nat → List Int → Int → List Int → List Int → Bool → Int → Option (Bool)
  | 0, _, _, _, _, _, _ => none
  | k + 1, x0, x1, x5, x6, x9, x13 => if x13 < (x0.length : Int) then (colophonlaw07_ExplicitPairs.j5 k x0 x1 x5 x6 x9 x13 x9) else (colophonlaw07_ExplicitPairs.j5 k x0 x1 x5 x6 x9 x13 false)
def colophonlaw07_ExplicitPairs.j5 : Nat → List Int → Int → List Int → List Int → Bool → Int → Bool → Option (Bool)
  | 0, _, _, _, _, _, _, _ => none
  | k + 1, x0, x1, x5, x6, x9, x13, x145 => if x145 = true then (if 0 ≤ x13 then (if x13 < (x5.length : Int) then (if (rd x5 x13) = x1 then (if x13 < (x6.length : Int) then (if x13 < (x0.length : Int) then (if (rd x6 x13) = (rd x0 x13) then (colophonlaw07_ExplicitPairs.l1 k x0 x1 x5 x6 x9 (wrap64 (x13 + 1))) else (some false)) else (none)) else (none)) else (if (rd x5 x13) = (-1) then (if x13 < (x6.length : Int) then (if x13 < (x0.length : Int) then (if (rd x6 x13) = (rd x0 x13) then (colophonlaw07_ExplicitPairs.l1 k x0 x1 x5 x6 x9 (wrap64 (x13 + 1))) else (some false)) else (none)) else (none)) else (some false))) else (none)) else (none)) else (some true)
end
def colophonlaw07_ExplicitPairs.f (k : Nat) (l0 : List Int) (a1 : Int) : Option (Bool) := (colophonlaw07_works.f k).bind fun t192 => (if t192 = true then (if (l0.length : Int) > 2000 then (some true) else ((explicit_Resolve.f l0 a1).bind fun bt193 => (if bt193.2.2 = 0 then ((isolate_Match.f k l0).bind fun t200 => (if (t200.length : Int) = (l0.length : Int) then (if (bt193.1.length : Int) = (l0.length : Int) then (colophonlaw07_ExplicitPairs.j0 k l0 a1 bt193.1 bt193.2.1 t200 ((bt193.2.1.length : Int) != (l0.length : Int))) else (colophonlaw07_ExplicitPairs.j0 k l0 a1 bt193.1 bt193.2.1 t200 true)) else (colophonlaw07_ExplicitPairs.j0 k l0 a1 bt193.1 bt193.2.1 t200 true))) else (some ((bt193.1.length : Int) == 0))))) else (some false))
theorem colophonlaw07_ExplicitPairs.mono_l : ∀ k, (∀ y0 y1 y2 y3 y4 y5, LeO (colophonlaw07_ExplicitPairs.j0 k y0 y1 y2 y3 y4 y5) (colophonlaw07_ExplicitPairs.j0 (k + 1) y0 y1 y2 y3 y4 y5)) ∧ (∀ y0 y1 y2 y3 y4 y5 y6 y7 y8, LeO (colophonlaw07_ExplicitPairs.l0 k y0 y1 y2 y3 y4 y5 y6 y7 y8) (colophonlaw07_ExplicitPairs.l0 (k + 1) y0 y1 y2 y3 y4 y5 y6 y7 y8)) ∧ (∀ y0 y1 y2 y3 y4 y5 y6 y7 y8 y9 y10, LeO (colophonlaw07_ExplicitPairs.j2 k y0 y1 y2 y3 y4 y5 y6 y7 y8 y9 y10) (colophonlaw07_ExplicitPairs.j2 (k + 1) y0 y1 y2 y3 y4 y5 y6 y7 y8 y9 y10)) ∧ (∀ y0 y1 y2 y3 y4 y5 y6 y7 y8 y9 y10 y11, LeO (colophonlaw07_ExplicitPairs.j3 k y0 y1 y2 y3 y4 y5 y6 y7 y8 y9 y10 y11) (colophonlaw07_ExplicitPairs.j3 (k + 1) y0 y1 y2 y3 y4 y5 y6 y7 y8 y9 y10 y11)) ∧ (∀ y0 y1 y2 y3 y4 y5, LeO (colophonlaw07_ExplicitPairs.l1 k y0 y1 y2 y3 y4 y5) (colophonlaw07_ExplicitPairs.l1 (k + 1) y0 y1 y2 y3 y4 y5)) ∧ (∀ y0 y1 y2 y3 y4 y5 y6, LeO (colophonlaw07_ExplicitPairs.j5 k y0 y1 y2 y3 y4 y5 y6) (colophonlaw07_ExplicitPairs.j5 (k + 1) y0 y1 y2 y3 y4 y5 y6))
  | 0 => ⟨fun _ _ _ _ _ _ r h => by simp [colophonlaw07_ExplicitPairs.j0] at h, fun _ _ _ _ _ _ _ _ _ r h => by simp [colophonlaw07_ExplicitPairs.l0] at h, fun _ _ _ _ _ _ _ _ _ _ _ r h => by simp [colophonlaw07_ExplicitPairs.j2] at h, fun _ _ _ _ _ _ _ _ _ _ _ _ r h => by simp [colophonlaw07_ExplicitPairs.j3] at h, fun _ _ _ _ _ _ r h => by simp [colophonlaw07_ExplicitPairs.l1] at h, fun _ _ _ _ _ _ _ r h => by simp [colophonlaw07_ExplicitPairs.j5] at h⟩
  | k + 1 => by
    obtain ⟨ih0, ih1, ih2, ih3, ih4, ih5⟩ := colophonlaw07_ExplicitPairs.mono_l k
    refine ⟨?_, ?_, ?_, ?_, ?_, ?_⟩
    · intro y0 y1 y2 y3 y4 y5
      unfold colophonlaw07_ExplicitPairs.j0
      repeat' first
      | (with_reducible exact ih0 _ _ _ _ _ _)
      | (with_reducible exact ih1 _ _ _ _ _ _ _ _ _)
      | (with_reducible exact ih2 _ _ _ _ _ _ _ _ _ _ _)
      | (with_reducible exact ih3 _ _ _ _ _ _ _ _ _ _ _ _)
      | (with_reducible exact ih4 _ _ _ _ _ _)
      | (with_reducible exact ih5 _ _ _ _ _ _ _)
      | (with_reducible exact colophonlaw07_works.mono _)
      | (with_reducible exact isolate_Match.mono _ _)
      | (with_reducible exact LeO.refl _)
      | (with_reducible exact LeO.none _)
      | (with_reducible refine LeO.ite ?_ ?_)
      | (with_reducible refine LeO.bind ?_ (fun _ => ?_))
      | exact ih0 _ _ _ _ _ _
      | exact ih1 _ _ _ _ _ _ _ _ _
      | exact ih2 _ _ _ _ _ _ _ _ _ _ _
      | exact ih3 _ _ _ _ _ _ _ _ _ _ _ _
      | exact ih4 _ _ _ _ _ _
      | exact ih5 _ _ _ _ _ _ _
      | exact colophonlaw07_works.mono _
      | exact isolate_Match.mono _ _
      | exact LeO.none _
      | refine LeO.ite ?_ ?_
      | refine LeO.bind ?_ (fun _ => ?_)
    · intro y0 y1 y2 y3 y4 y5 y6 y7 y8
      unfold colophonlaw07_ExplicitPairs.l0
      repeat' first
      | (with_reducible exact ih0 _ _ _ _ _ _)
      | (with_reducible exact ih1 _ _ _ _ _ _ _ _ _)
      | (with_reducible exact ih2 _ _ _ _ _ _ _ _ _ _ _)
      | (with_reducible exact ih3 _ _ _ _ _ _ _ _ _ _ _ _)
      | (with_reducible exact ih4 _ _ _ _ _ _)
      | (with_reducible exact ih5 _ _ _ _ _ _ _)
      | (with_reducible exact colophonlaw07_works.mono _)
      | (with_reducible exact isolate_Match.mono _ _)
      | (with_reducible exact LeO.refl _)
      | (with_reducible exact LeO.none _)
      | (with_reducible refine LeO.ite ?_ ?_)
      | (with_reducible refine LeO.bind ?_ (fun _ => ?_))
      | exact ih0 _ _ _ _ _ _
      | exact ih1 _ _ _ _ _ _ _ _ _
      | exact ih2 _ _ _ _ _ _ _ _ _ _ _
      | exact ih3 _ _ _ _ _ _ _ _ _ _ _ _
      | exact ih4 _ _ _ _ _ _
      | exact ih5 _ _ _ _ _ _ _
      | exact colophonlaw07_works.mono _
      | exact isolate_Match.mono _ _
      | exact LeO.none _
      | refine LeO.ite ?_ ?_
      | refine LeO.bind ?_ (fun _ => ?_)
    · intro y0 y1 y2 y3 y4 y5 y6 y7 y8 y9 y10
      unfold colophonlaw07_ExplicitPairs.j2
      repeat' first
      | (with_reducible exact ih0 _ _ _ _ _ _)
      | (with_reducible exact ih1 _ _ _ _ _ _ _ _ _)
      | (with_reducible exact ih2 _ _ _ _ _ _ _ _ _ _ _)
      | (with_reducible exact ih3 _ _ _ _ _ _ _ _ _ _ _ _)
      | (with_reducible exact ih4 _ _ _ _ _ _)
      | (with_reducible exact ih5 _ _ _ _ _ _ _)
      | (with_reducible exact colophonlaw07_works.mono _)
      | (with_reducible exact isolate_Match.mono _ _)
      | (with_reducible exact LeO.refl _)
      | (with_reducible exact LeO.none _)
      | (with_reducible refine LeO.ite ?_ ?_)
      | (with_reducible refine LeO.bind ?_ (fun _ => ?_))
      | exact ih0 _ _ _ _ _ _
      | exact ih1 _ _ _ _ _ _ _ _ _
      | exact ih2 _ _ _ _ _ _ _ _ _ _ _
      | exact ih3 _ _ _ _ _ _ _ _ _ _ _ _
      | exact ih4 _ _ _ _ _ _
      | exact ih5 _ _ _ _ _ _ _
      | exact colophonlaw07_works.mono _
      | exact isolate_Match.mono _ _
      | exact LeO.none _
      | refine LeO.ite ?_ ?_
      | refine LeO.bind ?_ (fun _ => ?_)
    · intro y0 y1 y2 y3 y4 y5 y6 y7 y8 y9 y10 y11
      unfold colophonlaw07_ExplicitPairs.j3
      repeat' first
      | (with_reducible exact ih0 _ _ _ _ _ _)
      | (with_reducible exact ih1 _ _ _ _ _ _ _ _ _)
      | (with_reducible exact ih2 _ _ _ _ _ _ _ _ _ _ _)
      | (with_reducible exact ih3 _ _ _ _ _ _ _ _ _ _ _ _)
      | (with_reducible exact ih4 _ _ _ _ _ _)
      | (with_reducible exact ih5 _ _ _ _ _ _ _)
      | (with_reducible exact colophonlaw07_works.mono _)
      | (with_reducible exact isolate_Match.mono _ _)
      | (with_reducible exact LeO.refl _)
      | (with_reducible exact LeO.none _)
      | (with_reducible refine LeO.ite ?_ ?_)
      | (with_reducible refine LeO.bind ?_ (fun _ => ?_))
      | exact ih0 _ _ _ _ _ _
      | exact ih1 _ _ _ _ _ _ _ _ _
      | exact ih2 _ _ _ _ _ _ _ _ _ _ _
      | exact ih3 _ _ _ _ _ _ _ _ _ _ _ _
      | exact ih4 _ _ _ _ _ _
      | exact ih5 _ _ _ _ _ _ _
      | exact colophonlaw07_works.mono _
      | exact isolate_Match.mono _ _
      | exact LeO.none _
      | refine LeO.ite ?_ ?_
      | refine LeO.bind ?_ (fun _ => ?_)
    · intro y0 y1 y2 y3 y4 y5
      unfold colophonlaw07_ExplicitPairs.l1
      repeat' first
      | (with_reducible exact ih0 _ _ _ _ _ _)
      | (with_reducible exact ih1 _ _ _ _ _ _ _ _ _)
      | (with_reducible exact ih2 _ _ _ _ _ _ _ _ _ _ _)
      | (with_reducible exact ih3 _ _ _ _ _ _ _ _ _ _ _ _)
      | (with_reducible exact ih4 _ _ _ _ _ _)
      | (with_reducible exact ih5 _ _ _ _ _ _ _)
      | (with_reducible exact colophonlaw07_works.mono _)
      | (with_reducible exact isolate_Match.mono _ _)
      | (with_reducible exact LeO.refl _)
      | (with_reducible exact LeO.none _)
      | (with_reducible refine LeO.ite ?_ ?_)
      | (with_reducible refine LeO.bind ?_ (fun _ => ?_))
      | exact ih0 _ _ _ _ _ _
      | exact ih1 _ _ _ _ _ _ _ _ _
      | exact ih2 _ _ _ _ _ _ _ _ _ _ _
      | exact ih3 _ _ _ _ _ _ _ _ _ _ _ _
      | exact ih4 _ _ _ _ _ _
      | exact ih5 _ _ _ _ _ _ _
      | exact colophonlaw07_works.mono _
      | exact isolate_Match.mono _ _
      | exact LeO.none _
      | refine LeO.ite ?_ ?_
      | refine LeO.bind ?_ (fun _ => ?_)
    · intro y0 y1 y2 y3 y4 y5 y6
      unfold colophonlaw07_ExplicitPairs.j5
      repeat' first
      | (with_reducible exact ih0 _ _ _ _ _ _)
      | (with_reducible exact ih1 _ _ _ _ _ _ _ _ _)
      | (with_reducible exact ih2 _ _ _ _ _ _ _ _ _ _ _)
      | (with_reducible exact ih3 _ _ _ _ _ _ _ _ _ _ _ _)
      | (with_reducible exact ih4 _ _ _ _ _ _)
      | (with_reducible exact ih5 _ _ _ _ _ _ _)
      | (with_reducible exact colophonlaw07_works.mono _)
      | (with_reducible exact isolate_Match.mono _ _)
      | (with_reducible exact LeO.refl _)
      | (with_reducible exact LeO.none _)
      | (with_reducible refine LeO.ite ?_ ?_)
      | (with_reducible refine LeO.bind ?_ (fun _ => ?_))
      | exact ih0 _ _ _ _ _ _
      | exact ih1 _ _ _ _ _ _ _ _ _
      | exact ih2 _ _ _ _ _ _ _ _ _ _ _
      | exact ih3 _ _ _ _ _ _ _ _ _ _ _ _
      | exact ih4 _ _ _ _ _ _
      | exact ih5 _ _ _ _ _ _ _
      | exact colophonlaw07_works.mono _
      | exact isolate_Match.mono _ _
      | exact LeO.none _
      | refine LeO.ite ?_ ?_
      | refine LeO.bind ?_ (fun _ => ?_)
theorem colophonlaw07_ExplicitPairs.mono : ∀ a0 a1 k, LeO (colophonlaw07_ExplicitPairs.f k a0 a1) (colophonlaw07_ExplicitPairs.f (k + 1) a0 a1) := by
  intro a0 a1 k
  obtain ⟨ih0, ih1, ih2, ih3, ih4, ih5⟩ := colophonlaw07_ExplicitPairs.mono_l k
  unfold colophonlaw07_ExplicitPairs.f
  repeat' first
      | (with_reducible exact ih0 _ _ _ _ _ _)
      | (with_reducible exact ih1 _ _ _ _ _ _ _ _ _)
      | (with_reducible exact ih2 _ _ _ _ _ _ _ _ _ _ _)
      | (with_reducible exact ih3 _ _ _ _ _ _ _ _ _ _ _ _)
      | (with_reducible exact ih4 _ _ _ _ _ _)
      | (with_reducible exact ih5 _ _ _ _ _ _ _)
      | (with_reducible exact colophonlaw07_works.mono _)
      | (with_reducible exact isolate_Match.mono _ _)
      | (with_reducible exact LeO.refl _)
      | (with_reducible exact LeO.none _)
      | (with_reducible refine LeO.ite ?_ ?_)
      | (with_reducible refine LeO.bind ?_ (fun _ => ?_))
      | exact ih0 _ _ _ _ _ _
      | exact ih1 _ _ _ _ _ _ _ _ _
      | exact ih2 _ _ _ _ _ _ _ _ _ _ _
      | exact ih3 _ _ _ _ _ _ _ _ _ _ _ _
      | exact ih4 _ _ _ _ _ _
      | exact ih5 _ _ _ _ _ _ _
      | exact colophonlaw07_works.mono _
      | exact isolate_Match.mono _ _
      | exact LeO.none _
      | refine LeO.ite ?_ ?_
      | refine LeO.bind ?_ (fun _ => ?_)
set_option maxHeartbeats 8000000 in
set_option maxRecDepth 100000 in
theorem colophonlaw07_ExplicitPairs.calls (k : Nat) (A0 : Option Addr) (c0 : Nat) (l0 : List Int) (a1 : Int) (r : Bool) (w : World) (hr0 : Kd.C (Kd.int .i64) w A0 l0.length l0) (hc0 : l0.length ≤ c0) (h : colophonlaw07_ExplicitPairs.f k l0 a1 = some r) :
    Calls Try.prog 4 #[.slice A0 l0.length c0, .int .i64 a1] w fun e w' => e = .returned (.bool r) ∧ Below w.heap.size w w' := by
  have HR0 := Aside0.mk hr0
  have HC0 := Aside0.mk hc0
  clear hr0 hc0
  have HB := Aside0.mk (Below.refl w.heap.size w)
  have H : ((colophonlaw07_works.f k).bind fun t192 => (if t192 = true then (if (l0.length : Int) > 2000 then (some true) else ((explicit_Resolve.f l0 a1).bind fun bt193 => (if bt193.2.2 = 0 then ((isolate_Match.f k l0).bind fun t200 => (if (t200.length : Int) = (l0.length : Int) then (if (bt193.1.length : Int) = (l0.length : Int) then (colophonlaw07_ExplicitPairs.j0 k l0 a1 bt193.1 bt193.2.1 t200 ((bt193.2.1.length : Int) != (l0.length : Int))) else (colophonlaw07_ExplicitPairs.j0 k l0 a1 bt193.1 bt193.2.1 t200 true)) else (colophonlaw07_ExplicitPairs.j0 k l0 a1 bt193.1 bt193.2.1 t200 true))) else (some ((bt193.1.length : Int) == 0))))) else (some false))) = some r := h
  clear h
  replace H := Option.bind_eq_some_iff.mp H
  obtain ⟨t192, A30, H⟩ := H
  replace H : (if t192 = true then (if (l0.length : Int) > 2000 then (some true) else ((explicit_Resolve.f l0 a1).bind fun bt193 => (if bt193.2.2 = 0 then ((isolate_Match.f k l0).bind fun t200 => (if (t200.length : Int) = (l0.length : Int) then (if (bt193.1.length : Int) = (l0.length : Int) then (colophonlaw07_ExplicitPairs.j0 k l0 a1 bt193.1 bt193.2.1 t200 ((bt193.2.1.length : Int) != (l0.length : Int))) else (colophonlaw07_ExplicitPairs.j0 k l0 a1 bt193.1 bt193.2.1 t200 true)) else (colophonlaw07_ExplicitPairs.j0 k l0 a1 bt193.1 bt193.2.1 t200 true))) else (some ((bt193.1.length : Int) == 0))))) else (some false)) = some r := H
  have A3 := Aside0.mk A30
  clear A30
  by_cases c4 : t192 = true
  · as_aux_lemma =>
    subst c4
    have H1 : (if (l0.length : Int) > 2000 then (some true) else ((explicit_Resolve.f l0 a1).bind fun bt193 => (if bt193.2.2 = 0 then ((isolate_Match.f k l0).bind fun t200 => (if (t200.length : Int) = (l0.length : Int) then (if (bt193.1.length : Int) = (l0.length : Int) then (colophonlaw07_ExplicitPairs.j0 k l0 a1 bt193.1 bt193.2.1 t200 ((bt193.2.1.length : Int) != (l0.length : Int))) else (colophonlaw07_ExplicitPairs.j0 k l0 a1 bt193.1 bt193.2.1 t200 true)) else (colophonlaw07_ExplicitPairs.j0 k l0 a1 bt193.1 bt193.2.1 t200 true))) else (some ((bt193.1.length : Int) == 0))))) = some r := by rw [if_pos rfl] at H; exact H
    clear H
    have H := H1
    clear H1
    by_cases c5 : (l0.length : Int) > 2000
    · rw [if_pos c5] at H
      have c5b0 : decide (2000 < (l0.length : Int)) = true := decide_eq_true c5
      have c5b1 : decide (2000 < l0.length) = true := decide_eq_true (by omega)
      clear c5
      obtain rfl := Option.some.inj H
      go_enter Try.func4, Try.ntmps4
      go_wp2_with (first | (go_at_call 9; (with_reducible refine (colophonlaw07_works.calls k  true _ A3.out).mono ?_); rintro e w6 ⟨rfl, hb⟩; have n0_ := Aside0.mk (below_step (by repeat (first | (with_reducible first | exact HB.out | apply below_alloc | apply pw_below_drewN | apply below_drew1) | exact HB.out)) hb); clear HB; have HB := n0_; clear n0_; (try clear hb); (try clear hb2); (try clear hk); (try clear hi)))
      repeat (go_quiet (first | (go_at_call 9; (with_reducible refine (colophonlaw07_works.calls k  true _ A3.out).mono ?_); rintro e w6 ⟨rfl, hb⟩; have n0_ := Aside0.mk (below_step (by repeat (first | (with_reducible first | exact HB.out | apply below_alloc | apply pw_below_drewN | apply below_drew1) | exact HB.out)) hb); clear HB; have HB := n0_; clear n0_; (try clear hb); (try clear hb2); (try clear hk); (try clear hi))); try go_wp2_with (first | (go_at_call 9; (with_reducible refine (colophonlaw07_works.calls k  true _ A3.out).mono ?_); rintro e w6 ⟨rfl, hb⟩; have n0_ := Aside0.mk (below_step (by repeat (first | (with_reducible first | exact HB.out | apply below_alloc | apply pw_below_drewN | apply below_drew1) | exact HB.out)) hb); clear HB; have HB := n0_; clear n0_; (try clear hb); (try clear hb2); (try clear hk); (try clear hi))))
      go_ret
      exact ⟨by first | rfl | (simp [errW_none, errW_some] <;> rfl) | (simp [*, errW_none, errW_some] <;> rfl), by repeat (first | (with_reducible first | exact HB.out | apply below_alloc | apply pw_below_drewN | apply below_drew1) | exact HB.out)⟩
    · as_aux_lemma =>
      rw [if_neg c5] at H
      have c5b0 : decide (2000 < (l0.length : Int)) = false := decide_eq_false c5
      have c5b1 : decide (2000 < l0.length) = false := decide_eq_false (by omega)
      clear c5
      replace H := Option.bind_eq_some_iff.mp H
      obtain ⟨⟨t193, t194, t195⟩, A70, H⟩ := H
      replace H : (if t195 = 0 then ((isolate_Match.f k l0).bind fun t200 => (if (t200.length : Int) = (l0.length : Int) then (if (t193.length : Int) = (l0.length : Int) then (colophonlaw07_ExplicitPairs.j0 k l0 a1 t193 t194 t200 ((t194.length : Int) != (l0.length : Int))) else (colophonlaw07_ExplicitPairs.j0 k l0 a1 t193 t194 t200 true)) else (colophonlaw07_ExplicitPairs.j0 k l0 a1 t193 t194 t200 true))) else (some ((t193.length : Int) == 0))) = some r := H
      have A7 := Aside0.mk A70
      clear A70
      by_cases c8 : t195 = 0
      · as_aux_lemma =>
        rw [if_pos c8] at H
        have c8b0 : (t195 == 0) = true := beq_iff_eq.mpr c8
        have c8b1 : (t195 != 0) = false := bne_eq_false_iff_eq.mpr c8
        clear c8
        replace H := Option.bind_eq_some_iff.mp H
        obtain ⟨t200, A90, H⟩ := H
        replace H : (if (t200.length : Int) = (l0.length : Int) then (if (t193.length : Int) = (l0.length : Int) then (colophonlaw07_ExplicitPairs.j0 k l0 a1 t193 t194 t200 ((t194.length : Int) != (l0.length : Int))) else (colophonlaw07_ExplicitPairs.j0 k l0 a1 t193 t194 t200 true)) else (colophonlaw07_ExplicitPairs.j0 k l0 a1 t193 t194 t200 true)) = some r := H
        have A9 := Aside0.mk A90
        clear A90
        have HC10 := Aside0.mk H
        clear H
        go_enter Try.func4, Try.ntmps4
        go_upto_region 9 with (first | (go_at_call 9; (with_reducible refine (colophonlaw07_works.calls k  true _ A3.out).mono ?_); rintro e w11 ⟨rfl, hb⟩; have n0_ := Aside0.mk (below_step (by repeat (first | (with_reducible first | exact HB.out | apply below_alloc | apply pw_below_drewN | apply below_drew1) | exact HB.out)) hb); clear HB; have HB := n0_; clear n0_; (try clear hb); (try clear hb2); (try clear hk); (try clear hi)) | (go_at_call 10; (with_reducible refine (explicit_Resolve.calls _ _ l0 a1 t193 t194 t195 _ ?side1 ?side2 A7.out).mono ?_); (case side1 => repeat (first | exact (Kd.C_below HR0.out HB.out) | (with_reducible refine Kd.C_alloc ?_ _) | (with_reducible refine Kd.C_drewN ?_ _) | (with_reducible refine Kd.C_drew ?_))); (case side2 => exact HC0.out); rintro e w12 ⟨v196, v198, rfl, ho0, ho1, hb⟩; have n0_ := Aside0.mk (Kd.R_lower ho0 (below_size (by repeat (first | (with_reducible first | exact HB.out | apply below_alloc | apply pw_below_drewN | apply below_drew1) | exact HB.out)))); have n1_ := Aside0.mk (Kd.R_lower ho1 (below_size (by repeat (first | (with_reducible first | exact HB.out | apply below_alloc | apply pw_below_drewN | apply below_drew1) | exact HB.out)))); have n2_ := Aside0.mk (below_step (by repeat (first | (with_reducible first | exact HB.out | apply below_alloc | apply pw_below_drewN | apply below_drew1) | exact HB.out)) hb); clear HB; have HO197 := n0_; have HO199 := n1_; have HB := n2_; clear n0_ n1_ n2_; (try clear hb); (try clear hb2); (try clear hk); (try clear hi); (try clear ho0); (try clear ho1)) | (go_at_call 13; (with_reducible refine (isolate_Match.calls k _ _ l0 t200 _ ?side1 ?side2 A9.out).mono ?_); (case side1 => repeat (first | exact (Kd.C_below HR0.out HB.out) | (with_reducible refine Kd.C_alloc ?_ _) | (with_reducible refine Kd.C_drewN ?_ _) | (with_reducible refine Kd.C_drew ?_))); (case side2 => exact HC0.out); rintro e w13 ⟨v201, rfl, ho0, hb⟩; have n0_ := Aside0.mk (Kd.R_elder' (by (with_reducible repeat (first | apply Kd.R_alloc | apply Kd.R_drewN | apply Kd.R_drew)); (first | exact HO197.out | exact Kd.R_mono HO197.out (fun _ hk => ⟨trivial, hk⟩) | exact Kd.R_mono HO197.out (fun _ hk => hk.2) | exact Kd.R_mono HO197.out (fun _ hk => ⟨trivial, hk.2⟩))) (Kd.R_base ho0) hb); have n1_ := Aside0.mk (Kd.R_elder' (by (with_reducible repeat (first | apply Kd.R_alloc | apply Kd.R_drewN | apply Kd.R_drew)); (first | exact HO199.out | exact Kd.R_mono HO199.out (fun _ hk => ⟨trivial, hk⟩) | exact Kd.R_mono HO199.out (fun _ hk => hk.2) | exact Kd.R_mono HO199.out (fun _ hk => ⟨trivial, hk.2⟩))) (Kd.R_base ho0) hb); have n2_ := Aside0.mk (Kd.R_lower (Kd.R_new' (Kd.R_new' ho0 (Kd.R_lt (by (with_reducible repeat (first | apply Kd.R_alloc | apply Kd.R_drewN | apply Kd.R_drew)); (first | exact HO197.out | exact Kd.R_mono HO197.out (fun _ hk => ⟨trivial, hk⟩) | exact Kd.R_mono HO197.out (fun _ hk => hk.2) | exact Kd.R_mono HO197.out (fun _ hk => ⟨trivial, hk.2⟩))))) (Kd.R_lt (by (with_reducible repeat (first | apply Kd.R_alloc | apply Kd.R_drewN | apply Kd.R_drew)); (first | exact HO199.out | exact Kd.R_mono HO199.out (fun _ hk => ⟨trivial, hk⟩) | exact Kd.R_mono HO199.out (fun _ hk => hk.2) | exact Kd.R_mono HO199.out (fun _ hk => ⟨trivial, hk.2⟩))))) (below_size (by repeat (first | (with_reducible first | exact HB.out | apply below_alloc | apply pw_below_drewN | apply below_drew1) | exact HB.out)))); have n3_ := Aside0.mk (below_step (by repeat (first | (with_reducible first | exact HB.out | apply below_alloc | apply pw_below_drewN | apply below_drew1) | exact HB.out)) hb); clear HO197; clear HO199; clear HB; have HO197 := n0_; have HO199 := n1_; have HO202 := n2_; have HB := n3_; clear n0_ n1_ n2_ n3_; (try clear hb); (try clear hb2); (try clear hk); (try clear hi); (try clear ho0)))
        repeat (go_quiet (first | (go_at_call 9; (with_reducible refine (colophonlaw07_works.calls k  true _ A3.out).mono ?_); rintro e w11 ⟨rfl, hb⟩; have n0_ := Aside0.mk (below_step (by repeat (first | (with_reducible first | exact HB.out | apply below_alloc | apply pw_below_drewN | apply below_drew1) | exact HB.out)) hb); clear HB; have HB := n0_; clear n0_; (try clear hb); (try clear hb2); (try clear hk); (try clear hi)) | (go_at_call 10; (with_reducible refine (explicit_Resolve.calls _ _ l0 a1 t193 t194 t195 _ ?side1 ?side2 A7.out).mono ?_); (case side1 => repeat (first | exact (Kd.C_below HR0.out HB.out) | (with_reducible refine Kd.C_alloc ?_ _) | (with_reducible refine Kd.C_drewN ?_ _) | (with_reducible refine Kd.C_drew ?_))); (case side2 => exact HC0.out); rintro e w12 ⟨v196, v198, rfl, ho0, ho1, hb⟩; have n0_ := Aside0.mk (Kd.R_lower ho0 (below_size (by repeat (first | (with_reducible first | exact HB.out | apply below_alloc | apply pw_below_drewN | apply below_drew1) | exact HB.out)))); have n1_ := Aside0.mk (Kd.R_lower ho1 (below_size (by repeat (first | (with_reducible first | exact HB.out | apply below_alloc | apply pw_below_drewN | apply below_drew1) | exact HB.out)))); have n2_ := Aside0.mk (below_step (by repeat (first | (with_reducible first | exact HB.out | apply below_alloc | apply pw_below_drewN | apply below_drew1) | exact HB.out)) hb); clear HB; have HO197 := n0_; have HO199 := n1_; have HB := n2_; clear n0_ n1_ n2_; (try clear hb); (try clear hb2); (try clear hk); (try clear hi); (try clear ho0); (try clear ho1)) | (go_at_call 13; (with_reducible refine (isolate_Match.calls k _ _ l0 t200 _ ?side1 ?side2 A9.out).mono ?_); (case side1 => repeat (first | exact (Kd.C_below HR0.out HB.out) | (with_reducible refine Kd.C_alloc ?_ _) | (with_reducible refine Kd.C_drewN ?_ _) | (with_reducible refine Kd.C_drew ?_))); (case side2 => exact HC0.out); rintro e w13 ⟨v201, rfl, ho0, hb⟩; have n0_ := Aside0.mk (Kd.R_elder' (by (with_reducible repeat (first | apply Kd.R_alloc | apply Kd.R_drewN | apply Kd.R_drew)); (first | exact HO197.out | exact Kd.R_mono HO197.out (fun _ hk => ⟨trivial, hk⟩) | exact Kd.R_mono HO197.out (fun _ hk => hk.2) | exact Kd.R_mono HO197.out (fun _ hk => ⟨trivial, hk.2⟩))) (Kd.R_base ho0) hb); have n1_ := Aside0.mk (Kd.R_elder' (by (with_reducible repeat (first | apply Kd.R_alloc | apply Kd.R_drewN | apply Kd.R_drew)); (first | exact HO199.out | exact Kd.R_mono HO199.out (fun _ hk => ⟨trivial, hk⟩) | exact Kd.R_mono HO199.out (fun _ hk => hk.2) | exact Kd.R_mono HO199.out (fun _ hk => ⟨trivial, hk.2⟩))) (Kd.R_base ho0) hb); have n2_ := Aside0.mk (Kd.R_lower (Kd.R_new' (Kd.R_new' ho0 (Kd.R_lt (by (with_reducible repeat (first | apply Kd.R_alloc | apply Kd.R_drewN | apply Kd.R_drew)); (first | exact HO197.out | exact Kd.R_mono HO197.out (fun _ hk => ⟨trivial, hk⟩) | exact Kd.R_mono HO197.out (fun _ hk => hk.2) | exact Kd.R_mono HO197.out (fun _ hk => ⟨trivial, hk.2⟩))))) (Kd.R_lt (by (with_reducible repeat (first | apply Kd.R_alloc | apply Kd.R_drewN | apply Kd.R_drew)); (first | exact HO199.out | exact Kd.R_mono HO199.out (fun _ hk => ⟨trivial, hk⟩) | exact Kd.R_mono HO199.out (fun _ hk => hk.2) | exact Kd.R_mono HO199.out (fun _ hk => ⟨trivial, hk.2⟩))))) (below_size (by repeat (first | (with_reducible first | exact HB.out | apply below_alloc | apply pw_below_drewN | apply below_drew1) | exact HB.out)))); have n3_ := Aside0.mk (below_step (by repeat (first | (with_reducible first | exact HB.out | apply below_alloc | apply pw_below_drewN | apply below_drew1) | exact HB.out)) hb); clear HO197; clear HO199; clear HB; have HO197 := n0_; have HO199 := n1_; have HO202 := n2_; have HB := n3_; clear n0_ n1_ n2_ n3_; (try clear hb); (try clear hb2); (try clear hk); (try clear hi); (try clear ho0))); go_upto_region 9 with (first | (go_at_call 9; (with_reducible refine (colophonlaw07_works.calls k  true _ A3.out).mono ?_); rintro e w11 ⟨rfl, hb⟩; have n0_ := Aside0.mk (below_step (by repeat (first | (with_reducible first | exact HB.out | apply below_alloc | apply pw_below_drewN | apply below_drew1) | exact HB.out)) hb); clear HB; have HB := n0_; clear n0_; (try clear hb); (try clear hb2); (try clear hk); (try clear hi)) | (go_at_call 10; (with_reducible refine (explicit_Resolve.calls _ _ l0 a1 t193 t194 t195 _ ?side1 ?side2 A7.out).mono ?_); (case side1 => repeat (first | exact (Kd.C_below HR0.out HB.out) | (with_reducible refine Kd.C_alloc ?_ _) | (with_reducible refine Kd.C_drewN ?_ _) | (with_reducible refine Kd.C_drew ?_))); (case side2 => exact HC0.out); rintro e w12 ⟨v196, v198, rfl, ho0, ho1, hb⟩; have n0_ := Aside0.mk (Kd.R_lower ho0 (below_size (by repeat (first | (with_reducible first | exact HB.out | apply below_alloc | apply pw_below_drewN | apply below_drew1) | exact HB.out)))); have n1_ := Aside0.mk (Kd.R_lower ho1 (below_size (by repeat (first | (with_reducible first | exact HB.out | apply below_alloc | apply pw_below_drewN | apply below_drew1) | exact HB.out)))); have n2_ := Aside0.mk (below_step (by repeat (first | (with_reducible first | exact HB.out | apply below_alloc | apply pw_below_drewN | apply below_drew1) | exact HB.out)) hb); clear HB; have HO197 := n0_; have HO199 := n1_; have HB := n2_; clear n0_ n1_ n2_; (try clear hb); (try clear hb2); (try clear hk); (try clear hi); (try clear ho0); (try clear ho1)) | (go_at_call 13; (with_reducible refine (isolate_Match.calls k _ _ l0 t200 _ ?side1 ?side2 A9.out).mono ?_); (case side1 => repeat (first | exact (Kd.C_below HR0.out HB.out) | (with_reducible refine Kd.C_alloc ?_ _) | (with_reducible refine Kd.C_drewN ?_ _) | (with_reducible refine Kd.C_drew ?_))); (case side2 => exact HC0.out); rintro e w13 ⟨v201, rfl, ho0, hb⟩; have n0_ := Aside0.mk (Kd.R_elder' (by (with_reducible repeat (first | apply Kd.R_alloc | apply Kd.R_drewN | apply Kd.R_drew)); (first | exact HO197.out | exact Kd.R_mono HO197.out (fun _ hk => ⟨trivial, hk⟩) | exact Kd.R_mono HO197.out (fun _ hk => hk.2) | exact Kd.R_mono HO197.out (fun _ hk => ⟨trivial, hk.2⟩))) (Kd.R_base ho0) hb); have n1_ := Aside0.mk (Kd.R_elder' (by (with_reducible repeat (first | apply Kd.R_alloc | apply Kd.R_drewN | apply Kd.R_drew)); (first | exact HO199.out | exact Kd.R_mono HO199.out (fun _ hk => ⟨trivial, hk⟩) | exact Kd.R_mono HO199.out (fun _ hk => hk.2) | exact Kd.R_mono HO199.out (fun _ hk => ⟨trivial, hk.2⟩))) (Kd.R_base ho0) hb); have n2_ := Aside0.mk (Kd.R_lower (Kd.R_new' (Kd.R_new' ho0 (Kd.R_lt (by (with_reducible repeat (first | apply Kd.R_alloc | apply Kd.R_drewN | apply Kd.R_drew)); (first | exact HO197.out | exact Kd.R_mono HO197.out (fun _ hk => ⟨trivial, hk⟩) | exact Kd.R_mono HO197.out (fun _ hk => hk.2) | exact Kd.R_mono HO197.out (fun _ hk => ⟨trivial, hk.2⟩))))) (Kd.R_lt (by (with_reducible repeat (first | apply Kd.R_alloc | apply Kd.R_drewN | apply Kd.R_drew)); (first | exact HO199.out | exact Kd.R_mono HO199.out (fun _ hk => ⟨trivial, hk⟩) | exact Kd.R_mono HO199.out (fun _ hk => hk.2) | exact Kd.R_mono HO199.out (fun _ hk => ⟨trivial, hk.2⟩))))) (below_size (by repeat (first | (with_reducible first | exact HB.out | apply below_alloc | apply pw_below_drewN | apply below_drew1) | exact HB.out)))); have n3_ := Aside0.mk (below_step (by repeat (first | (with_reducible first | exact HB.out | apply below_alloc | apply pw_below_drewN | apply below_drew1) | exact HB.out)) hb); clear HO197; clear HO199; clear HB; have HO197 := n0_; have HO199 := n1_; have HO202 := n2_; have HB := n3_; clear n0_ n1_ n2_ n3_; (try clear hb); (try clear hb2); (try clear hk); (try clear hi); (try clear ho0))))
        (try simp only [Act.put, List.setIfInBounds_toArray, List.set_cons_zero, List.set_cons_succ])
        go_cut [51] (fun v51 wc => ∃ (kq : Nat) (x51_9 : Bool), v51 = .bool x51_9 ∧ Aside0 (colophonlaw07_ExplicitPairs.j0 kq l0 a1 t193 t194 t200 x51_9 = some r) ∧ Aside0 (kq ≤ k) ∧ Aside0 (Kd.R (Kd.int .i64) 3 wc w.heap.size (fun k_ => some k_ ≠ (v198 : Value).ownBlock ∧ some k_ ≠ (v201 : Value).ownBlock) v196 t193) ∧ Aside0 (Kd.R (Kd.int .i64) 3 wc w.heap.size (fun k_ => some k_ ≠ (v196 : Value).ownBlock ∧ some k_ ≠ (v201 : Value).ownBlock) v198 t194) ∧ Aside0 (Kd.R (Kd.int .i64) 3 wc w.heap.size (fun k_ => some k_ ≠ (v196 : Value).ownBlock ∧ some k_ ≠ (v198 : Value).ownBlock) v201 t200) ∧ Aside0 (Below w.heap.size w wc))
        case first =>
          have H := HC10.out
          clear HC10
          by_cases c14 : (t200.length : Int) = (l0.length : Int)
          · rw [if_pos c14] at H
            have c14b0 : ((t200.length : Int) == (l0.length : Int)) = true := beq_iff_eq.mpr c14
            have c14b1 : ((t200.length : Int) != (l0.length : Int)) = false := bne_eq_false_iff_eq.mpr c14
            have c14b2 : (t200.length == l0.length) = true := by first | simpa using c14 | (simp at c14 ⊢; omega)
            clear c14
            (first | rw [c14b0] | (simp only [i64_w, i32_w]; rw [c14b0]) | skip)
            by_cases c15 : (t193.length : Int) = (l0.length : Int)
            · rw [if_pos c15] at H
              have c15b0 : ((t193.length : Int) == (l0.length : Int)) = true := beq_iff_eq.mpr c15
              have c15b1 : ((t193.length : Int) != (l0.length : Int)) = false := bne_eq_false_iff_eq.mpr c15
              have c15b2 : (t193.length == l0.length) = true := by first | simpa using c15 | (simp at c15 ⊢; omega)
              clear c15
              have H' := Aside0.mk H
              clear H
              obtain ⟨Ao16, co16, eo16⟩ := Kd.R_slice HO202.out
              subst eo16
              obtain ⟨Ao17, co17, eo17⟩ := Kd.R_slice HO197.out
              subst eo17
              obtain ⟨Ao18, co18, eo18⟩ := Kd.R_slice HO199.out
              subst eo18
              go_wp2
              repeat (go_quiet (fail); try go_wp2)
              go_meet
              case rel => exact ⟨_, (((t194.length : Int) != (l0.length : Int))), (by first | rfl | (simp; done) | (simp [*]; done)), H', ⟨by first | omega | exact Nat.le_refl _⟩, ⟨by (with_reducible repeat (first | apply Kd.R_alloc | apply Kd.R_drewN | apply Kd.R_drew)); (first | exact HO197.out | exact Kd.R_mono HO197.out (fun _ hk => ⟨trivial, hk⟩) | exact Kd.R_mono HO197.out (fun _ hk => hk.2) | exact Kd.R_mono HO197.out (fun _ hk => ⟨trivial, hk.2⟩))⟩, ⟨by (with_reducible repeat (first | apply Kd.R_alloc | apply Kd.R_drewN | apply Kd.R_drew)); (first | exact HO199.out | exact Kd.R_mono HO199.out (fun _ hk => ⟨trivial, hk⟩) | exact Kd.R_mono HO199.out (fun _ hk => hk.2) | exact Kd.R_mono HO199.out (fun _ hk => ⟨trivial, hk.2⟩))⟩, ⟨by (with_reducible repeat (first | apply Kd.R_alloc | apply Kd.R_drewN | apply Kd.R_drew)); (first | exact Kd.R_mono HO202.out (fun _ hk => ⟨hk.1.2, hk.2⟩) | exact HO202.out | exact Kd.R_mono HO202.out (fun _ hk => ⟨trivial, hk⟩) | exact Kd.R_mono HO202.out (fun _ hk => hk.2) | exact Kd.R_mono HO202.out (fun _ hk => ⟨trivial, hk.2⟩))⟩, ⟨by repeat (first | (with_reducible first | exact HB.out | apply below_alloc | apply pw_below_drewN | apply below_drew1) | exact HB.out)⟩⟩
            · rw [if_neg c15] at H
              have c15b0 : ((t193.length : Int) == (l0.length : Int)) = false := beq_eq_false_iff_ne.mpr c15
              have c15b1 : ((t193.length : Int) != (l0.length : Int)) = true := bne_iff_ne.mpr c15
              have c15b2 : (t193.length == l0.length) = false := by first | simpa using c15 | (simp at c15 ⊢; omega)
              have H' := Aside0.mk H
              clear H
              obtain ⟨Ao19, co19, eo19⟩ := Kd.R_slice HO202.out
              subst eo19
              obtain ⟨Ao20, co20, eo20⟩ := Kd.R_slice HO197.out
              subst eo20
              go_wp2
              repeat (go_quiet (fail); try go_wp2)
              go_meet
              case rel => exact ⟨_, (true), (by first | rfl | (simp; done) | (simp [*]; done)), H', ⟨by first | omega | exact Nat.le_refl _⟩, ⟨by (with_reducible repeat (first | apply Kd.R_alloc | apply Kd.R_drewN | apply Kd.R_drew)); (first | exact HO197.out | exact Kd.R_mono HO197.out (fun _ hk => ⟨trivial, hk⟩) | exact Kd.R_mono HO197.out (fun _ hk => hk.2) | exact Kd.R_mono HO197.out (fun _ hk => ⟨trivial, hk.2⟩))⟩, ⟨by (with_reducible repeat (first | apply Kd.R_alloc | apply Kd.R_drewN | apply Kd.R_drew)); (first | exact HO199.out | exact Kd.R_mono HO199.out (fun _ hk => ⟨trivial, hk⟩) | exact Kd.R_mono HO199.out (fun _ hk => hk.2) | exact Kd.R_mono HO199.out (fun _ hk => ⟨trivial, hk.2⟩))⟩, ⟨by (with_reducible repeat (first | apply Kd.R_alloc | apply Kd.R_drewN | apply Kd.R_drew)); (first | exact Kd.R_mono HO202.out (fun _ hk => ⟨hk.1.2, hk.2⟩) | exact HO202.out | exact Kd.R_mono HO202.out (fun _ hk => ⟨trivial, hk⟩) | exact Kd.R_mono HO202.out (fun _ hk => hk.2) | exact Kd.R_mono HO202.out (fun _ hk => ⟨trivial, hk.2⟩))⟩, ⟨by repeat (first | (with_reducible first | exact HB.out | apply below_alloc | apply pw_below_drewN | apply below_drew1) | exact HB.out)⟩⟩
          · rw [if_neg c14] at H
            have c14b0 : ((t200.length : Int) == (l0.length : Int)) = false := beq_eq_false_iff_ne.mpr c14
            have c14b1 : ((t200.length : Int) != (l0.length : Int)) = true := bne_iff_ne.mpr c14
            have c14b2 : (t200.length == l0.length) = false := by first | simpa using c14 | (simp at c14 ⊢; omega)
            (first | rw [c14b0] | (simp only [i64_w, i32_w]; rw [c14b0]) | skip)
            have H' := Aside0.mk H
            clear H
            obtain ⟨Ao21, co21, eo21⟩ := Kd.R_slice HO202.out
            subst eo21
            go_wp2
            repeat (go_quiet (fail); try go_wp2)
            go_meet
            case rel => exact ⟨_, (true), (by first | rfl | (simp; done) | (simp [*]; done)), H', ⟨by first | omega | exact Nat.le_refl _⟩, ⟨by (with_reducible repeat (first | apply Kd.R_alloc | apply Kd.R_drewN | apply Kd.R_drew)); (first | exact HO197.out | exact Kd.R_mono HO197.out (fun _ hk => ⟨trivial, hk⟩) | exact Kd.R_mono HO197.out (fun _ hk => hk.2) | exact Kd.R_mono HO197.out (fun _ hk => ⟨trivial, hk.2⟩))⟩, ⟨by (with_reducible repeat (first | apply Kd.R_alloc | apply Kd.R_drewN | apply Kd.R_drew)); (first | exact HO199.out | exact Kd.R_mono HO199.out (fun _ hk => ⟨trivial, hk⟩) | exact Kd.R_mono HO199.out (fun _ hk => hk.2) | exact Kd.R_mono HO199.out (fun _ hk => ⟨trivial, hk.2⟩))⟩, ⟨by (with_reducible repeat (first | apply Kd.R_alloc | apply Kd.R_drewN | apply Kd.R_drew)); (first | exact Kd.R_mono HO202.out (fun _ hk => ⟨hk.1.2, hk.2⟩) | exact HO202.out | exact Kd.R_mono HO202.out (fun _ hk => ⟨trivial, hk⟩) | exact Kd.R_mono HO202.out (fun _ hk => hk.2) | exact Kd.R_mono HO202.out (fun _ hk => ⟨trivial, hk.2⟩))⟩, ⟨by repeat (first | (with_reducible first | exact HB.out | apply below_alloc | apply pw_below_drewN | apply below_drew1) | exact HB.out)⟩⟩
        case rest =>
          clear HC10
          try clear c1
          try clear p2
          try clear c4
          try clear c5
          try clear c5b0
          try clear c5b1
          try clear c8
          try clear c8b0
          try clear c8b1
          try clear c14
          try clear c14b0
          try clear c14b1
          try clear c14b2
          try clear c15
          try clear c15b0
          try clear c15b1
          try clear c15b2
          obtain ⟨kq, x51_9, rfl, HA, HJ9, HO_5, HO_6, HO_8, HB⟩ := hcut
          cases kq with
          | zero => exact absurd HA.out (by simp [colophonlaw07_ExplicitPairs.j0])
          | succ kj9 =>
            have H := HA.out
            clear HA
            simp only [colophonlaw07_ExplicitPairs.j0] at H
            by_cases c22 : x51_9 = true
            · subst c22
              have H1 : (some false) = some r := by rw [if_pos rfl] at H; exact H
              clear H
              have H := H1
              clear H1
              obtain rfl := Option.some.inj H
              go_wp2
              repeat (go_quiet (fail); try go_wp2)
              go_ret
              exact ⟨by first | rfl | (simp [errW_none, errW_some] <;> rfl) | (simp [*, errW_none, errW_some] <;> rfl), by repeat (first | (with_reducible first | exact HB.out | apply below_alloc | apply pw_below_drewN | apply below_drew1) | exact HB.out)⟩
            · as_aux_lemma =>
              replace c22 := Bool.eq_false_iff.mpr c22
              subst c22
              have H1 : (colophonlaw07_ExplicitPairs.l0 kj9 l0 a1 t193 t194 t200 true l0 (l0.length : Int) 0) = some r := by rw [if_neg (show ¬ (false = true) by decide)] at H; exact H
              clear H
              have H := H1
              clear H1
              have H' := Aside0.mk H
              clear H
              go_wp2
              repeat (go_quiet (fail); try go_wp2)
              go_loopg [9, 54] kj9 (fun kq v9 v54 w' => ∃ (x9_2 : Bool) (x54_2 : Int), v9 = .bool x9_2 ∧ v54 = .int .i64 x54_2 ∧ Aside0 (colophonlaw07_ExplicitPairs.l0 kq l0 a1 t193 t194 t200 x9_2 l0 (l0.length : Int) x54_2 = some r) ∧ Aside0 (kq ≤ kj9) ∧ Aside0 (Kd.R (Kd.int .i64) 3 w' w.heap.size (fun k_ => some k_ ≠ (v198 : Value).ownBlock ∧ some k_ ≠ (v201 : Value).ownBlock) v196 t193) ∧ Aside0 (Kd.R (Kd.int .i64) 3 w' w.heap.size (fun k_ => some k_ ≠ (v196 : Value).ownBlock ∧ some k_ ≠ (v201 : Value).ownBlock) v198 t194) ∧ Aside0 (Kd.R (Kd.int .i64) 3 w' w.heap.size (fun k_ => some k_ ≠ (v196 : Value).ownBlock ∧ some k_ ≠ (v198 : Value).ownBlock) v201 t200) ∧ Aside0 (Below w.heap.size w w'))
              case atStart => exact ⟨(true), (0), (by first | rfl | (simp; done) | (simp [*]; done)), (by first | rfl | (simp; done) | (simp [*]; done)), H', ⟨Nat.le_refl _⟩, ⟨by (with_reducible repeat (first | apply Kd.R_alloc | apply Kd.R_drewN | apply Kd.R_drew)); (first | exact HO_5.out | exact Kd.R_mono HO_5.out (fun _ hk => ⟨trivial, hk⟩) | exact Kd.R_mono HO_5.out (fun _ hk => hk.2) | exact Kd.R_mono HO_5.out (fun _ hk => ⟨trivial, hk.2⟩))⟩, ⟨by (with_reducible repeat (first | apply Kd.R_alloc | apply Kd.R_drewN | apply Kd.R_drew)); (first | exact HO_6.out | exact Kd.R_mono HO_6.out (fun _ hk => ⟨trivial, hk⟩) | exact Kd.R_mono HO_6.out (fun _ hk => hk.2) | exact Kd.R_mono HO_6.out (fun _ hk => ⟨trivial, hk.2⟩))⟩, ⟨by (with_reducible repeat (first | apply Kd.R_alloc | apply Kd.R_drewN | apply Kd.R_drew)); (first | exact HO_8.out | exact Kd.R_mono HO_8.out (fun _ hk => ⟨trivial, hk⟩) | exact Kd.R_mono HO_8.out (fun _ hk => hk.2) | exact Kd.R_mono HO_8.out (fun _ hk => ⟨trivial, hk.2⟩))⟩, ⟨by repeat (first | (with_reducible first | exact HB.out | apply below_alloc | apply pw_below_drewN | apply below_drew1) | exact HB.out)⟩⟩
              case round =>
                clear H'
                try clear c1
                try clear c2
                try clear p2
                try clear c4
                try clear c5
                try clear c5b0
                try clear c5b1
                try clear c8
                try clear c8b0
                try clear c8b1
                try clear c14
                try clear c14b0
                try clear c14b1
                try clear c14b2
                try clear c15
                try clear c15b0
                try clear c15b1
                try clear c15b2
                try clear c22
                try clear p2
                obtain ⟨x9_2, x54_2, rfl, rfl, HA, HK2, HO_5, HO_6, HO_8, HB⟩ := hrel
                cases gk with
                | zero => exact absurd HA.out (by simp [colophonlaw07_ExplicitPairs.l0])
                | succ k2 =>
                  have H := HA.out
                  clear HA
                  simp only [colophonlaw07_ExplicitPairs.l0] at H
                  by_cases c23 : x54_2 < (l0.length : Int)
                  · as_aux_lemma =>
                    rw [if_pos c23] at H
                    have c23b0 : decide (x54_2 < (l0.length : Int)) = true := decide_eq_true c23
                    clear c23
                    by_cases c24 : 0 ≤ x54_2
                    · as_aux_lemma =>
                      rw [if_pos c24] at H
                      have c24b0 : decide (0 ≤ x54_2) = true := decide_eq_true c24
                      clear c24
                      by_cases c25 : x54_2 < (l0.length : Int)
                      · as_aux_lemma =>
                        rw [if_pos c25] at H
                        have c25b0 : decide (x54_2 < (l0.length : Int)) = true := decide_eq_true c25
                        clear c25
                        have HC26 := Aside0.mk H
                        clear H
                        have p203 : 0 ≤ (x54_2 : Int) := of_decide_eq_true (by first | (with_reducible assumption) | assumption)
                        have q203 : x54_2 < (l0.length : Int) := of_decide_eq_true (by first | (with_reducible assumption) | assumption)
                        obtain ⟨ad203, e203, hx203_0⟩ := Kd.at_int HR0.out x54_2 p203 q203
                        cases e203
                        replace hx203_0 := (HB.out.cell (World.block_lt_of_cell? w _ hx203_0)).trans hx203_0
                        replace p203 := eq_true p203
                        replace q203 := eq_true q203
                        go_upto_region 15 with (fail)
                        repeat (go_quiet (fail); go_upto_region 15 with (fail))
                        go_cut [9] (fun v9 wc => ∃ (kq : Nat) (x9_25 : Bool), v9 = .bool x9_25 ∧ Aside0 (colophonlaw07_ExplicitPairs.j2 kq l0 a1 t193 t194 t200 x9_25 x54_2 (rd l0 x54_2) l0 (l0.length : Int) x54_2 = some r) ∧ Aside0 (kq ≤ k2) ∧ Aside0 (Kd.R (Kd.int .i64) 3 wc w.heap.size (fun k_ => some k_ ≠ (v198 : Value).ownBlock ∧ some k_ ≠ (v201 : Value).ownBlock) v196 t193) ∧ Aside0 (Kd.R (Kd.int .i64) 3 wc w.heap.size (fun k_ => some k_ ≠ (v196 : Value).ownBlock ∧ some k_ ≠ (v201 : Value).ownBlock) v198 t194) ∧ Aside0 (Kd.R (Kd.int .i64) 3 wc w.heap.size (fun k_ => some k_ ≠ (v196 : Value).ownBlock ∧ some k_ ≠ (v198 : Value).ownBlock) v201 t200) ∧ Aside0 (Below w.heap.size w wc))
                        case first =>
                          have H := HC26.out
                          clear HC26
                          by_cases c27 : x9_2 = true
                          · subst c27
                            have H1 : (if (rd l0 x54_2) = 17 then (colophonlaw07_ExplicitPairs.j2 k2 l0 a1 t193 t194 t200 false x54_2 (rd l0 x54_2) l0 (l0.length : Int) x54_2) else (if (rd l0 x54_2) = 15 then (colophonlaw07_ExplicitPairs.j2 k2 l0 a1 t193 t194 t200 false x54_2 (rd l0 x54_2) l0 (l0.length : Int) x54_2) else (if (rd l0 x54_2) = 18 then (colophonlaw07_ExplicitPairs.j2 k2 l0 a1 t193 t194 t200 false x54_2 (rd l0 x54_2) l0 (l0.length : Int) x54_2) else (colophonlaw07_ExplicitPairs.j2 k2 l0 a1 t193 t194 t200 ((rd l0 x54_2) != 16) x54_2 (rd l0 x54_2) l0 (l0.length : Int) x54_2)))) = some r := by rw [if_pos rfl] at H; exact H
                            clear H
                            have H := H1
                            clear H1
                            by_cases c28 : (rd l0 x54_2) = 17
                            · rw [if_pos c28] at H
                              have c28b0 : ((rd l0 x54_2) == 17) = true := beq_iff_eq.mpr c28
                              have c28b1 : ((rd l0 x54_2) != 17) = false := bne_eq_false_iff_eq.mpr c28
                              clear c28
                              (first | rw [c28b0] | (simp only [i64_w, i32_w]; rw [c28b0]) | skip)
                              have H' := Aside0.mk H
                              clear H
                              go_wp2
                              repeat (go_quiet (fail); try go_wp2)
                              go_meet
                              case rel => exact ⟨_, (false), (by first | rfl | (simp; done) | (simp [*]; done)), H', ⟨by have := HJ9.out; have := HK2.out; first | omega | exact Nat.le_refl _⟩, ⟨by (with_reducible repeat (first | apply Kd.R_alloc | apply Kd.R_drewN | apply Kd.R_drew)); (first | exact HO_5.out | exact Kd.R_mono HO_5.out (fun _ hk => ⟨trivial, hk⟩) | exact Kd.R_mono HO_5.out (fun _ hk => hk.2) | exact Kd.R_mono HO_5.out (fun _ hk => ⟨trivial, hk.2⟩))⟩, ⟨by (with_reducible repeat (first | apply Kd.R_alloc | apply Kd.R_drewN | apply Kd.R_drew)); (first | exact HO_6.out | exact Kd.R_mono HO_6.out (fun _ hk => ⟨trivial, hk⟩) | exact Kd.R_mono HO_6.out (fun _ hk => hk.2) | exact Kd.R_mono HO_6.out (fun _ hk => ⟨trivial, hk.2⟩))⟩, ⟨by (with_reducible repeat (first | apply Kd.R_alloc | apply Kd.R_drewN | apply Kd.R_drew)); (first | exact HO_8.out | exact Kd.R_mono HO_8.out (fun _ hk => ⟨trivial, hk⟩) | exact Kd.R_mono HO_8.out (fun _ hk => hk.2) | exact Kd.R_mono HO_8.out (fun _ hk => ⟨trivial, hk.2⟩))⟩, ⟨by repeat (first | (with_reducible first | exact HB.out | apply below_alloc | apply pw_below_drewN | apply below_drew1) | exact HB.out)⟩⟩
                            · rw [if_neg c28] at H
                              have c28b0 : ((rd l0 x54_2) == 17) = false := beq_eq_false_iff_ne.mpr c28
                              have c28b1 : ((rd l0 x54_2) != 17) = true := bne_iff_ne.mpr c28
                              (first | rw [c28b0] | (simp only [i64_w, i32_w]; rw [c28b0]) | skip)
                              by_cases c29 : (rd l0 x54_2) = 15
                              · rw [if_pos c29] at H
                                have c29b0 : ((rd l0 x54_2) == 15) = true := beq_iff_eq.mpr c29
                                have c29b1 : ((rd l0 x54_2) != 15) = false := bne_eq_false_iff_eq.mpr c29
                                clear c29
                                have H' := Aside0.mk H
                                clear H
                                go_wp2
                                repeat (go_quiet (fail); try go_wp2)
                                go_meet
                                case rel => exact ⟨_, (false), (by first | rfl | (simp; done) | (simp [*]; done)), H', ⟨by have := HJ9.out; have := HK2.out; first | omega | exact Nat.le_refl _⟩, ⟨by (with_reducible repeat (first | apply Kd.R_alloc | apply Kd.R_drewN | apply Kd.R_drew)); (first | exact HO_5.out | exact Kd.R_mono HO_5.out (fun _ hk => ⟨trivial, hk⟩) | exact Kd.R_mono HO_5.out (fun _ hk => hk.2) | exact Kd.R_mono HO_5.out (fun _ hk => ⟨trivial, hk.2⟩))⟩, ⟨by (with_reducible repeat (first | apply Kd.R_alloc | apply Kd.R_drewN | apply Kd.R_drew)); (first | exact HO_6.out | exact Kd.R_mono HO_6.out (fun _ hk => ⟨trivial, hk⟩) | exact Kd.R_mono HO_6.out (fun _ hk => hk.2) | exact Kd.R_mono HO_6.out (fun _ hk => ⟨trivial, hk.2⟩))⟩, ⟨by (with_reducible repeat (first | apply Kd.R_alloc | apply Kd.R_drewN | apply Kd.R_drew)); (first | exact HO_8.out | exact Kd.R_mono HO_8.out (fun _ hk => ⟨trivial, hk⟩) | exact Kd.R_mono HO_8.out (fun _ hk => hk.2) | exact Kd.R_mono HO_8.out (fun _ hk => ⟨trivial, hk.2⟩))⟩, ⟨by repeat (first | (with_reducible first | exact HB.out | apply below_alloc | apply pw_below_drewN | apply below_drew1) | exact HB.out)⟩⟩
                              · rw [if_neg c29] at H
                                have c29b0 : ((rd l0 x54_2) == 15) = false := beq_eq_false_iff_ne.mpr c29
                                have c29b1 : ((rd l0 x54_2) != 15) = true := bne_iff_ne.mpr c29
                                by_cases c30 : (rd l0 x54_2) = 18
                                · rw [if_pos c30] at H
                                  have c30b0 : ((rd l0 x54_2) == 18) = true := beq_iff_eq.mpr c30
                                  have c30b1 : ((rd l0 x54_2) != 18) = false := bne_eq_false_iff_eq.mpr c30
                                  clear c30
                                  have H' := Aside0.mk H
                                  clear H
                                  go_wp2
                                  repeat (go_quiet (fail); try go_wp2)
                                  go_meet
                                  case rel => exact ⟨_, (false), (by first | rfl | (simp; done) | (simp [*]; done)), H', ⟨by have := HJ9.out; have := HK2.out; first | omega | exact Nat.le_refl _⟩, ⟨by (with_reducible repeat (first | apply Kd.R_alloc | apply Kd.R_drewN | apply Kd.R_drew)); (first | exact HO_5.out | exact Kd.R_mono HO_5.out (fun _ hk => ⟨trivial, hk⟩) | exact Kd.R_mono HO_5.out (fun _ hk => hk.2) | exact Kd.R_mono HO_5.out (fun _ hk => ⟨trivial, hk.2⟩))⟩, ⟨by (with_reducible repeat (first | apply Kd.R_alloc | apply Kd.R_drewN | apply Kd.R_drew)); (first | exact HO_6.out | exact Kd.R_mono HO_6.out (fun _ hk => ⟨trivial, hk⟩) | exact Kd.R_mono HO_6.out (fun _ hk => hk.2) | exact Kd.R_mono HO_6.out (fun _ hk => ⟨trivial, hk.2⟩))⟩, ⟨by (with_reducible repeat (first | apply Kd.R_alloc | apply Kd.R_drewN | apply Kd.R_drew)); (first | exact HO_8.out | exact Kd.R_mono HO_8.out (fun _ hk => ⟨trivial, hk⟩) | exact Kd.R_mono HO_8.out (fun _ hk => hk.2) | exact Kd.R_mono HO_8.out (fun _ hk => ⟨trivial, hk.2⟩))⟩, ⟨by repeat (first | (with_reducible first | exact HB.out | apply below_alloc | apply pw_below_drewN | apply below_drew1) | exact HB.out)⟩⟩
                                · rw [if_neg c30] at H
                                  have c30b0 : ((rd l0 x54_2) == 18) = false := beq_eq_false_iff_ne.mpr c30
                                  have c30b1 : ((rd l0 x54_2) != 18) = true := bne_iff_ne.mpr c30
                                  have H' := Aside0.mk H
                                  clear H
                                  go_wp2
                                  repeat (go_quiet (fail); try go_wp2)
                                  go_meet
                                  case rel => exact ⟨_, (((rd l0 x54_2) != 16)), (by first | rfl | (simp; done) | (simp [*]; done)), H', ⟨by have := HJ9.out; have := HK2.out; first | omega | exact Nat.le_refl _⟩, ⟨by (with_reducible repeat (first | apply Kd.R_alloc | apply Kd.R_drewN | apply Kd.R_drew)); (first | exact HO_5.out | exact Kd.R_mono HO_5.out (fun _ hk => ⟨trivial, hk⟩) | exact Kd.R_mono HO_5.out (fun _ hk => hk.2) | exact Kd.R_mono HO_5.out (fun _ hk => ⟨trivial, hk.2⟩))⟩, ⟨by (with_reducible repeat (first | apply Kd.R_alloc | apply Kd.R_drewN | apply Kd.R_drew)); (first | exact HO_6.out | exact Kd.R_mono HO_6.out (fun _ hk => ⟨trivial, hk⟩) | exact Kd.R_mono HO_6.out (fun _ hk => hk.2) | exact Kd.R_mono HO_6.out (fun _ hk => ⟨trivial, hk.2⟩))⟩, ⟨by (with_reducible repeat (first | apply Kd.R_alloc | apply Kd.R_drewN | apply Kd.R_drew)); (first | exact HO_8.out | exact Kd.R_mono HO_8.out (fun _ hk => ⟨trivial, hk⟩) | exact Kd.R_mono HO_8.out (fun _ hk => hk.2) | exact Kd.R_mono HO_8.out (fun _ hk => ⟨trivial, hk.2⟩))⟩, ⟨by repeat (first | (with_reducible first | exact HB.out | apply below_alloc | apply pw_below_drewN | apply below_drew1) | exact HB.out)⟩⟩
                          · replace c27 := Bool.eq_false_iff.mpr c27
                            subst c27
                            have H1 : (colophonlaw07_ExplicitPairs.j2 k2 l0 a1 t193 t194 t200 false x54_2 (rd l0 x54_2) l0 (l0.length : Int) x54_2) = some r := by rw [if_neg (show ¬ (false = true) by decide)] at H; exact H
                            clear H
                            have H := H1
                            clear H1
                            have H' := Aside0.mk H
                            clear H
                            go_wp2
                            repeat (go_quiet (fail); try go_wp2)
                            go_meet
                            case rel => exact ⟨_, (false), (by first | rfl | (simp; done) | (simp [*]; done)), H', ⟨by have := HJ9.out; have := HK2.out; first | omega | exact Nat.le_refl _⟩, ⟨by (with_reducible repeat (first | apply Kd.R_alloc | apply Kd.R_drewN | apply Kd.R_drew)); (first | exact HO_5.out | exact Kd.R_mono HO_5.out (fun _ hk => ⟨trivial, hk⟩) | exact Kd.R_mono HO_5.out (fun _ hk => hk.2) | exact Kd.R_mono HO_5.out (fun _ hk => ⟨trivial, hk.2⟩))⟩, ⟨by (with_reducible repeat (first | apply Kd.R_alloc | apply Kd.R_drewN | apply Kd.R_drew)); (first | exact HO_6.out | exact Kd.R_mono HO_6.out (fun _ hk => ⟨trivial, hk⟩) | exact Kd.R_mono HO_6.out (fun _ hk => hk.2) | exact Kd.R_mono HO_6.out (fun _ hk => ⟨trivial, hk.2⟩))⟩, ⟨by (with_reducible repeat (first | apply Kd.R_alloc | apply Kd.R_drewN | apply Kd.R_drew)); (first | exact HO_8.out | exact Kd.R_mono HO_8.out (fun _ hk => ⟨trivial, hk⟩) | exact Kd.R_mono HO_8.out (fun _ hk => hk.2) | exact Kd.R_mono HO_8.out (fun _ hk => ⟨trivial, hk.2⟩))⟩, ⟨by repeat (first | (with_reducible first | exact HB.out | apply below_alloc | apply pw_below_drewN | apply below_drew1) | exact HB.out)⟩⟩
                        case rest =>
                          clear HC26
                          try clear c1
                          try clear c2
                          try clear p2
                          try clear q2
                          try clear hx2
                          try clear c3
                          try clear c4
                          try clear c5
                          try clear c5b0
                          try clear c5b1
                          try clear c8
                          try clear c8b0
                          try clear c8b1
                          try clear c14
                          try clear c14b0
                          try clear c14b1
                          try clear c14b2
                          try clear c15
                          try clear c15b0
                          try clear c15b1
                          try clear c15b2
                          try clear p20
                          try clear q20
                          try clear hx20
                          try clear c22
                          try clear c23
                          try clear c23b0
                          try clear c24
                          try clear c24b0
                          try clear c25
                          try clear c25b0
                          try clear c27
                          try clear c28
                          try clear c28b0
                          try clear c28b1
                          try clear c29
                          try clear c29b0
                          try clear c29b1
                          try clear c30
                          try clear c30b0
                          try clear c30b1
                          try clear hx203_0
                          try clear p2
                          try clear p203
                          try clear q203
                          obtain ⟨kq, x9_25, rfl, HA, HJ25, HO_5, HO_6, HO_8, HB⟩ := hcut
                          cases kq with
                          | zero => exact absurd HA.out (by simp [colophonlaw07_ExplicitPairs.j2])
                          | succ kj25 =>
                            have H := HA.out
                            clear HA
                            simp only [colophonlaw07_ExplicitPairs.j2] at H
                            have HC31 := Aside0.mk H
                            clear H
                            go_upto_region 16 with (fail)
                            repeat (go_quiet (fail); go_upto_region 16 with (fail))
                            go_cut [85] (fun v85 wc => ∃ (kq : Nat) (x85_30 : Bool), v85 = .bool x85_30 ∧ Aside0 (colophonlaw07_ExplicitPairs.j3 kq l0 a1 t193 t194 t200 x9_25 x54_2 (rd l0 x54_2) l0 (l0.length : Int) x54_2 x85_30 = some r) ∧ Aside0 (kq ≤ kj25) ∧ Aside0 (Kd.R (Kd.int .i64) 3 wc w.heap.size (fun k_ => some k_ ≠ (v198 : Value).ownBlock ∧ some k_ ≠ (v201 : Value).ownBlock) v196 t193) ∧ Aside0 (Kd.R (Kd.int .i64) 3 wc w.heap.size (fun k_ => some k_ ≠ (v196 : Value).ownBlock ∧ some k_ ≠ (v201 : Value).ownBlock) v198 t194) ∧ Aside0 (Kd.R (Kd.int .i64) 3 wc w.heap.size (fun k_ => some k_ ≠ (v196 : Value).ownBlock ∧ some k_ ≠ (v198 : Value).ownBlock) v201 t200) ∧ Aside0 (Below w.heap.size w wc))
                            case first =>
                              have H := HC31.out
                              clear HC31
                              by_cases c32 : (rd l0 x54_2) = 21
                              · rw [if_pos c32] at H
                                have c32b0 : ((rd l0 x54_2) == 21) = true := beq_iff_eq.mpr c32
                                have c32b1 : ((rd l0 x54_2) != 21) = false := bne_eq_false_iff_eq.mpr c32
                                clear c32
                                (first | rw [c32b0] | (simp only [i64_w, i32_w]; rw [c32b0]) | skip)
                                have H' := Aside0.mk H
                                clear H
                                go_wp2
                                repeat (go_quiet (fail); try go_wp2)
                                go_meet
                                case rel => exact ⟨_, (true), (by first | rfl | (simp; done) | (simp [*]; done)), H', ⟨by have := HJ9.out; have := HK2.out; have := HJ25.out; first | omega | exact Nat.le_refl _⟩, ⟨by (with_reducible repeat (first | apply Kd.R_alloc | apply Kd.R_drewN | apply Kd.R_drew)); (first | exact HO_5.out | exact Kd.R_mono HO_5.out (fun _ hk => ⟨trivial, hk⟩) | exact Kd.R_mono HO_5.out (fun _ hk => hk.2) | exact Kd.R_mono HO_5.out (fun _ hk => ⟨trivial, hk.2⟩))⟩, ⟨by (with_reducible repeat (first | apply Kd.R_alloc | apply Kd.R_drewN | apply Kd.R_drew)); (first | exact HO_6.out | exact Kd.R_mono HO_6.out (fun _ hk => ⟨trivial, hk⟩) | exact Kd.R_mono HO_6.out (fun _ hk => hk.2) | exact Kd.R_mono HO_6.out (fun _ hk => ⟨trivial, hk.2⟩))⟩, ⟨by (with_reducible repeat (first | apply Kd.R_alloc | apply Kd.R_drewN | apply Kd.R_drew)); (first | exact HO_8.out | exact Kd.R_mono HO_8.out (fun _ hk => ⟨trivial, hk⟩) | exact Kd.R_mono HO_8.out (fun _ hk => hk.2) | exact Kd.R_mono HO_8.out (fun _ hk => ⟨trivial, hk.2⟩))⟩, ⟨by repeat (first | (with_reducible first | exact HB.out | apply below_alloc | apply pw_below_drewN | apply below_drew1) | exact HB.out)⟩⟩
                              · rw [if_neg c32] at H
                                have c32b0 : ((rd l0 x54_2) == 21) = false := beq_eq_false_iff_ne.mpr c32
                                have c32b1 : ((rd l0 x54_2) != 21) = true := bne_iff_ne.mpr c32
                                (first | rw [c32b0] | (simp only [i64_w, i32_w]; rw [c32b0]) | skip)
                                by_cases c33 : (rd l0 x54_2) = 20
                                · rw [if_pos c33] at H
                                  have c33b0 : ((rd l0 x54_2) == 20) = true := beq_iff_eq.mpr c33
                                  have c33b1 : ((rd l0 x54_2) != 20) = false := bne_eq_false_iff_eq.mpr c33
                                  clear c33
                                  have H' := Aside0.mk H
                                  clear H
                                  go_wp2
                                  repeat (go_quiet (fail); try go_wp2)
                                  go_meet
                                  case rel => exact ⟨_, (true), (by first | rfl | (simp; done) | (simp [*]; done)), H', ⟨by have := HJ9.out; have := HK2.out; have := HJ25.out; first | omega | exact Nat.le_refl _⟩, ⟨by (with_reducible repeat (first | apply Kd.R_alloc | apply Kd.R_drewN | apply Kd.R_drew)); (first | exact HO_5.out | exact Kd.R_mono HO_5.out (fun _ hk => ⟨trivial, hk⟩) | exact Kd.R_mono HO_5.out (fun _ hk => hk.2) | exact Kd.R_mono HO_5.out (fun _ hk => ⟨trivial, hk.2⟩))⟩, ⟨by (with_reducible repeat (first | apply Kd.R_alloc | apply Kd.R_drewN | apply Kd.R_drew)); (first | exact HO_6.out | exact Kd.R_mono HO_6.out (fun _ hk => ⟨trivial, hk⟩) | exact Kd.R_mono HO_6.out (fun _ hk => hk.2) | exact Kd.R_mono HO_6.out (fun _ hk => ⟨trivial, hk.2⟩))⟩, ⟨by (with_reducible repeat (first | apply Kd.R_alloc | apply Kd.R_drewN | apply Kd.R_drew)); (first | exact HO_8.out | exact Kd.R_mono HO_8.out (fun _ hk => ⟨trivial, hk⟩) | exact Kd.R_mono HO_8.out (fun _ hk => hk.2) | exact Kd.R_mono HO_8.out (fun _ hk => ⟨trivial, hk.2⟩))⟩, ⟨by repeat (first | (with_reducible first | exact HB.out | apply below_alloc | apply pw_below_drewN | apply below_drew1) | exact HB.out)⟩⟩
                                · rw [if_neg c33] at H
                                  have c33b0 : ((rd l0 x54_2) == 20) = false := beq_eq_false_iff_ne.mpr c33
                                  have c33b1 : ((rd l0 x54_2) != 20) = true := bne_iff_ne.mpr c33
                                  have H' := Aside0.mk H
                                  clear H
                                  go_wp2
                                  repeat (go_quiet (fail); try go_wp2)
                                  go_meet
                                  case rel => exact ⟨_, (((rd l0 x54_2) == 22)), (by first | rfl | (simp; done) | (simp [*]; done)), H', ⟨by have := HJ9.out; have := HK2.out; have := HJ25.out; first | omega | exact Nat.le_refl _⟩, ⟨by (with_reducible repeat (first | apply Kd.R_alloc | apply Kd.R_drewN | apply Kd.R_drew)); (first | exact HO_5.out | exact Kd.R_mono HO_5.out (fun _ hk => ⟨trivial, hk⟩) | exact Kd.R_mono HO_5.out (fun _ hk => hk.2) | exact Kd.R_mono HO_5.out (fun _ hk => ⟨trivial, hk.2⟩))⟩, ⟨by (with_reducible repeat (first | apply Kd.R_alloc | apply Kd.R_drewN | apply Kd.R_drew)); (first | exact HO_6.out | exact Kd.R_mono HO_6.out (fun _ hk => ⟨trivial, hk⟩) | exact Kd.R_mono HO_6.out (fun _ hk => hk.2) | exact Kd.R_mono HO_6.out (fun _ hk => ⟨trivial, hk.2⟩))⟩, ⟨by (with_reducible repeat (first | apply Kd.R_alloc | apply Kd.R_drewN | apply Kd.R_drew)); (first | exact HO_8.out | exact Kd.R_mono HO_8.out (fun _ hk => ⟨trivial, hk⟩) | exact Kd.R_mono HO_8.out (fun _ hk => hk.2) | exact Kd.R_mono HO_8.out (fun _ hk => ⟨trivial, hk.2⟩))⟩, ⟨by repeat (first | (with_reducible first | exact HB.out | apply below_alloc | apply pw_below_drewN | apply below_drew1) | exact HB.out)⟩⟩
                            case rest =>
                              clear HC31
                              try clear c1
                              try clear c2
                              try clear p2
                              try clear q2
                              try clear hx2
                              try clear c3
                              try clear c4
                              try clear c5
                              try clear c5b0
                              try clear c5b1
                              try clear c8
                              try clear c8b0
                              try clear c8b1
                              try clear c14
                              try clear c14b0
                              try clear c14b1
                              try clear c14b2
                              try clear c15
                              try clear c15b0
                              try clear c15b1
                              try clear c15b2
                              try clear p20
                              try clear q20
                              try clear hx20
                              try clear c22
                              try clear c23
                              try clear c23b0
                              try clear c24
                              try clear c24b0
                              try clear c25
                              try clear c25b0
                              try clear c27
                              try clear c28
                              try clear c28b0
                              try clear c28b1
                              try clear c29
                              try clear c29b0
                              try clear c29b1
                              try clear c30
                              try clear c30b0
                              try clear c30b1
                              try clear c32
                              try clear c32b0
                              try clear c32b1
                              try clear c33
                              try clear c33b0
                              try clear c33b1
                              try clear hx203_0
                              try clear p2
                              try clear p20
                              try clear p203
                              try clear q2
                              try clear q20
                              try clear q203
                              obtain ⟨kq, x85_30, rfl, HA, HJ30, HO_5, HO_6, HO_8, HB⟩ := hcut
                              cases kq with
                              | zero => exact absurd HA.out (by simp [colophonlaw07_ExplicitPairs.j3])
                              | succ kj30 =>
                                have H := HA.out
                                clear HA
                                simp only [colophonlaw07_ExplicitPairs.j3] at H
                                by_cases c34 : x85_30 = true
                                · as_aux_lemma =>
                                  subst c34
                                  have H1 : (if 0 ≤ x54_2 then (if x54_2 < (t200.length : Int) then (if (rd t200 x54_2) < (l0.length : Int) then (if 0 ≤ (rd t200 x54_2) then (if (rd t200 x54_2) < (t193.length : Int) then (if x54_2 < (t193.length : Int) then (if (rd t193 (rd t200 x54_2)) = (rd t193 x54_2) then (if x54_2 < (t194.length : Int) then (if (rd t200 x54_2) < (t194.length : Int) then (if (((rd t194 x54_2) == (rd l0 x54_2)) != ((rd t194 (rd t200 x54_2)) == 23)) = true then (some false) else (if (rd t194 x54_2) = (rd l0 x54_2) then (colophonlaw07_ExplicitPairs.l0 kj30 l0 a1 t193 t194 t200 false l0 (l0.length : Int) (wrap64 (x54_2 + 1))) else (if (rd t194 x54_2) = (rd t194 (rd t200 x54_2)) then (colophonlaw07_ExplicitPairs.l0 kj30 l0 a1 t193 t194 t200 false l0 (l0.length : Int) (wrap64 (x54_2 + 1))) else (some false)))) else (none)) else (none)) else (some false)) else (none)) else (none)) else (none)) else (colophonlaw07_ExplicitPairs.l0 kj30 l0 a1 t193 t194 t200 false l0 (l0.length : Int) (wrap64 (x54_2 + 1)))) else (none)) else (none)) = some r := by rw [if_pos rfl] at H; exact H
                                  clear H
                                  have H := H1
                                  clear H1
                                  by_cases c35 : 0 ≤ x54_2
                                  · as_aux_lemma =>
                                    rw [if_pos c35] at H
                                    have c35b0 : decide (0 ≤ x54_2) = true := decide_eq_true c35
                                    clear c35
                                    by_cases c36 : x54_2 < (t200.length : Int)
                                    · as_aux_lemma =>
                                      rw [if_pos c36] at H
                                      have c36b0 : decide (x54_2 < (t200.length : Int)) = true := decide_eq_true c36
                                      clear c36
                                      by_cases c37 : (rd t200 x54_2) < (l0.length : Int)
                                      · as_aux_lemma =>
                                        rw [if_pos c37] at H
                                        have c37b0 : decide ((rd t200 x54_2) < (l0.length : Int)) = true := decide_eq_true c37
                                        clear c37
                                        by_cases c38 : 0 ≤ (rd t200 x54_2)
                                        · as_aux_lemma =>
                                          rw [if_pos c38] at H
                                          have c38b0 : decide (0 ≤ (rd t200 x54_2)) = true := decide_eq_true c38
                                          clear c38
                                          by_cases c39 : (rd t200 x54_2) < (t193.length : Int)
                                          · as_aux_lemma =>
                                            rw [if_pos c39] at H
                                            have c39b0 : decide ((rd t200 x54_2) < (t193.length : Int)) = true := decide_eq_true c39
                                            clear c39
                                            by_cases c40 : x54_2 < (t193.length : Int)
                                            · as_aux_lemma =>
                                              rw [if_pos c40] at H
                                              have c40b0 : decide (x54_2 < (t193.length : Int)) = true := decide_eq_true c40
                                              clear c40
                                              by_cases c41 : (rd t193 (rd t200 x54_2)) = (rd t193 x54_2)
                                              · as_aux_lemma =>
                                                rw [if_pos c41] at H
                                                have c41b0 : ((rd t193 (rd t200 x54_2)) == (rd t193 x54_2)) = true := beq_iff_eq.mpr c41
                                                have c41b1 : ((rd t193 (rd t200 x54_2)) != (rd t193 x54_2)) = false := bne_eq_false_iff_eq.mpr c41
                                                clear c41
                                                by_cases c42 : x54_2 < (t194.length : Int)
                                                · as_aux_lemma =>
                                                  rw [if_pos c42] at H
                                                  have c42b0 : decide (x54_2 < (t194.length : Int)) = true := decide_eq_true c42
                                                  clear c42
                                                  by_cases c43 : (rd t200 x54_2) < (t194.length : Int)
                                                  · as_aux_lemma =>
                                                    rw [if_pos c43] at H
                                                    have c43b0 : decide ((rd t200 x54_2) < (t194.length : Int)) = true := decide_eq_true c43
                                                    clear c43
                                                    by_cases c44 : (((rd t194 x54_2) == (rd l0 x54_2)) != ((rd t194 (rd t200 x54_2)) == 23)) = true
                                                    · rw [if_pos c44] at H
                                                      have c44b0 : (((rd t194 x54_2) == (rd l0 x54_2)) != ((rd t194 (rd t200 x54_2)) == 23)) = true := c44
                                                      (try (have c44b1 : decide (((rd t194 x54_2) == (rd l0 x54_2)) = ((rd t194 (rd t200 x54_2)) == 23)) = false := by simpa using c44))
                                                      (try (have c44b2 : (((rd t194 x54_2) == (rd l0 x54_2)) == ((rd t194 (rd t200 x54_2)) == 23)) = false := by simpa using c44))
                                                      (try (have c44b3 : ¬ (((rd t194 x54_2) == (rd l0 x54_2)) = ((rd t194 (rd t200 x54_2)) == 23)) := by simpa using c44))
                                                      clear c44
                                                      obtain rfl := Option.some.inj H
                                                      obtain ⟨Ao45, co45, eo45⟩ := Kd.R_slice HO_8.out
                                                      subst eo45
                                                      have p204 : 0 ≤ (x54_2 : Int) := of_decide_eq_true (by first | (with_reducible assumption) | assumption)
                                                      have q204 : x54_2 < (t200.length : Int) := of_decide_eq_true (by first | (with_reducible assumption) | assumption)
                                                      try (obtain ⟨Aq204, cq204, eq204⟩ := Kd.R_slice HO_8.out; subst eq204)
                                                      obtain ⟨ad204, e204, hx204_0⟩ := Kd.at_int (Kd.R_reads' HO_8.out).2.2 x54_2 p204 q204
                                                      cases e204
                                                      replace p204 := eq_true p204
                                                      replace q204 := eq_true q204
                                                      obtain ⟨Ao46, co46, eo46⟩ := Kd.R_slice HO_5.out
                                                      subst eo46
                                                      have p205 : 0 ≤ ((rd t200 x54_2) : Int) := of_decide_eq_true (by first | (with_reducible assumption) | assumption)
                                                      have q205 : (rd t200 x54_2) < (t193.length : Int) := of_decide_eq_true (by first | (with_reducible assumption) | assumption)
                                                      try (obtain ⟨Aq205, cq205, eq205⟩ := Kd.R_slice HO_5.out; subst eq205)
                                                      obtain ⟨ad205, e205, hx205_0⟩ := Kd.at_int (Kd.R_reads' HO_5.out).2.2 (rd t200 x54_2) p205 q205
                                                      cases e205
                                                      replace p205 := eq_true p205
                                                      replace q205 := eq_true q205
                                                      have p206 : 0 ≤ (x54_2 : Int) := of_decide_eq_true (by first | (with_reducible assumption) | assumption)
                                                      have q206 : x54_2 < (t193.length : Int) := of_decide_eq_true (by first | (with_reducible assumption) | assumption)
                                                      try (obtain ⟨Aq206, cq206, eq206⟩ := Kd.R_slice HO_5.out; subst eq206)
                                                      obtain ⟨ad206, e206, hx206_0⟩ := Kd.at_int (Kd.R_reads' HO_5.out).2.2 x54_2 p206 q206
                                                      obtain rfl : ad205 = ad206 := (by injection e206)
                                                      replace p206 := eq_true p206
                                                      replace q206 := eq_true q206
                                                      obtain ⟨Ao47, co47, eo47⟩ := Kd.R_slice HO_6.out
                                                      subst eo47
                                                      have p207 : 0 ≤ (x54_2 : Int) := of_decide_eq_true (by first | (with_reducible assumption) | assumption)
                                                      have q207 : x54_2 < (t194.length : Int) := of_decide_eq_true (by first | (with_reducible assumption) | assumption)
                                                      try (obtain ⟨Aq207, cq207, eq207⟩ := Kd.R_slice HO_6.out; subst eq207)
                                                      obtain ⟨ad207, e207, hx207_0⟩ := Kd.at_int (Kd.R_reads' HO_6.out).2.2 x54_2 p207 q207
                                                      cases e207
                                                      replace p207 := eq_true p207
                                                      replace q207 := eq_true q207
                                                      have p208 : 0 ≤ ((rd t200 x54_2) : Int) := of_decide_eq_true (by first | (with_reducible assumption) | assumption)
                                                      have q208 : (rd t200 x54_2) < (t194.length : Int) := of_decide_eq_true (by first | (with_reducible assumption) | assumption)
                                                      try (obtain ⟨Aq208, cq208, eq208⟩ := Kd.R_slice HO_6.out; subst eq208)
                                                      obtain ⟨ad208, e208, hx208_0⟩ := Kd.at_int (Kd.R_reads' HO_6.out).2.2 (rd t200 x54_2) p208 q208
                                                      obtain rfl : ad207 = ad208 := (by injection e208)
                                                      replace p208 := eq_true p208
                                                      replace q208 := eq_true q208
                                                      go_wp2
                                                      repeat (go_quiet (fail); try go_wp2)
                                                      go_ret
                                                      exact ⟨by first | rfl | (simp [errW_none, errW_some] <;> rfl) | (simp [*, errW_none, errW_some] <;> rfl), by repeat (first | (with_reducible first | exact HB.out | apply below_alloc | apply pw_below_drewN | apply below_drew1) | exact HB.out)⟩
                                                    · as_aux_lemma =>
                                                      rw [if_neg c44] at H
                                                      have c44b0 : (((rd t194 x54_2) == (rd l0 x54_2)) != ((rd t194 (rd t200 x54_2)) == 23)) = false := by simpa using c44
                                                      (try (have c44b1 : decide (((rd t194 x54_2) == (rd l0 x54_2)) = ((rd t194 (rd t200 x54_2)) == 23)) = true := by simpa using c44))
                                                      (try (have c44b2 : (((rd t194 x54_2) == (rd l0 x54_2)) == ((rd t194 (rd t200 x54_2)) == 23)) = true := by simpa using c44))
                                                      clear c44
                                                      by_cases c48 : (rd t194 x54_2) = (rd l0 x54_2)
                                                      · rw [if_pos c48] at H
                                                        have c48b0 : ((rd t194 x54_2) == (rd l0 x54_2)) = true := beq_iff_eq.mpr c48
                                                        have c48q0 : ((rd t194 (rd t200 x54_2)) == 23) = true := by have h_ := c44b0; rw [c48b0] at h_; revert h_; cases ((rd t194 (rd t200 x54_2)) == 23) <;> simp
                                                        have c48b1 : ((rd t194 x54_2) != (rd l0 x54_2)) = false := bne_eq_false_iff_eq.mpr c48
                                                        clear c48
                                                        have H' := Aside0.mk H
                                                        clear H
                                                        obtain ⟨Ao49, co49, eo49⟩ := Kd.R_slice HO_8.out
                                                        subst eo49
                                                        have p204 : 0 ≤ (x54_2 : Int) := of_decide_eq_true (by first | (with_reducible assumption) | assumption)
                                                        have q204 : x54_2 < (t200.length : Int) := of_decide_eq_true (by first | (with_reducible assumption) | assumption)
                                                        try (obtain ⟨Aq204, cq204, eq204⟩ := Kd.R_slice HO_8.out; subst eq204)
                                                        obtain ⟨ad204, e204, hx204_0⟩ := Kd.at_int (Kd.R_reads' HO_8.out).2.2 x54_2 p204 q204
                                                        cases e204
                                                        replace p204 := eq_true p204
                                                        replace q204 := eq_true q204
                                                        obtain ⟨Ao50, co50, eo50⟩ := Kd.R_slice HO_5.out
                                                        subst eo50
                                                        have p205 : 0 ≤ ((rd t200 x54_2) : Int) := of_decide_eq_true (by first | (with_reducible assumption) | assumption)
                                                        have q205 : (rd t200 x54_2) < (t193.length : Int) := of_decide_eq_true (by first | (with_reducible assumption) | assumption)
                                                        try (obtain ⟨Aq205, cq205, eq205⟩ := Kd.R_slice HO_5.out; subst eq205)
                                                        obtain ⟨ad205, e205, hx205_0⟩ := Kd.at_int (Kd.R_reads' HO_5.out).2.2 (rd t200 x54_2) p205 q205
                                                        cases e205
                                                        replace p205 := eq_true p205
                                                        replace q205 := eq_true q205
                                                        have p206 : 0 ≤ (x54_2 : Int) := of_decide_eq_true (by first | (with_reducible assumption) | assumption)
                                                        have q206 : x54_2 < (t193.length : Int) := of_decide_eq_true (by first | (with_reducible assumption) | assumption)
                                                        try (obtain ⟨Aq206, cq206, eq206⟩ := Kd.R_slice HO_5.out; subst eq206)
                                                        obtain ⟨ad206, e206, hx206_0⟩ := Kd.at_int (Kd.R_reads' HO_5.out).2.2 x54_2 p206 q206
                                                        obtain rfl : ad205 = ad206 := (by injection e206)
                                                        replace p206 := eq_true p206
                                                        replace q206 := eq_true q206
                                                        obtain ⟨Ao51, co51, eo51⟩ := Kd.R_slice HO_6.out
                                                        subst eo51
                                                        have p207 : 0 ≤ (x54_2 : Int) := of_decide_eq_true (by first | (with_reducible assumption) | assumption)
                                                        have q207 : x54_2 < (t194.length : Int) := of_decide_eq_true (by first | (with_reducible assumption) | assumption)
                                                        try (obtain ⟨Aq207, cq207, eq207⟩ := Kd.R_slice HO_6.out; subst eq207)
                                                        obtain ⟨ad207, e207, hx207_0⟩ := Kd.at_int (Kd.R_reads' HO_6.out).2.2 x54_2 p207 q207
                                                        cases e207
                                                        replace p207 := eq_true p207
                                                        replace q207 := eq_true q207
                                                        have p208 : 0 ≤ ((rd t200 x54_2) : Int) := of_decide_eq_true (by first | (with_reducible assumption) | assumption)
                                                        have q208 : (rd t200 x54_2) < (t194.length : Int) := of_decide_eq_true (by first | (with_reducible assumption) | assumption)
                                                        try (obtain ⟨Aq208, cq208, eq208⟩ := Kd.R_slice HO_6.out; subst eq208)
                                                        obtain ⟨ad208, e208, hx208_0⟩ := Kd.at_int (Kd.R_reads' HO_6.out).2.2 (rd t200 x54_2) p208 q208
                                                        obtain rfl : ad207 = ad208 := (by injection e208)
                                                        replace p208 := eq_true p208
                                                        replace q208 := eq_true q208
                                                        have p209 : 0 ≤ (x54_2 : Int) := of_decide_eq_true (by first | (with_reducible assumption) | assumption)
                                                        have q209 : x54_2 < (t194.length : Int) := of_decide_eq_true (by first | (with_reducible assumption) | assumption)
                                                        try (obtain ⟨Aq209, cq209, eq209⟩ := Kd.R_slice HO_6.out; subst eq209)
                                                        obtain ⟨ad209, e209, hx209_0⟩ := Kd.at_int (Kd.R_reads' HO_6.out).2.2 x54_2 p209 q209
                                                        obtain rfl : ad207 = ad209 := (by injection e209)
                                                        replace p209 := eq_true p209
                                                        replace q209 := eq_true q209
                                                        go_wp2
                                                        repeat (go_quiet (fail); try go_wp2)
                                                        go_roundg kj30
                                                        case measure => have := HJ9.out; have := HK2.out; have := HJ25.out; have := HJ30.out; omega
                                                        case rel => exact ⟨(false), (wrap64 (x54_2 + 1)), (by first | rfl | (simp; done) | (simp [*]; done)), (by first | rfl | (simp; done) | (simp [*]; done)), H', ⟨by have := HJ9.out; have := HK2.out; have := HJ25.out; have := HJ30.out; omega⟩, ⟨by (with_reducible repeat (first | apply Kd.R_alloc | apply Kd.R_drewN | apply Kd.R_drew)); (first | exact HO_5.out | exact Kd.R_mono HO_5.out (fun _ hk => ⟨trivial, hk⟩) | exact Kd.R_mono HO_5.out (fun _ hk => hk.2) | exact Kd.R_mono HO_5.out (fun _ hk => ⟨trivial, hk.2⟩))⟩, ⟨by (with_reducible repeat (first | apply Kd.R_alloc | apply Kd.R_drewN | apply Kd.R_drew)); (first | exact HO_6.out | exact Kd.R_mono HO_6.out (fun _ hk => ⟨trivial, hk⟩) | exact Kd.R_mono HO_6.out (fun _ hk => hk.2) | exact Kd.R_mono HO_6.out (fun _ hk => ⟨trivial, hk.2⟩))⟩, ⟨by (with_reducible repeat (first | apply Kd.R_alloc | apply Kd.R_drewN | apply Kd.R_drew)); (first | exact HO_8.out | exact Kd.R_mono HO_8.out (fun _ hk => ⟨trivial, hk⟩) | exact Kd.R_mono HO_8.out (fun _ hk => hk.2) | exact Kd.R_mono HO_8.out (fun _ hk => ⟨trivial, hk.2⟩))⟩, ⟨by repeat (first | (with_reducible first | exact HB.out | apply below_alloc | apply pw_below_drewN | apply below_drew1) | exact HB.out)⟩⟩
                                                      · as_aux_lemma =>
                                                        rw [if_neg c48] at H
                                                        have c48b0 : ((rd t194 x54_2) == (rd l0 x54_2)) = false := beq_eq_false_iff_ne.mpr c48
                                                        have c48q0 : ((rd t194 (rd t200 x54_2)) == 23) = false := by have h_ := c44b0; rw [c48b0] at h_; revert h_; cases ((rd t194 (rd t200 x54_2)) == 23) <;> simp
                                                        have c48b1 : ((rd t194 x54_2) != (rd l0 x54_2)) = true := bne_iff_ne.mpr c48
                                                        by_cases c52 : (rd t194 x54_2) = (rd t194 (rd t200 x54_2))
                                                        · rw [if_pos c52] at H
                                                          have c52b0 : ((rd t194 x54_2) == (rd t194 (rd t200 x54_2))) = true := beq_iff_eq.mpr c52
                                                          have c52b1 : ((rd t194 x54_2) != (rd t194 (rd t200 x54_2))) = false := bne_eq_false_iff_eq.mpr c52
                                                          clear c52
                                                          have H' := Aside0.mk H
                                                          clear H
                                                          obtain ⟨Ao53, co53, eo53⟩ := Kd.R_slice HO_8.out
                                                          subst eo53
                                                          have p204 : 0 ≤ (x54_2 : Int) := of_decide_eq_true (by first | (with_reducible assumption) | assumption)
                                                          have q204 : x54_2 < (t200.length : Int) := of_decide_eq_true (by first | (with_reducible assumption) | assumption)
                                                          try (obtain ⟨Aq204, cq204, eq204⟩ := Kd.R_slice HO_8.out; subst eq204)
                                                          obtain ⟨ad204, e204, hx204_0⟩ := Kd.at_int (Kd.R_reads' HO_8.out).2.2 x54_2 p204 q204
                                                          cases e204
                                                          replace p204 := eq_true p204
                                                          replace q204 := eq_true q204
                                                          obtain ⟨Ao54, co54, eo54⟩ := Kd.R_slice HO_5.out
                                                          subst eo54
                                                          have p205 : 0 ≤ ((rd t200 x54_2) : Int) := of_decide_eq_true (by first | (with_reducible assumption) | assumption)
                                                          have q205 : (rd t200 x54_2) < (t193.length : Int) := of_decide_eq_true (by first | (with_reducible assumption) | assumption)
                                                          try (obtain ⟨Aq205, cq205, eq205⟩ := Kd.R_slice HO_5.out; subst eq205)
                                                          obtain ⟨ad205, e205, hx205_0⟩ := Kd.at_int (Kd.R_reads' HO_5.out).2.2 (rd t200 x54_2) p205 q205
                                                          cases e205
                                                          replace p205 := eq_true p205
                                                          replace q205 := eq_true q205
                                                          have p206 : 0 ≤ (x54_2 : Int) := of_decide_eq_true (by first | (with_reducible assumption) | assumption)
                                                          have q206 : x54_2 < (t193.length : Int) := of_decide_eq_true (by first | (with_reducible assumption) | assumption)
                                                          try (obtain ⟨Aq206, cq206, eq206⟩ := Kd.R_slice HO_5.out; subst eq206)
                                                          obtain ⟨ad206, e206, hx206_0⟩ := Kd.at_int (Kd.R_reads' HO_5.out).2.2 x54_2 p206 q206
                                                          obtain rfl : ad205 = ad206 := (by injection e206)
                                                          replace p206 := eq_true p206
                                                          replace q206 := eq_true q206
                                                          obtain ⟨Ao55, co55, eo55⟩ := Kd.R_slice HO_6.out
                                                          subst eo55
                                                          have p207 : 0 ≤ (x54_2 : Int) := of_decide_eq_true (by first | (with_reducible assumption) | assumption)
                                                          have q207 : x54_2 < (t194.length : Int) := of_decide_eq_true (by first | (with_reducible assumption) | assumption)
                                                          try (obtain ⟨Aq207, cq207, eq207⟩ := Kd.R_slice HO_6.out; subst eq207)
                                                          obtain ⟨ad207, e207, hx207_0⟩ := Kd.at_int (Kd.R_reads' HO_6.out).2.2 x54_2 p207 q207
                                                          cases e207
                                                          replace p207 := eq_true p207
                                                          replace q207 := eq_true q207
                                                          have p208 : 0 ≤ ((rd t200 x54_2) : Int) := of_decide_eq_true (by first | (with_reducible assumption) | assumption)
                                                          have q208 : (rd t200 x54_2) < (t194.length : Int) := of_decide_eq_true (by first | (with_reducible assumption) | assumption)
                                                          try (obtain ⟨Aq208, cq208, eq208⟩ := Kd.R_slice HO_6.out; subst eq208)
                                                          obtain ⟨ad208, e208, hx208_0⟩ := Kd.at_int (Kd.R_reads' HO_6.out).2.2 (rd t200 x54_2) p208 q208
                                                          obtain rfl : ad207 = ad208 := (by injection e208)
                                                          replace p208 := eq_true p208
                                                          replace q208 := eq_true q208
                                                          have p209 : 0 ≤ (x54_2 : Int) := of_decide_eq_true (by first | (with_reducible assumption) | assumption)
                                                          have q209 : x54_2 < (t194.length : Int) := of_decide_eq_true (by first | (with_reducible assumption) | assumption)
                                                          try (obtain ⟨Aq209, cq209, eq209⟩ := Kd.R_slice HO_6.out; subst eq209)
                                                          obtain ⟨ad209, e209, hx209_0⟩ := Kd.at_int (Kd.R_reads' HO_6.out).2.2 x54_2 p209 q209
                                                          obtain rfl : ad207 = ad209 := (by injection e209)
                                                          replace p209 := eq_true p209
                                                          replace q209 := eq_true q209
                                                          have p210 : 0 ≤ (x54_2 : Int) := of_decide_eq_true (by first | (with_reducible assumption) | assumption)
                                                          have q210 : x54_2 < (t194.length : Int) := of_decide_eq_true (by first | (with_reducible assumption) | assumption)
                                                          try (obtain ⟨Aq210, cq210, eq210⟩ := Kd.R_slice HO_6.out; subst eq210)
                                                          obtain ⟨ad210, e210, hx210_0⟩ := Kd.at_int (Kd.R_reads' HO_6.out).2.2 x54_2 p210 q210
                                                          obtain rfl : ad207 = ad210 := (by injection e210)
                                                          replace p210 := eq_true p210
                                                          replace q210 := eq_true q210
                                                          have p211 : 0 ≤ ((rd t200 x54_2) : Int) := of_decide_eq_true (by first | (with_reducible assumption) | assumption)
                                                          have q211 : (rd t200 x54_2) < (t194.length : Int) := of_decide_eq_true (by first | (with_reducible assumption) | assumption)
                                                          try (obtain ⟨Aq211, cq211, eq211⟩ := Kd.R_slice HO_6.out; subst eq211)
                                                          obtain ⟨ad211, e211, hx211_0⟩ := Kd.at_int (Kd.R_reads' HO_6.out).2.2 (rd t200 x54_2) p211 q211
                                                          obtain rfl : ad207 = ad211 := (by injection e211)
                                                          replace p211 := eq_true p211
                                                          replace q211 := eq_true q211
                                                          go_wp2
                                                          repeat (go_quiet (fail); try go_wp2)
                                                          go_roundg kj30
                                                          case measure => have := HJ9.out; have := HK2.out; have := HJ25.out; have := HJ30.out; omega
                                                          case rel => exact ⟨(false), (wrap64 (x54_2 + 1)), (by first | rfl | (simp; done) | (simp [*]; done)), (by first | rfl | (simp; done) | (simp [*]; done)), H', ⟨by have := HJ9.out; have := HK2.out; have := HJ25.out; have := HJ30.out; omega⟩, ⟨by (with_reducible repeat (first | apply Kd.R_alloc | apply Kd.R_drewN | apply Kd.R_drew)); (first | exact HO_5.out | exact Kd.R_mono HO_5.out (fun _ hk => ⟨trivial, hk⟩) | exact Kd.R_mono HO_5.out (fun _ hk => hk.2) | exact Kd.R_mono HO_5.out (fun _ hk => ⟨trivial, hk.2⟩))⟩, ⟨by (with_reducible repeat (first | apply Kd.R_alloc | apply Kd.R_drewN | apply Kd.R_drew)); (first | exact HO_6.out | exact Kd.R_mono HO_6.out (fun _ hk => ⟨trivial, hk⟩) | exact Kd.R_mono HO_6.out (fun _ hk => hk.2) | exact Kd.R_mono HO_6.out (fun _ hk => ⟨trivial, hk.2⟩))⟩, ⟨by (with_reducible repeat (first | apply Kd.R_alloc | apply Kd.R_drewN | apply Kd.R_drew)); (first | exact HO_8.out | exact Kd.R_mono HO_8.out (fun _ hk => ⟨trivial, hk⟩) | exact Kd.R_mono HO_8.out (fun _ hk => hk.2) | exact Kd.R_mono HO_8.out (fun _ hk => ⟨trivial, hk.2⟩))⟩, ⟨by repeat (first | (with_reducible first | exact HB.out | apply below_alloc | apply pw_below_drewN | apply below_drew1) | exact HB.out)⟩⟩
                                                        · rw [if_neg c52] at H
                                                          have c52b0 : ((rd t194 x54_2) == (rd t194 (rd t200 x54_2))) = false := beq_eq_false_iff_ne.mpr c52
                                                          have c52b1 : ((rd t194 x54_2) != (rd t194 (rd t200 x54_2))) = true := bne_iff_ne.mpr c52
                                                          obtain rfl := Option.some.inj H
                                                          obtain ⟨Ao56, co56, eo56⟩ := Kd.R_slice HO_8.out
                                                          subst eo56
                                                          have p204 : 0 ≤ (x54_2 : Int) := of_decide_eq_true (by first | (with_reducible assumption) | assumption)
                                                          have q204 : x54_2 < (t200.length : Int) := of_decide_eq_true (by first | (with_reducible assumption) | assumption)
                                                          try (obtain ⟨Aq204, cq204, eq204⟩ := Kd.R_slice HO_8.out; subst eq204)
                                                          obtain ⟨ad204, e204, hx204_0⟩ := Kd.at_int (Kd.R_reads' HO_8.out).2.2 x54_2 p204 q204
                                                          cases e204
                                                          replace p204 := eq_true p204
                                                          replace q204 := eq_true q204
                                                          obtain ⟨Ao57, co57, eo57⟩ := Kd.R_slice HO_5.out
                                                          subst eo57
                                                          have p205 : 0 ≤ ((rd t200 x54_2) : Int) := of_decide_eq_true (by first | (with_reducible assumption) | assumption)
                                                          have q205 : (rd t200 x54_2) < (t193.length : Int) := of_decide_eq_true (by first | (with_reducible assumption) | assumption)
                                                          try (obtain ⟨Aq205, cq205, eq205⟩ := Kd.R_slice HO_5.out; subst eq205)
                                                          obtain ⟨ad205, e205, hx205_0⟩ := Kd.at_int (Kd.R_reads' HO_5.out).2.2 (rd t200 x54_2) p205 q205
                                                          cases e205
                                                          replace p205 := eq_true p205
                                                          replace q205 := eq_true q205
                                                          have p206 : 0 ≤ (x54_2 : Int) := of_decide_eq_true (by first | (with_reducible assumption) | assumption)
                                                          have q206 : x54_2 < (t193.length : Int) := of_decide_eq_true (by first | (with_reducible assumption) | assumption)
                                                          try (obtain ⟨Aq206, cq206, eq206⟩ := Kd.R_slice HO_5.out; subst eq206)
                                                          obtain ⟨ad206, e206, hx206_0⟩ := Kd.at_int (Kd.R_reads' HO_5.out).2.2 x54_2 p206 q206
                                                          obtain rfl : ad205 = ad206 := (by injection e206)
                                                          replace p206 := eq_true p206
                                                          replace q206 := eq_true q206
                                                          obtain ⟨Ao58, co58, eo58⟩ := Kd.R_slice HO_6.out
                                                          subst eo58
                                                          have p207 : 0 ≤ (x54_2 : Int) := of_decide_eq_true (by first | (with_reducible assumption) | assumption)
                                                          have q207 : x54_2 < (t194.length : Int) := of_decide_eq_true (by first | (with_reducible assumption) | assumption)
                                                          try (obtain ⟨Aq207, cq207, eq207⟩ := Kd.R_slice HO_6.out; subst eq207)
                                                          obtain ⟨ad207, e207, hx207_0⟩ := Kd.at_int (Kd.R_reads' HO_6.out).2.2 x54_2 p207 q207
                                                          cases e207
                                                          replace p207 := eq_true p207
                                                          replace q207 := eq_true q207
                                                          have p208 : 0 ≤ ((rd t200 x54_2) : Int) := of_decide_eq_true (by first | (with_reducible assumption) | assumption)
                                                          have q208 : (rd t200 x54_2) < (t194.length : Int) := of_decide_eq_true (by first | (with_reducible assumption) | assumption)
                                                          try (obtain ⟨Aq208, cq208, eq208⟩ := Kd.R_slice HO_6.out; subst eq208)
                                                          obtain ⟨ad208, e208, hx208_0⟩ := Kd.at_int (Kd.R_reads' HO_6.out).2.2 (rd t200 x54_2) p208 q208
                                                          obtain rfl : ad207 = ad208 := (by injection e208)
                                                          replace p208 := eq_true p208
                                                          replace q208 := eq_true q208
                                                          have p209 : 0 ≤ (x54_2 : Int) := of_decide_eq_true (by first | (with_reducible assumption) | assumption)
                                                          have q209 : x54_2 < (t194.length : Int) := of_decide_eq_true (by first | (with_reducible assumption) | assumption)
                                                          try (obtain ⟨Aq209, cq209, eq209⟩ := Kd.R_slice HO_6.out; subst eq209)
                                                          obtain ⟨ad209, e209, hx209_0⟩ := Kd.at_int (Kd.R_reads' HO_6.out).2.2 x54_2 p209 q209
                                                          obtain rfl : ad207 = ad209 := (by injection e209)
                                                          replace p209 := eq_true p209
                                                          replace q209 := eq_true q209
                                                          have p210 : 0 ≤ (x54_2 : Int) := of_decide_eq_true (by first | (with_reducible assumption) | assumption)
                                                          have q210 : x54_2 < (t194.length : Int) := of_decide_eq_true (by first | (with_reducible assumption) | assumption)
                                                          try (obtain ⟨Aq210, cq210, eq210⟩ := Kd.R_slice HO_6.out; subst eq210)
                                                          obtain ⟨ad210, e210, hx210_0⟩ := Kd.at_int (Kd.R_reads' HO_6.out).2.2 x54_2 p210 q210
                                                          obtain rfl : ad207 = ad210 := (by injection e210)
                                                          replace p210 := eq_true p210
                                                          replace q210 := eq_true q210
                                                          have p211 : 0 ≤ ((rd t200 x54_2) : Int) := of_decide_eq_true (by first | (with_reducible assumption) | assumption)
                                                          have q211 : (rd t200 x54_2) < (t194.length : Int) := of_decide_eq_true (by first | (with_reducible assumption) | assumption)
                                                          try (obtain ⟨Aq211, cq211, eq211⟩ := Kd.R_slice HO_6.out; subst eq211)
                                                          obtain ⟨ad211, e211, hx211_0⟩ := Kd.at_int (Kd.R_reads' HO_6.out).2.2 (rd t200 x54_2) p211 q211
                                                          obtain rfl : ad207 = ad211 := (by injection e211)
                                                          replace p211 := eq_true p211
                                                          replace q211 := eq_true q211
                                                          go_wp2
                                                          repeat (go_quiet (fail); try go_wp2)
                                                          go_ret
                                                          exact ⟨by first | rfl | (simp [errW_none, errW_some] <;> rfl) | (simp [*, errW_none, errW_some] <;> rfl), by repeat (first | (with_reducible first | exact HB.out | apply below_alloc | apply pw_below_drewN | apply below_drew1) | exact HB.out)⟩
                                                  · rw [if_neg c43] at H
                                                    exact absurd H (by simp)
                                                · rw [if_neg c42] at H
                                                  exact absurd H (by simp)
                                              · rw [if_neg c41] at H
                                                have c41b0 : ((rd t193 (rd t200 x54_2)) == (rd t193 x54_2)) = false := beq_eq_false_iff_ne.mpr c41
                                                have c41b1 : ((rd t193 (rd t200 x54_2)) != (rd t193 x54_2)) = true := bne_iff_ne.mpr c41
                                                obtain rfl := Option.some.inj H
                                                obtain ⟨Ao59, co59, eo59⟩ := Kd.R_slice HO_8.out
                                                subst eo59
                                                have p204 : 0 ≤ (x54_2 : Int) := of_decide_eq_true (by first | (with_reducible assumption) | assumption)
                                                have q204 : x54_2 < (t200.length : Int) := of_decide_eq_true (by first | (with_reducible assumption) | assumption)
                                                try (obtain ⟨Aq204, cq204, eq204⟩ := Kd.R_slice HO_8.out; subst eq204)
                                                obtain ⟨ad204, e204, hx204_0⟩ := Kd.at_int (Kd.R_reads' HO_8.out).2.2 x54_2 p204 q204
                                                cases e204
                                                replace p204 := eq_true p204
                                                replace q204 := eq_true q204
                                                obtain ⟨Ao60, co60, eo60⟩ := Kd.R_slice HO_5.out
                                                subst eo60
                                                have p205 : 0 ≤ ((rd t200 x54_2) : Int) := of_decide_eq_true (by first | (with_reducible assumption) | assumption)
                                                have q205 : (rd t200 x54_2) < (t193.length : Int) := of_decide_eq_true (by first | (with_reducible assumption) | assumption)
                                                try (obtain ⟨Aq205, cq205, eq205⟩ := Kd.R_slice HO_5.out; subst eq205)
                                                obtain ⟨ad205, e205, hx205_0⟩ := Kd.at_int (Kd.R_reads' HO_5.out).2.2 (rd t200 x54_2) p205 q205
                                                cases e205
                                                replace p205 := eq_true p205
                                                replace q205 := eq_true q205
                                                have p206 : 0 ≤ (x54_2 : Int) := of_decide_eq_true (by first | (with_reducible assumption) | assumption)
                                                have q206 : x54_2 < (t193.length : Int) := of_decide_eq_true (by first | (with_reducible assumption) | assumption)
                                                try (obtain ⟨Aq206, cq206, eq206⟩ := Kd.R_slice HO_5.out; subst eq206)
                                                obtain ⟨ad206, e206, hx206_0⟩ := Kd.at_int (Kd.R_reads' HO_5.out).2.2 x54_2 p206 q206
                                                obtain rfl : ad205 = ad206 := (by injection e206)
                                                replace p206 := eq_true p206
                                                replace q206 := eq_true q206
                                                go_wp2
                                                repeat (go_quiet (fail); try go_wp2)
                                                go_ret
                                                exact ⟨by first | rfl | (simp [errW_none, errW_some] <;> rfl) | (simp [*, errW_none, errW_some] <;> rfl), by repeat (first | (with_reducible first | exact HB.out | apply below_alloc | apply pw_below_drewN | apply below_drew1) | exact HB.out)⟩
                                            · rw [if_neg c40] at H
                                              exact absurd H (by simp)
                                          · rw [if_neg c39] at H
                                            exact absurd H (by simp)
                                        · rw [if_neg c38] at H
                                          exact absurd H (by simp)
                                      · rw [if_neg c37] at H
                                        have c37b0 : decide ((rd t200 x54_2) < (l0.length : Int)) = false := decide_eq_false c37
                                        clear c37
                                        have H' := Aside0.mk H
                                        clear H
                                        obtain ⟨Ao61, co61, eo61⟩ := Kd.R_slice HO_8.out
                                        subst eo61
                                        have p204 : 0 ≤ (x54_2 : Int) := of_decide_eq_true (by first | (with_reducible assumption) | assumption)
                                        have q204 : x54_2 < (t200.length : Int) := of_decide_eq_true (by first | (with_reducible assumption) | assumption)
                                        try (obtain ⟨Aq204, cq204, eq204⟩ := Kd.R_slice HO_8.out; subst eq204)
                                        obtain ⟨ad204, e204, hx204_0⟩ := Kd.at_int (Kd.R_reads' HO_8.out).2.2 x54_2 p204 q204
                                        cases e204
                                        replace p204 := eq_true p204
                                        replace q204 := eq_true q204
                                        go_wp2
                                        repeat (go_quiet (fail); try go_wp2)
                                        go_roundg kj30
                                        case measure => have := HJ9.out; have := HK2.out; have := HJ25.out; have := HJ30.out; omega
                                        case rel => exact ⟨(false), (wrap64 (x54_2 + 1)), (by first | rfl | (simp; done) | (simp [*]; done)), (by first | rfl | (simp; done) | (simp [*]; done)), H', ⟨by have := HJ9.out; have := HK2.out; have := HJ25.out; have := HJ30.out; omega⟩, ⟨by (with_reducible repeat (first | apply Kd.R_alloc | apply Kd.R_drewN | apply Kd.R_drew)); (first | exact HO_5.out | exact Kd.R_mono HO_5.out (fun _ hk => ⟨trivial, hk⟩) | exact Kd.R_mono HO_5.out (fun _ hk => hk.2) | exact Kd.R_mono HO_5.out (fun _ hk => ⟨trivial, hk.2⟩))⟩, ⟨by (with_reducible repeat (first | apply Kd.R_alloc | apply Kd.R_drewN | apply Kd.R_drew)); (first | exact HO_6.out | exact Kd.R_mono HO_6.out (fun _ hk => ⟨trivial, hk⟩) | exact Kd.R_mono HO_6.out (fun _ hk => hk.2) | exact Kd.R_mono HO_6.out (fun _ hk => ⟨trivial, hk.2⟩))⟩, ⟨by (with_reducible repeat (first | apply Kd.R_alloc | apply Kd.R_drewN | apply Kd.R_drew)); (first | exact HO_8.out | exact Kd.R_mono HO_8.out (fun _ hk => ⟨trivial, hk⟩) | exact Kd.R_mono HO_8.out (fun _ hk => hk.2) | exact Kd.R_mono HO_8.out (fun _ hk => ⟨trivial, hk.2⟩))⟩, ⟨by repeat (first | (with_reducible first | exact HB.out | apply below_alloc | apply pw_below_drewN | apply below_drew1) | exact HB.out)⟩⟩
                                    · rw [if_neg c36] at H
                                      exact absurd H (by simp)
                                  · rw [if_neg c35] at H
                                    exact absurd H (by simp)
                                · replace c34 := Bool.eq_false_iff.mpr c34
                                  subst c34
                                  have H1 : (colophonlaw07_ExplicitPairs.l0 kj30 l0 a1 t193 t194 t200 x9_25 l0 (l0.length : Int) (wrap64 (x54_2 + 1))) = some r := by rw [if_neg (show ¬ (false = true) by decide)] at H; exact H
                                  clear H
                                  have H := H1
                                  clear H1
                                  have H' := Aside0.mk H
                                  clear H
                                  go_wp2
                                  repeat (go_quiet (fail); try go_wp2)
                                  go_roundg kj30
                                  case measure => have := HJ9.out; have := HK2.out; have := HJ25.out; have := HJ30.out; omega
                                  case rel => exact ⟨(x9_25), (wrap64 (x54_2 + 1)), (by first | rfl | (simp; done) | (simp [*]; done)), (by first | rfl | (simp; done) | (simp [*]; done)), H', ⟨by have := HJ9.out; have := HK2.out; have := HJ25.out; have := HJ30.out; omega⟩, ⟨by (with_reducible repeat (first | apply Kd.R_alloc | apply Kd.R_drewN | apply Kd.R_drew)); (first | exact HO_5.out | exact Kd.R_mono HO_5.out (fun _ hk => ⟨trivial, hk⟩) | exact Kd.R_mono HO_5.out (fun _ hk => hk.2) | exact Kd.R_mono HO_5.out (fun _ hk => ⟨trivial, hk.2⟩))⟩, ⟨by (with_reducible repeat (first | apply Kd.R_alloc | apply Kd.R_drewN | apply Kd.R_drew)); (first | exact HO_6.out | exact Kd.R_mono HO_6.out (fun _ hk => ⟨trivial, hk⟩) | exact Kd.R_mono HO_6.out (fun _ hk => hk.2) | exact Kd.R_mono HO_6.out (fun _ hk => ⟨trivial, hk.2⟩))⟩, ⟨by (with_reducible repeat (first | apply Kd.R_alloc | apply Kd.R_drewN | apply Kd.R_drew)); (first | exact HO_8.out | exact Kd.R_mono HO_8.out (fun _ hk => ⟨trivial, hk⟩) | exact Kd.R_mono HO_8.out (fun _ hk => hk.2) | exact Kd.R_mono HO_8.out (fun _ hk => ⟨trivial, hk.2⟩))⟩, ⟨by repeat (first | (with_reducible first | exact HB.out | apply below_alloc | apply pw_below_drewN | apply below_drew1) | exact HB.out)⟩⟩
                      · rw [if_neg c25] at H
                        exact absurd H (by simp)
                    · rw [if_neg c24] at H
                      exact absurd H (by simp)
                  · as_aux_lemma =>
                    rw [if_neg c23] at H
                    have c23b0 : decide (x54_2 < (l0.length : Int)) = false := decide_eq_false c23
                    clear c23
                    have H' := Aside0.mk H
                    clear H
                    go_wp2
                    repeat (go_quiet (fail); try go_wp2)
                    go_loopg [13] k2 (fun kq v13 w' => ∃ (x13_3 : Int), v13 = .int .i64 x13_3 ∧ Aside0 (colophonlaw07_ExplicitPairs.l1 kq l0 a1 t193 t194 x9_2 x13_3 = some r) ∧ Aside0 (kq ≤ k2) ∧ Aside0 (Kd.R (Kd.int .i64) 3 w' w.heap.size (fun k_ => some k_ ≠ (v198 : Value).ownBlock) v196 t193) ∧ Aside0 (Kd.R (Kd.int .i64) 3 w' w.heap.size (fun k_ => some k_ ≠ (v196 : Value).ownBlock) v198 t194) ∧ Aside0 (Below w.heap.size w w'))
                    case atStart => exact ⟨(0), (by first | rfl | (simp; done) | (simp [*]; done)), H', ⟨Nat.le_refl _⟩, ⟨by (with_reducible repeat (first | apply Kd.R_alloc | apply Kd.R_drewN | apply Kd.R_drew)); (first | exact Kd.R_mono HO_5.out (fun _ hk => hk.1) | exact HO_5.out | exact Kd.R_mono HO_5.out (fun _ hk => ⟨trivial, hk⟩) | exact Kd.R_mono HO_5.out (fun _ hk => hk.2) | exact Kd.R_mono HO_5.out (fun _ hk => ⟨trivial, hk.2⟩))⟩, ⟨by (with_reducible repeat (first | apply Kd.R_alloc | apply Kd.R_drewN | apply Kd.R_drew)); (first | exact Kd.R_mono HO_6.out (fun _ hk => hk.1) | exact HO_6.out | exact Kd.R_mono HO_6.out (fun _ hk => ⟨trivial, hk⟩) | exact Kd.R_mono HO_6.out (fun _ hk => hk.2) | exact Kd.R_mono HO_6.out (fun _ hk => ⟨trivial, hk.2⟩))⟩, ⟨by repeat (first | (with_reducible first | exact HB.out | apply below_alloc | apply pw_below_drewN | apply below_drew1) | exact HB.out)⟩⟩
                    case round =>
                      clear H'
                      try clear c1
                      try clear c2
                      try clear p2
                      try clear q2
                      try clear hx2
                      try clear c3
                      try clear c4
                      try clear c5
                      try clear c5b0
                      try clear c5b1
                      try clear p6
                      try clear c8
                      try clear c8b0
                      try clear c8b1
                      try clear c14
                      try clear c14b0
                      try clear c14b1
                      try clear c14b2
                      try clear c15
                      try clear c15b0
                      try clear c15b1
                      try clear c15b2
                      try clear p20
                      try clear q20
                      try clear hx20
                      try clear p21
                      try clear q21
                      try clear hx21
                      try clear c22
                      try clear c23
                      try clear c23b0
                      try clear c24
                      try clear c24b0
                      try clear c25
                      try clear c25b0
                      try clear c27
                      try clear c28
                      try clear c28b0
                      try clear c28b1
                      try clear c29
                      try clear c29b0
                      try clear c29b1
                      try clear c30
                      try clear c30b0
                      try clear c30b1
                      try clear c32
                      try clear c32b0
                      try clear c32b1
                      try clear c33
                      try clear c33b0
                      try clear c33b1
                      try clear c34
                      try clear c35
                      try clear c35b0
                      try clear c36
                      try clear c36b0
                      try clear c37
                      try clear c37b0
                      try clear c38
                      try clear c38b0
                      try clear c39
                      try clear c39b0
                      try clear c40
                      try clear c40b0
                      try clear c41
                      try clear c41b0
                      try clear c41b1
                      try clear c42
                      try clear c42b0
                      try clear c43
                      try clear c43b0
                      try clear c44
                      try clear c44b0
                      try clear c44b1
                      try clear c44b2
                      try clear c48
                      try clear c48b0
                      try clear c48b1
                      try clear c52
                      try clear c52b0
                      try clear c52b1
                      try clear hx203_0
                      try clear hx204_0
                      try clear hx205_0
                      try clear hx206_0
                      try clear hx207_0
                      try clear hx208_0
                      try clear hx209_0
                      try clear hx210_0
                      try clear hx211_0
                      try clear p2
                      try clear p20
                      try clear p203
                      try clear p204
                      try clear p205
                      try clear p206
                      try clear p207
                      try clear p208
                      try clear p209
                      try clear p210
                      try clear p211
                      try clear q2
                      try clear q20
                      try clear q203
                      try clear q204
                      try clear q205
                      try clear q206
                      try clear q207
                      try clear q208
                      try clear q209
                      try clear q210
                      try clear q211
                      obtain ⟨x13_3, rfl, HA, HK3, HO_5, HO_6, HB⟩ := hrel
                      cases gk with
                      | zero => exact absurd HA.out (by simp [colophonlaw07_ExplicitPairs.l1])
                      | succ k3 =>
                        have H := HA.out
                        clear HA
                        simp only [colophonlaw07_ExplicitPairs.l1] at H
                        have HC62 := Aside0.mk H
                        clear H
                        go_upto_region 23 with (fail)
                        repeat (go_quiet (fail); go_upto_region 23 with (fail))
                        go_cut [145] (fun v145 wc => ∃ (kq : Nat) (x145_61 : Bool), v145 = .bool x145_61 ∧ Aside0 (colophonlaw07_ExplicitPairs.j5 kq l0 a1 t193 t194 x9_2 x13_3 x145_61 = some r) ∧ Aside0 (kq ≤ k3) ∧ Aside0 (Kd.R (Kd.int .i64) 3 wc w.heap.size (fun k_ => some k_ ≠ (v198 : Value).ownBlock) v196 t193) ∧ Aside0 (Kd.R (Kd.int .i64) 3 wc w.heap.size (fun k_ => some k_ ≠ (v196 : Value).ownBlock) v198 t194) ∧ Aside0 (Below w.heap.size w wc))
                        case first =>
                          have H := HC62.out
                          clear HC62
                          by_cases c63 : x13_3 < (l0.length : Int)
                          · rw [if_pos c63] at H
                            have c63b0 : decide (x13_3 < (l0.length : Int)) = true := decide_eq_true c63
                            clear c63
                            (first | rw [c63b0] | (simp only [i64_w, i32_w]; rw [c63b0]) | skip)
                            have H' := Aside0.mk H
                            clear H
                            go_wp2
                            repeat (go_quiet (fail); try go_wp2)
                            go_meet
                            case rel => exact ⟨_, (x9_2), (by first | rfl | (simp; done) | (simp [*]; done)), H', ⟨by have := HJ9.out; have := HK2.out; have := HK3.out; first | omega | exact Nat.le_refl _⟩, ⟨by (with_reducible repeat (first | apply Kd.R_alloc | apply Kd.R_drewN | apply Kd.R_drew)); (first | exact HO_5.out | exact Kd.R_mono HO_5.out (fun _ hk => ⟨trivial, hk⟩) | exact Kd.R_mono HO_5.out (fun _ hk => hk.2) | exact Kd.R_mono HO_5.out (fun _ hk => ⟨trivial, hk.2⟩))⟩, ⟨by (with_reducible repeat (first | apply Kd.R_alloc | apply Kd.R_drewN | apply Kd.R_drew)); (first | exact HO_6.out | exact Kd.R_mono HO_6.out (fun _ hk => ⟨trivial, hk⟩) | exact Kd.R_mono HO_6.out (fun _ hk => hk.2) | exact Kd.R_mono HO_6.out (fun _ hk => ⟨trivial, hk.2⟩))⟩, ⟨by repeat (first | (with_reducible first | exact HB.out | apply below_alloc | apply pw_below_drewN | apply below_drew1) | exact HB.out)⟩⟩
                          · rw [if_neg c63] at H
                            have c63b0 : decide (x13_3 < (l0.length : Int)) = false := decide_eq_false c63
                            clear c63
                            (first | rw [c63b0] | (simp only [i64_w, i32_w]; rw [c63b0]) | skip)
                            have H' := Aside0.mk H
                            clear H
                            go_wp2
                            repeat (go_quiet (fail); try go_wp2)
                            go_meet
                            case rel => exact ⟨_, (false), (by first | rfl | (simp; done) | (simp [*]; done)), H', ⟨by have := HJ9.out; have := HK2.out; have := HK3.out; first | omega | exact Nat.le_refl _⟩, ⟨by (with_reducible repeat (first | apply Kd.R_alloc | apply Kd.R_drewN | apply Kd.R_drew)); (first | exact HO_5.out | exact Kd.R_mono HO_5.out (fun _ hk => ⟨trivial, hk⟩) | exact Kd.R_mono HO_5.out (fun _ hk => hk.2) | exact Kd.R_mono HO_5.out (fun _ hk => ⟨trivial, hk.2⟩))⟩, ⟨by (with_reducible repeat (first | apply Kd.R_alloc | apply Kd.R_drewN | apply Kd.R_drew)); (first | exact HO_6.out | exact Kd.R_mono HO_6.out (fun _ hk => ⟨trivial, hk⟩) | exact Kd.R_mono HO_6.out (fun _ hk => hk.2) | exact Kd.R_mono HO_6.out (fun _ hk => ⟨trivial, hk.2⟩))⟩, ⟨by repeat (first | (with_reducible first | exact HB.out | apply below_alloc | apply pw_below_drewN | apply below_drew1) | exact HB.out)⟩⟩
                        case rest =>
                          clear HC62
                          try clear c1
                          try clear c2
                          try clear p2
                          try clear q2
                          try clear hx2
                          try clear c3
                          try clear c4
                          try clear c5
                          try clear c5b0
                          try clear c5b1
                          try clear c6
                          try clear p6
                          try clear c8
                          try clear c8b0
                          try clear c8b1
                          try clear c14
                          try clear c14b0
                          try clear c14b1
                          try clear c14b2
                          try clear c15
                          try clear c15b0
                          try clear c15b1
                          try clear c15b2
                          try clear p20
                          try clear q20
                          try clear hx20
                          try clear p21
                          try clear q21
                          try clear hx21
                          try clear c22
                          try clear c23
                          try clear c23b0
                          try clear c24
                          try clear c24b0
                          try clear c25
                          try clear c25b0
                          try clear c27
                          try clear c28
                          try clear c28b0
                          try clear c28b1
                          try clear c29
                          try clear c29b0
                          try clear c29b1
                          try clear c30
                          try clear c30b0
                          try clear c30b1
                          try clear c32
                          try clear c32b0
                          try clear c32b1
                          try clear c33
                          try clear c33b0
                          try clear c33b1
                          try clear c34
                          try clear c35
                          try clear c35b0
                          try clear c36
                          try clear c36b0
                          try clear c37
                          try clear c37b0
                          try clear c38
                          try clear c38b0
                          try clear c39
                          try clear c39b0
                          try clear c40
                          try clear c40b0
                          try clear c41
                          try clear c41b0
                          try clear c41b1
                          try clear c42
                          try clear c42b0
                          try clear c43
                          try clear c43b0
                          try clear c44
                          try clear c44b0
                          try clear c44b1
                          try clear c44b2
                          try clear c48
                          try clear c48b0
                          try clear c48b1
                          try clear c52
                          try clear c52b0
                          try clear c52b1
                          try clear c63
                          try clear c63b0
                          try clear hx203_0
                          try clear hx204_0
                          try clear hx205_0
                          try clear hx206_0
                          try clear hx207_0
                          try clear hx208_0
                          try clear hx209_0
                          try clear hx210_0
                          try clear hx211_0
                          try clear p2
                          try clear p20
                          try clear p203
                          try clear p204
                          try clear p205
                          try clear p206
                          try clear p207
                          try clear p208
                          try clear p209
                          try clear p21
                          try clear p210
                          try clear p211
                          try clear p6
                          try clear q2
                          try clear q20
                          try clear q203
                          try clear q204
                          try clear q205
                          try clear q206
                          try clear q207
                          try clear q208
                          try clear q209
                          try clear q21
                          try clear q210
                          try clear q211
                          obtain ⟨kq, x145_61, rfl, HA, HJ61, HO_5, HO_6, HB⟩ := hcut
                          cases kq with
                          | zero => exact absurd HA.out (by simp [colophonlaw07_ExplicitPairs.j5])
                          | succ kj61 =>
                            have H := HA.out
                            clear HA
                            simp only [colophonlaw07_ExplicitPairs.j5] at H
                            by_cases c64 : x145_61 = true
                            · as_aux_lemma =>
                              subst c64
                              have H1 : (if 0 ≤ x13_3 then (if x13_3 < (t193.length : Int) then (if (rd t193 x13_3) = a1 then (if x13_3 < (t194.length : Int) then (if x13_3 < (l0.length : Int) then (if (rd t194 x13_3) = (rd l0 x13_3) then (colophonlaw07_ExplicitPairs.l1 kj61 l0 a1 t193 t194 x9_2 (wrap64 (x13_3 + 1))) else (some false)) else (none)) else (none)) else (if (rd t193 x13_3) = (-1) then (if x13_3 < (t194.length : Int) then (if x13_3 < (l0.length : Int) then (if (rd t194 x13_3) = (rd l0 x13_3) then (colophonlaw07_ExplicitPairs.l1 kj61 l0 a1 t193 t194 x9_2 (wrap64 (x13_3 + 1))) else (some false)) else (none)) else (none)) else (some false))) else (none)) else (none)) = some r := by rw [if_pos rfl] at H; exact H
                              clear H
                              have H := H1
                              clear H1
                              by_cases c65 : 0 ≤ x13_3
                              · as_aux_lemma =>
                                rw [if_pos c65] at H
                                have c65b0 : decide (0 ≤ x13_3) = true := decide_eq_true c65
                                clear c65
                                by_cases c66 : x13_3 < (t193.length : Int)
                                · as_aux_lemma =>
                                  rw [if_pos c66] at H
                                  have c66b0 : decide (x13_3 < (t193.length : Int)) = true := decide_eq_true c66
                                  clear c66
                                  by_cases c67 : (rd t193 x13_3) = a1
                                  · rw [if_pos c67] at H
                                    have c67b0 : ((rd t193 x13_3) == a1) = true := beq_iff_eq.mpr c67
                                    have c67b1 : ((rd t193 x13_3) != a1) = false := bne_eq_false_iff_eq.mpr c67
                                    clear c67
                                    by_cases c68 : x13_3 < (t194.length : Int)
                                    · rw [if_pos c68] at H
                                      have c68b0 : decide (x13_3 < (t194.length : Int)) = true := decide_eq_true c68
                                      clear c68
                                      by_cases c69 : x13_3 < (l0.length : Int)
                                      · rw [if_pos c69] at H
                                        have c69b0 : decide (x13_3 < (l0.length : Int)) = true := decide_eq_true c69
                                        clear c69
                                        by_cases c70 : (rd t194 x13_3) = (rd l0 x13_3)
                                        · rw [if_pos c70] at H
                                          have c70b0 : ((rd t194 x13_3) == (rd l0 x13_3)) = true := beq_iff_eq.mpr c70
                                          have c70b1 : ((rd t194 x13_3) != (rd l0 x13_3)) = false := bne_eq_false_iff_eq.mpr c70
                                          clear c70
                                          have H' := Aside0.mk H
                                          clear H
                                          obtain ⟨Ao71, co71, eo71⟩ := Kd.R_slice HO_5.out
                                          subst eo71
                                          have p212 : 0 ≤ (x13_3 : Int) := of_decide_eq_true (by first | (with_reducible assumption) | assumption)
                                          have q212 : x13_3 < (t193.length : Int) := of_decide_eq_true (by first | (with_reducible assumption) | assumption)
                                          try (obtain ⟨Aq212, cq212, eq212⟩ := Kd.R_slice HO_5.out; subst eq212)
                                          obtain ⟨ad212, e212, hx212_0⟩ := Kd.at_int (Kd.R_reads' HO_5.out).2.2 x13_3 p212 q212
                                          cases e212
                                          replace p212 := eq_true p212
                                          replace q212 := eq_true q212
                                          obtain ⟨Ao72, co72, eo72⟩ := Kd.R_slice HO_6.out
                                          subst eo72
                                          have p213 : 0 ≤ (x13_3 : Int) := of_decide_eq_true (by first | (with_reducible assumption) | assumption)
                                          have q213 : x13_3 < (t194.length : Int) := of_decide_eq_true (by first | (with_reducible assumption) | assumption)
                                          try (obtain ⟨Aq213, cq213, eq213⟩ := Kd.R_slice HO_6.out; subst eq213)
                                          obtain ⟨ad213, e213, hx213_0⟩ := Kd.at_int (Kd.R_reads' HO_6.out).2.2 x13_3 p213 q213
                                          cases e213
                                          replace p213 := eq_true p213
                                          replace q213 := eq_true q213
                                          have p214 : 0 ≤ (x13_3 : Int) := of_decide_eq_true (by first | (with_reducible assumption) | assumption)
                                          have q214 : x13_3 < (l0.length : Int) := of_decide_eq_true (by first | (with_reducible assumption) | assumption)
                                          obtain ⟨ad214, e214, hx214_0⟩ := Kd.at_int HR0.out x13_3 p214 q214
                                          cases e214
                                          replace hx214_0 := (HB.out.cell (World.block_lt_of_cell? w _ hx214_0)).trans hx214_0
                                          replace p214 := eq_true p214
                                          replace q214 := eq_true q214
                                          go_wp2
                                          repeat (go_quiet (fail); try go_wp2)
                                          go_roundg kj61
                                          case measure => have := HJ9.out; have := HK2.out; have := HK3.out; have := HJ61.out; omega
                                          case rel => exact ⟨(wrap64 (x13_3 + 1)), (by first | rfl | (simp; done) | (simp [*]; done)), H', ⟨by have := HJ9.out; have := HK2.out; have := HK3.out; have := HJ61.out; omega⟩, ⟨by (with_reducible repeat (first | apply Kd.R_alloc | apply Kd.R_drewN | apply Kd.R_drew)); (first | exact HO_5.out | exact Kd.R_mono HO_5.out (fun _ hk => ⟨trivial, hk⟩) | exact Kd.R_mono HO_5.out (fun _ hk => hk.2) | exact Kd.R_mono HO_5.out (fun _ hk => ⟨trivial, hk.2⟩))⟩, ⟨by (with_reducible repeat (first | apply Kd.R_alloc | apply Kd.R_drewN | apply Kd.R_drew)); (first | exact HO_6.out | exact Kd.R_mono HO_6.out (fun _ hk => ⟨trivial, hk⟩) | exact Kd.R_mono HO_6.out (fun _ hk => hk.2) | exact Kd.R_mono HO_6.out (fun _ hk => ⟨trivial, hk.2⟩))⟩, ⟨by repeat (first | (with_reducible first | exact HB.out | apply below_alloc | apply pw_below_drewN | apply below_drew1) | exact HB.out)⟩⟩
                                        · rw [if_neg c70] at H
                                          have c70b0 : ((rd t194 x13_3) == (rd l0 x13_3)) = false := beq_eq_false_iff_ne.mpr c70
                                          have c70b1 : ((rd t194 x13_3) != (rd l0 x13_3)) = true := bne_iff_ne.mpr c70
                                          obtain rfl := Option.some.inj H
                                          obtain ⟨Ao73, co73, eo73⟩ := Kd.R_slice HO_5.out
                                          subst eo73
                                          have p212 : 0 ≤ (x13_3 : Int) := of_decide_eq_true (by first | (with_reducible assumption) | assumption)
                                          have q212 : x13_3 < (t193.length : Int) := of_decide_eq_true (by first | (with_reducible assumption) | assumption)
                                          try (obtain ⟨Aq212, cq212, eq212⟩ := Kd.R_slice HO_5.out; subst eq212)
                                          obtain ⟨ad212, e212, hx212_0⟩ := Kd.at_int (Kd.R_reads' HO_5.out).2.2 x13_3 p212 q212
                                          cases e212
                                          replace p212 := eq_true p212
                                          replace q212 := eq_true q212
                                          obtain ⟨Ao74, co74, eo74⟩ := Kd.R_slice HO_6.out
                                          subst eo74
                                          have p213 : 0 ≤ (x13_3 : Int) := of_decide_eq_true (by first | (with_reducible assumption) | assumption)
                                          have q213 : x13_3 < (t194.length : Int) := of_decide_eq_true (by first | (with_reducible assumption) | assumption)
                                          try (obtain ⟨Aq213, cq213, eq213⟩ := Kd.R_slice HO_6.out; subst eq213)
                                          obtain ⟨ad213, e213, hx213_0⟩ := Kd.at_int (Kd.R_reads' HO_6.out).2.2 x13_3 p213 q213
                                          cases e213
                                          replace p213 := eq_true p213
                                          replace q213 := eq_true q213
                                          have p214 : 0 ≤ (x13_3 : Int) := of_decide_eq_true (by first | (with_reducible assumption) | assumption)
                                          have q214 : x13_3 < (l0.length : Int) := of_decide_eq_true (by first | (with_reducible assumption) | assumption)
                                          obtain ⟨ad214, e214, hx214_0⟩ := Kd.at_int HR0.out x13_3 p214 q214
                                          cases e214
                                          replace hx214_0 := (HB.out.cell (World.block_lt_of_cell? w _ hx214_0)).trans hx214_0
                                          replace p214 := eq_true p214
                                          replace q214 := eq_true q214
                                          go_wp2
                                          repeat (go_quiet (fail); try go_wp2)
                                          go_ret
                                          exact ⟨by first | rfl | (simp [errW_none, errW_some] <;> rfl) | (simp [*, errW_none, errW_some] <;> rfl), by repeat (first | (with_reducible first | exact HB.out | apply below_alloc | apply pw_below_drewN | apply below_drew1) | exact HB.out)⟩
                                      · rw [if_neg c69] at H
                                        exact absurd H (by simp)
                                    · rw [if_neg c68] at H
                                      exact absurd H (by simp)
                                  · as_aux_lemma =>
                                    rw [if_neg c67] at H
                                    have c67b0 : ((rd t193 x13_3) == a1) = false := beq_eq_false_iff_ne.mpr c67
                                    have c67b1 : ((rd t193 x13_3) != a1) = true := bne_iff_ne.mpr c67
                                    by_cases c75 : (rd t193 x13_3) = (-1)
                                    · rw [if_pos c75] at H
                                      have c75b0 : ((rd t193 x13_3) == (-1)) = true := beq_iff_eq.mpr c75
                                      have c75b1 : ((rd t193 x13_3) != (-1)) = false := bne_eq_false_iff_eq.mpr c75
                                      clear c75
                                      by_cases c76 : x13_3 < (t194.length : Int)
                                      · rw [if_pos c76] at H
                                        have c76b0 : decide (x13_3 < (t194.length : Int)) = true := decide_eq_true c76
                                        clear c76
                                        by_cases c77 : x13_3 < (l0.length : Int)
                                        · rw [if_pos c77] at H
                                          have c77b0 : decide (x13_3 < (l0.length : Int)) = true := decide_eq_true c77
                                          clear c77
                                          by_cases c78 : (rd t194 x13_3) = (rd l0 x13_3)
                                          · rw [if_pos c78] at H
                                            have c78b0 : ((rd t194 x13_3) == (rd l0 x13_3)) = true := beq_iff_eq.mpr c78
                                            have c78b1 : ((rd t194 x13_3) != (rd l0 x13_3)) = false := bne_eq_false_iff_eq.mpr c78
                                            clear c78
                                            have H' := Aside0.mk H
                                            clear H
                                            obtain ⟨Ao79, co79, eo79⟩ := Kd.R_slice HO_5.out
                                            subst eo79
                                            have p212 : 0 ≤ (x13_3 : Int) := of_decide_eq_true (by first | (with_reducible assumption) | assumption)
                                            have q212 : x13_3 < (t193.length : Int) := of_decide_eq_true (by first | (with_reducible assumption) | assumption)
                                            try (obtain ⟨Aq212, cq212, eq212⟩ := Kd.R_slice HO_5.out; subst eq212)
                                            obtain ⟨ad212, e212, hx212_0⟩ := Kd.at_int (Kd.R_reads' HO_5.out).2.2 x13_3 p212 q212
                                            cases e212
                                            replace p212 := eq_true p212
                                            replace q212 := eq_true q212
                                            have p215 : 0 ≤ (x13_3 : Int) := of_decide_eq_true (by first | (with_reducible assumption) | assumption)
                                            have q215 : x13_3 < (t193.length : Int) := of_decide_eq_true (by first | (with_reducible assumption) | assumption)
                                            try (obtain ⟨Aq215, cq215, eq215⟩ := Kd.R_slice HO_5.out; subst eq215)
                                            obtain ⟨ad215, e215, hx215_0⟩ := Kd.at_int (Kd.R_reads' HO_5.out).2.2 x13_3 p215 q215
                                            obtain rfl : ad212 = ad215 := (by injection e215)
                                            replace p215 := eq_true p215
                                            replace q215 := eq_true q215
                                            obtain ⟨Ao80, co80, eo80⟩ := Kd.R_slice HO_6.out
                                            subst eo80
                                            have p216 : 0 ≤ (x13_3 : Int) := of_decide_eq_true (by first | (with_reducible assumption) | assumption)
                                            have q216 : x13_3 < (t194.length : Int) := of_decide_eq_true (by first | (with_reducible assumption) | assumption)
                                            try (obtain ⟨Aq216, cq216, eq216⟩ := Kd.R_slice HO_6.out; subst eq216)
                                            obtain ⟨ad216, e216, hx216_0⟩ := Kd.at_int (Kd.R_reads' HO_6.out).2.2 x13_3 p216 q216
                                            cases e216
                                            replace p216 := eq_true p216
                                            replace q216 := eq_true q216
                                            have p217 : 0 ≤ (x13_3 : Int) := of_decide_eq_true (by first | (with_reducible assumption) | assumption)
                                            have q217 : x13_3 < (l0.length : Int) := of_decide_eq_true (by first | (with_reducible assumption) | assumption)
                                            obtain ⟨ad217, e217, hx217_0⟩ := Kd.at_int HR0.out x13_3 p217 q217
                                            cases e217
                                            replace hx217_0 := (HB.out.cell (World.block_lt_of_cell? w _ hx217_0)).trans hx217_0
                                            replace p217 := eq_true p217
                                            replace q217 := eq_true q217
                                            go_wp2
                                            repeat (go_quiet (fail); try go_wp2)
                                            go_roundg kj61
                                            case measure => have := HJ9.out; have := HK2.out; have := HK3.out; have := HJ61.out; omega
                                            case rel => exact ⟨(wrap64 (x13_3 + 1)), (by first | rfl | (simp; done) | (simp [*]; done)), H', ⟨by have := HJ9.out; have := HK2.out; have := HK3.out; have := HJ61.out; omega⟩, ⟨by (with_reducible repeat (first | apply Kd.R_alloc | apply Kd.R_drewN | apply Kd.R_drew)); (first | exact HO_5.out | exact Kd.R_mono HO_5.out (fun _ hk => ⟨trivial, hk⟩) | exact Kd.R_mono HO_5.out (fun _ hk => hk.2) | exact Kd.R_mono HO_5.out (fun _ hk => ⟨trivial, hk.2⟩))⟩, ⟨by (with_reducible repeat (first | apply Kd.R_alloc | apply Kd.R_drewN | apply Kd.R_drew)); (first | exact HO_6.out | exact Kd.R_mono HO_6.out (fun _ hk => ⟨trivial, hk⟩) | exact Kd.R_mono HO_6.out (fun _ hk => hk.2) | exact Kd.R_mono HO_6.out (fun _ hk => ⟨trivial, hk.2⟩))⟩, ⟨by repeat (first | (with_reducible first | exact HB.out | apply below_alloc | apply pw_below_drewN | apply below_drew1) | exact HB.out)⟩⟩
                                          · rw [if_neg c78] at H
                                            have c78b0 : ((rd t194 x13_3) == (rd l0 x13_3)) = false := beq_eq_false_iff_ne.mpr c78
                                            have c78b1 : ((rd t194 x13_3) != (rd l0 x13_3)) = true := bne_iff_ne.mpr c78
                                            obtain rfl := Option.some.inj H
                                            obtain ⟨Ao81, co81, eo81⟩ := Kd.R_slice HO_5.out
                                            subst eo81
                                            have p212 : 0 ≤ (x13_3 : Int) := of_decide_eq_true (by first | (with_reducible assumption) | assumption)
                                            have q212 : x13_3 < (t193.length : Int) := of_decide_eq_true (by first | (with_reducible assumption) | assumption)
                                            try (obtain ⟨Aq212, cq212, eq212⟩ := Kd.R_slice HO_5.out; subst eq212)
                                            obtain ⟨ad212, e212, hx212_0⟩ := Kd.at_int (Kd.R_reads' HO_5.out).2.2 x13_3 p212 q212
                                            cases e212
                                            replace p212 := eq_true p212
                                            replace q212 := eq_true q212
                                            have p215 : 0 ≤ (x13_3 : Int) := of_decide_eq_true (by first | (with_reducible assumption) | assumption)
                                            have q215 : x13_3 < (t193.length : Int) := of_decide_eq_true (by first | (with_reducible assumption) | assumption)
                                            try (obtain ⟨Aq215, cq215, eq215⟩ := Kd.R_slice HO_5.out; subst eq215)
                                            obtain ⟨ad215, e215, hx215_0⟩ := Kd.at_int (Kd.R_reads' HO_5.out).2.2 x13_3 p215 q215
                                            obtain rfl : ad212 = ad215 := (by injection e215)
                                            replace p215 := eq_true p215
                                            replace q215 := eq_true q215
                                            obtain ⟨Ao82, co82, eo82⟩ := Kd.R_slice HO_6.out
                                            subst eo82
                                            have p216 : 0 ≤ (x13_3 : Int) := of_decide_eq_true (by first | (with_reducible assumption) | assumption)
                                            have q216 : x13_3 < (t194.length : Int) := of_decide_eq_true (by first | (with_reducible assumption) | assumption)
                                            try (obtain ⟨Aq216, cq216, eq216⟩ := Kd.R_slice HO_6.out; subst eq216)
                                            obtain ⟨ad216, e216, hx216_0⟩ := Kd.at_int (Kd.R_reads' HO_6.out).2.2 x13_3 p216 q216
                                            cases e216
                                            replace p216 := eq_true p216
                                            replace q216 := eq_true q216
                                            have p217 : 0 ≤ (x13_3 : Int) := of_decide_eq_true (by first | (with_reducible assumption) | assumption)
                                            have q217 : x13_3 < (l0.length : Int) := of_decide_eq_true (by first | (with_reducible assumption) | assumption)
                                            obtain ⟨ad217, e217, hx217_0⟩ := Kd.at_int HR0.out x13_3 p217 q217
                                            cases e217
                                            replace hx217_0 := (HB.out.cell (World.block_lt_of_cell? w _ hx217_0)).trans hx217_0
                                            replace p217 := eq_true p217
                                            replace q217 := eq_true q217
                                            go_wp2
                                            repeat (go_quiet (fail); try go_wp2)
                                            go_ret
                                            exact ⟨by first | rfl | (simp [errW_none, errW_some] <;> rfl) | (simp [*, errW_none, errW_some] <;> rfl), by repeat (first | (with_reducible first | exact HB.out | apply below_alloc | apply pw_below_drewN | apply below_drew1) | exact HB.out)⟩
                                        · rw [if_neg c77] at H
                                          exact absurd H (by simp)
                                      · rw [if_neg c76] at H
                                        exact absurd H (by simp)
                                    · rw [if_neg c75] at H
                                      have c75b0 : ((rd t193 x13_3) == (-1)) = false := beq_eq_false_iff_ne.mpr c75
                                      have c75b1 : ((rd t193 x13_3) != (-1)) = true := bne_iff_ne.mpr c75
                                      obtain rfl := Option.some.inj H
                                      obtain ⟨Ao83, co83, eo83⟩ := Kd.R_slice HO_5.out
                                      subst eo83
                                      have p212 : 0 ≤ (x13_3 : Int) := of_decide_eq_true (by first | (with_reducible assumption) | assumption)
                                      have q212 : x13_3 < (t193.length : Int) := of_decide_eq_true (by first | (with_reducible assumption) | assumption)
                                      try (obtain ⟨Aq212, cq212, eq212⟩ := Kd.R_slice HO_5.out; subst eq212)
                                      obtain ⟨ad212, e212, hx212_0⟩ := Kd.at_int (Kd.R_reads' HO_5.out).2.2 x13_3 p212 q212
                                      cases e212
                                      replace p212 := eq_true p212
                                      replace q212 := eq_true q212
                                      have p215 : 0 ≤ (x13_3 : Int) := of_decide_eq_true (by first | (with_reducible assumption) | assumption)
                                      have q215 : x13_3 < (t193.length : Int) := of_decide_eq_true (by first | (with_reducible assumption) | assumption)
                                      try (obtain ⟨Aq215, cq215, eq215⟩ := Kd.R_slice HO_5.out; subst eq215)
                                      obtain ⟨ad215, e215, hx215_0⟩ := Kd.at_int (Kd.R_reads' HO_5.out).2.2 x13_3 p215 q215
                                      obtain rfl : ad212 = ad215 := (by injection e215)
                                      replace p215 := eq_true p215
                                      replace q215 := eq_true q215
                                      go_wp2
                                      repeat (go_quiet (fail); try go_wp2)
                                      go_ret
                                      exact ⟨by first | rfl | (simp [errW_none, errW_some] <;> rfl) | (simp [*, errW_none, errW_some] <;> rfl), by repeat (first | (with_reducible first | exact HB.out | apply below_alloc | apply pw_below_drewN | apply below_drew1) | exact HB.out)⟩
                                · rw [if_neg c66] at H
                                  exact absurd H (by simp)
                              · rw [if_neg c65] at H
                                exact absurd H (by simp)
                            · replace c64 := Bool.eq_false_iff.mpr c64
                              subst c64
                              have H1 : (some true) = some r := by rw [if_neg (show ¬ (false = true) by decide)] at H; exact H
                              clear H
                              have H := H1
                              clear H1
                              obtain rfl := Option.some.inj H
                              go_wp2
                              repeat (go_quiet (fail); try go_wp2)
                              go_ret
                              exact ⟨by first | rfl | (simp [errW_none, errW_some] <;> rfl) | (simp [*, errW_none, errW_some] <;> rfl), by repeat (first | (with_reducible first | exact HB.out | apply below_alloc | apply pw_below_drewN | apply below_drew1) | exact HB.out)⟩
      · rw [if_neg c8] at H
        have c8b0 : (t195 == 0) = false := beq_eq_false_iff_ne.mpr c8
        have c8b1 : (t195 != 0) = true := bne_iff_ne.mpr c8
        obtain rfl := Option.some.inj H
        go_enter Try.func4, Try.ntmps4
        go_wp2_with (first | (go_at_call 9; (with_reducible refine (colophonlaw07_works.calls k  true _ A3.out).mono ?_); rintro e w84 ⟨rfl, hb⟩; have n0_ := Aside0.mk (below_step (by repeat (first | (with_reducible first | exact HB.out | apply below_alloc | apply pw_below_drewN | apply below_drew1) | exact HB.out)) hb); clear HB; have HB := n0_; clear n0_; (try clear hb); (try clear hb2); (try clear hk); (try clear hi)) | (go_at_call 10; (with_reducible refine (explicit_Resolve.calls _ _ l0 a1 t193 t194 t195 _ ?side1 ?side2 A7.out).mono ?_); (case side1 => repeat (first | exact (Kd.C_below HR0.out HB.out) | (with_reducible refine Kd.C_alloc ?_ _) | (with_reducible refine Kd.C_drewN ?_ _) | (with_reducible refine Kd.C_drew ?_))); (case side2 => exact HC0.out); rintro e w85 ⟨v196, v198, rfl, ho0, ho1, hb⟩; have n0_ := Aside0.mk (Kd.R_lower ho0 (below_size (by repeat (first | (with_reducible first | exact HB.out | apply below_alloc | apply pw_below_drewN | apply below_drew1) | exact HB.out)))); have n1_ := Aside0.mk (Kd.R_lower ho1 (below_size (by repeat (first | (with_reducible first | exact HB.out | apply below_alloc | apply pw_below_drewN | apply below_drew1) | exact HB.out)))); have n2_ := Aside0.mk (below_step (by repeat (first | (with_reducible first | exact HB.out | apply below_alloc | apply pw_below_drewN | apply below_drew1) | exact HB.out)) hb); clear HB; have HO197 := n0_; have HO199 := n1_; have HB := n2_; clear n0_ n1_ n2_; (try clear hb); (try clear hb2); (try clear hk); (try clear hi); (try clear ho0); (try clear ho1); obtain ⟨Ao86, co86, eo86⟩ := Kd.R_slice HO197.out; subst eo86))
        repeat (go_quiet (first | (go_at_call 9; (with_reducible refine (colophonlaw07_works.calls k  true _ A3.out).mono ?_); rintro e w84 ⟨rfl, hb⟩; have n0_ := Aside0.mk (below_step (by repeat (first | (with_reducible first | exact HB.out | apply below_alloc | apply pw_below_drewN | apply below_drew1) | exact HB.out)) hb); clear HB; have HB := n0_; clear n0_; (try clear hb); (try clear hb2); (try clear hk); (try clear hi)) | (go_at_call 10; (with_reducible refine (explicit_Resolve.calls _ _ l0 a1 t193 t194 t195 _ ?side1 ?side2 A7.out).mono ?_); (case side1 => repeat (first | exact (Kd.C_below HR0.out HB.out) | (with_reducible refine Kd.C_alloc ?_ _) | (with_reducible refine Kd.C_drewN ?_ _) | (with_reducible refine Kd.C_drew ?_))); (case side2 => exact HC0.out); rintro e w85 ⟨v196, v198, rfl, ho0, ho1, hb⟩; have n0_ := Aside0.mk (Kd.R_lower ho0 (below_size (by repeat (first | (with_reducible first | exact HB.out | apply below_alloc | apply pw_below_drewN | apply below_drew1) | exact HB.out)))); have n1_ := Aside0.mk (Kd.R_lower ho1 (below_size (by repeat (first | (with_reducible first | exact HB.out | apply below_alloc | apply pw_below_drewN | apply below_drew1) | exact HB.out)))); have n2_ := Aside0.mk (below_step (by repeat (first | (with_reducible first | exact HB.out | apply below_alloc | apply pw_below_drewN | apply below_drew1) | exact HB.out)) hb); clear HB; have HO197 := n0_; have HO199 := n1_; have HB := n2_; clear n0_ n1_ n2_; (try clear hb); (try clear hb2); (try clear hk); (try clear hi); (try clear ho0); (try clear ho1); obtain ⟨Ao86, co86, eo86⟩ := Kd.R_slice HO197.out; subst eo86)); try go_wp2_with (first | (go_at_call 9; (with_reducible refine (colophonlaw07_works.calls k  true _ A3.out).mono ?_); rintro e w84 ⟨rfl, hb⟩; have n0_ := Aside0.mk (below_step (by repeat (first | (with_reducible first | exact HB.out | apply below_alloc | apply pw_below_drewN | apply below_drew1) | exact HB.out)) hb); clear HB; have HB := n0_; clear n0_; (try clear hb); (try clear hb2); (try clear hk); (try clear hi)) | (go_at_call 10; (with_reducible refine (explicit_Resolve.calls _ _ l0 a1 t193 t194 t195 _ ?side1 ?side2 A7.out).mono ?_); (case side1 => repeat (first | exact (Kd.C_below HR0.out HB.out) | (with_reducible refine Kd.C_alloc ?_ _) | (with_reducible refine Kd.C_drewN ?_ _) | (with_reducible refine Kd.C_drew ?_))); (case side2 => exact HC0.out); rintro e w85 ⟨v196, v198, rfl, ho0, ho1, hb⟩; have n0_ := Aside0.mk (Kd.R_lower ho0 (below_size (by repeat (first | (with_reducible first | exact HB.out | apply below_alloc | apply pw_below_drewN | apply below_drew1) | exact HB.out)))); have n1_ := Aside0.mk (Kd.R_lower ho1 (below_size (by repeat (first | (with_reducible first | exact HB.out | apply below_alloc | apply pw_below_drewN | apply below_drew1) | exact HB.out)))); have n2_ := Aside0.mk (below_step (by repeat (first | (with_reducible first | exact HB.out | apply below_alloc | apply pw_below_drewN | apply below_drew1) | exact HB.out)) hb); clear HB; have HO197 := n0_; have HO199 := n1_; have HB := n2_; clear n0_ n1_ n2_; (try clear hb); (try clear hb2); (try clear hk); (try clear hi); (try clear ho0); (try clear ho1); obtain ⟨Ao86, co86, eo86⟩ := Kd.R_slice HO197.out; subst eo86)))
        go_ret
        exact ⟨by first | rfl | (simp [errW_none, errW_some] <;> rfl) | (simp [*, errW_none, errW_some] <;> rfl), by repeat (first | (with_reducible first | exact HB.out | apply below_alloc | apply pw_below_drewN | apply below_drew1) | exact HB.out)⟩
  · replace c4 := Bool.eq_false_iff.mpr c4
    subst c4
    have H1 : (some false) = some r := by rw [if_neg (show ¬ (false = true) by decide)] at H; exact H
    clear H
    have H := H1
    clear H1
    obtain rfl := Option.some.inj H
    go_enter Try.func4, Try.ntmps4
    go_wp2_with (first | (go_at_call 9; (with_reducible refine (colophonlaw07_works.calls k  false _ A3.out).mono ?_); rintro e w87 ⟨rfl, hb⟩; have n0_ := Aside0.mk (below_step (by repeat (first | (with_reducible first | exact HB.out | apply below_alloc | apply pw_below_drewN | apply below_drew1) | exact HB.out)) hb); clear HB; have HB := n0_; clear n0_; (try clear hb); (try clear hb2); (try clear hk); (try clear hi)))
    repeat (go_quiet (first | (go_at_call 9; (with_reducible refine (colophonlaw07_works.calls k  false _ A3.out).mono ?_); rintro e w87 ⟨rfl, hb⟩; have n0_ := Aside0.mk (below_step (by repeat (first | (with_reducible first | exact HB.out | apply below_alloc | apply pw_below_drewN | apply below_drew1) | exact HB.out)) hb); clear HB; have HB := n0_; clear n0_; (try clear hb); (try clear hb2); (try clear hk); (try clear hi))); try go_wp2_with (first | (go_at_call 9; (with_reducible refine (colophonlaw07_works.calls k  false _ A3.out).mono ?_); rintro e w87 ⟨rfl, hb⟩; have n0_ := Aside0.mk (below_step (by repeat (first | (with_reducible first | exact HB.out | apply below_alloc | apply pw_below_drewN | apply below_drew1) | exact HB.out)) hb); clear HB; have HB := n0_; clear n0_; (try clear hb); (try clear hb2); (try clear hk); (try clear hi))))
    go_ret
    exact ⟨by first | rfl | (simp [errW_none, errW_some] <;> rfl) | (simp [*, errW_none, errW_some] <;> rfl), by repeat (first | (with_reducible first | exact HB.out | apply below_alloc | apply pw_below_drewN | apply below_drew1) | exact HB.out)⟩

/-- THE ONE PURE STATEMENT of colophonlaw07_ExplicitPairs: yours. -/
def colophonlaw07_ExplicitPairs.Pure : Prop := ∀ (l0 : List Int) (a1 : Int), l0.length ≤ maxLen → l0.length * 8 ≤ 140737488351232 → (∀ x ∈ l0, (Lit.int .i64 x).wf = true) → (Lit.int .i64 a1).wf = true → ∃ k, colophonlaw07_ExplicitPairs.f k l0 a1 = some true
theorem colophonlaw07_ExplicitPairs.walk (P : colophonlaw07_ExplicitPairs.Pure) (a0 : Option Addr) (len0 cap0 : Nat) (z0 : List Int) (a1 : Int) (w : World) (w0 : (a0 = none ∧ len0 = 0 ∧ cap0 = 0 ∧ z0 = []) ∨ ∃ x, a0 = some x ∧ len0 ≤ cap0 ∧ cap0 ≤ maxLen ∧ z0.length = cap0 ∧ (∀ i, i < z0.length → w.cell? (x.add i) = some (.int .i64 (z0.getD i 0))) ∧ ∀ n ∈ z0, (Lit.int .i64 n).wf = true) (y0 : len0 * 8 ≤ 140737488351232) (w1 : (Lit.int .i64 a1).wf = true) :
    Calls Try.prog 4 #[.slice a0 len0 cap0, .int .i64 a1] w fun e w' => e = .returned (.bool true) ∧ Below w.heap.size w w' := by
  obtain ⟨l0, rfl, hr0, hm0, hw0, hc0⟩ := ReadsInt.ofRowC w0
  obtain ⟨k, h⟩ := P l0 a1 hm0 y0 hw0 w1
  refine (colophonlaw07_ExplicitPairs.calls k _ _ l0 a1 true w (Kd.C_of_reads (d := (0 : Int)) (h1 := fun _ => rfl) hr0) hc0 h).mono ?_
  rintro e w' ⟨rfl, hd⟩
  exact ⟨rfl, hd⟩

end Go.Proofs.Ythokljlalgclkaa.X
