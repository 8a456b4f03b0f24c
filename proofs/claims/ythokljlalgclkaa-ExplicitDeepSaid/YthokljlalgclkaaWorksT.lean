/- The chapter's examples hold. -/
import Derived.Test.YthokljlalgclkaaX3
import Derived.Test.YthokljlalgclkaaHRes
import Derived.Test.YthokljlalgclkaaIntsT
namespace Go.Proofs.Ythokljlalgclkaa.Exp
open Go.RowKit Go.Proofs.Ythokljlalgclkaa.X Go.Proofs.Ythokljlalgclkaa.G Go.Proofs.Ythokljlalgclkaa.Iso Go.Proofs.YthokljlalgclkaaW.PrintWords Go.Proofs.YthokljlalgclkaaW.PrintLast

theorem works_ev : Ev (fun k => colophonlaw07_works.f k) true := by
  simp only [colophonlaw07_works.f]
  have h1 : explicit_Resolve.f [18, 1, 14] 0 = some ([-1, 1, 1], [18, 2, 2], 0) := by decide +kernel
  have h2 : explicit_Resolve.f [20, 2, 23] 1 = some ([1, 2, 1], [20, 2, 23], 0) := by decide +kernel
  simp only [h1, h2, Option.bind_some, if_true]
  refine Ev.bind (T.Ints_ev _ _ (by decide)) ?_
  simp only [decide_true, if_true]
  refine Ev.bind (T.Ints_ev _ _ (by decide)) ?_
  simp only [decide_true, if_true]
  refine Ev.bind (T.Ints_ev _ _ (by decide)) ?_
  simp only [decide_true]
  exact Ev.now true
/-- What Resolve tells of a paragraph. -/
theorem res_ok (c : List Int) (base : Int) (hl : c.length ≤ 17592186043904) (hB : base = 0 ∨ base = 1) (hf : formed c) : explicit_Resolve.f c base = some (lvs c base, tys c base, 0) := by
  rw [explicit_Resolve.f, if_pos hl, if_neg (by omega), if_neg (by rw [(formedB_iff c).2 hf]; simp)]
theorem res_no (c : List Int) (base : Int) (hl : c.length ≤ 17592186043904) (h : ¬ ((base = 0 ∨ base = 1) ∧ formed c)) : ∃ e, e ≠ 0 ∧ explicit_Resolve.f c base = some ([], [], e) := by
  rw [explicit_Resolve.f, if_pos hl]
  by_cases h1 : base ≠ 0 ∧ base ≠ 1
  · exact ⟨2, by decide, by rw [if_pos h1]⟩
  · refine ⟨50, by decide, ?_⟩
    rw [if_neg h1, if_pos]
    cases hf : formedB c with
    | false => rfl
    | true => exact absurd ⟨by omega, (formedB_iff c).1 hf⟩ h
end Go.Proofs.Ythokljlalgclkaa.Exp
