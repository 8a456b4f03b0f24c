/- The document's Open, all cases in one contract. -/
import Derived.Test.YtkocgfcoebodkaaDoorHRefOpen
namespace Go.Proofs.YtkocgfcoebodkaaDoor.X
open Go.RowKit Go.Proofs.YtkocgfcoebodkaaDoorW.PrintWords Go.Proofs.YtkocgfcoebodkaaDoorW.PrintLast Go.Proofs.YtkocgfcoebodkaaDoorW.PrintMore Go.Proofs.YtkocgfcoebodkaaDoor.G Go.Proofs.YtkocgfcoebodkaaDoor.T
set_option linter.unusedVariables false
set_option linter.unusedSimpArgs false

/-- What any bytes are as something sealed. -/
def RO (l : List Int) : List Int × Int := if l.length < 4 then ([], 20) else if l.drop (l.length - 4) = bytes4 (crc (l.take (l.length - 4))) then (l.take (l.length - 4), 0) else ([], 21)
theorem sums_Open_RO (l : List Int) (h : l.length < 140737488355324) : sums_Open.f l = some (RO l) := by
  by_cases h4 : l.length < 4
  · rw [sums_Open.f, if_pos h4, show RO l = ([], 20) from if_pos h4]
  · rw [Open_f l (by omega) h, show RO l = _ from if_neg h4]
/-- The answer of the document's Open: a row of what came in, or none. -/
def OpenPost (w : World) (X : List Int) (r : Int) (e : Ending) (w' : World) : Prop := ∃ A c, e = .returned (.tuple #[.slice A X.length c, .int .i64 r]) ∧ Kd.C (Kd.int .u8) w' A X.length X ∧ Below w.heap.size w w'
theorem refOpen_calls (A0 : Option Addr) (c0 : Nat) (l0 : List Int) (w : World) (hr0 : Kd.C (Kd.int .u8) w A0 l0.length l0) (hc0 : l0.length ≤ c0) (hw : Bytes l0) (hl : l0.length ≤ 140737488351232) :
    Calls Tryd.prog 21 #[.slice A0 l0.length c0] w (OpenPost w (RO l0).1 (RO l0).2) := by
  by_cases h4 : l0.length < 4
  · rw [show RO l0 = ([], 20) from if_pos h4]
    refine (refOpen_short A0 c0 l0 w h4).mono ?_
    rintro e w' ⟨rfl, rfl⟩
    exact ⟨none, 0, rfl, Kd.C_nil _ _, Below.refl _ _⟩
  · obtain ⟨ad, rfl⟩ : ∃ ad, A0 = some ad := by
      obtain ⟨ad, e, _⟩ := Kd.at_int hr0 0 (by omega) (by omega)
      exact ⟨ad, e⟩
    have hn : l0.length = (l0.length - 4) + 4 := by omega
    by_cases hf : l0.drop (l0.length - 4) = bytes4 (crc (l0.take (l0.length - 4)))
    · rw [show RO l0 = (l0.take (l0.length - 4), 0) from (if_neg h4).trans (if_pos hf)]
      refine (refOpen_yes ad c0 l0 w hr0 hc0 hw hl _ hn true (by rw [fits]; exact decide_eq_true ⟨by omega, hf⟩) _ _ rfl).mono ?_
      rintro e w' ⟨rfl, hb⟩
      have htl : (l0.take (l0.length - 4)).length = l0.length - 4 := by rw [List.length_take]; omega
      refine ⟨some ad, c0, by rw [htl], ?_, hb⟩
      exact Kd.C_take (Kd.C_below hr0 hb) (by omega)
    · rw [show RO l0 = ([], 21) from (if_neg h4).trans (if_neg hf)]
      refine (refOpen_yes ad c0 l0 w hr0 hc0 hw hl _ hn false (by rw [fits]; exact decide_eq_false (fun h => hf h.2)) _ _ rfl).mono ?_
      rintro e w' ⟨rfl, hb⟩
      exact ⟨none, 0, rfl, Kd.C_nil _ _, hb⟩
end Go.Proofs.YtkocgfcoebodkaaDoor.X
