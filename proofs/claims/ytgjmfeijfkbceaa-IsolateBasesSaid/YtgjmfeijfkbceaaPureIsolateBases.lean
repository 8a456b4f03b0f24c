/- The pure statement of IsolateBases: the program's base direction of any places is the document's (no condition). -/
import Derived.Test.YtgjmfeijfkbceaaX5
import Derived.Test.YtgjmfeijfkbceaaIsoFn
namespace Go.Proofs.Ytgjmfeijfkbceaa.Pure
open Go.RowKit Go.Proofs.Ytgjmfeijfkbceaa.X Go.Proofs.YtgjmfeijfkbceaaW.PrintWords Go.Proofs.YtgjmfeijfkbceaaW.PrintLast Go.Proofs.Ytgjmfeijfkbceaa.Iso

theorem IsolateBases : colophonlaw06_IsolateBases.Pure := by
  intro c a b hm hb hw ha hb'
  have hc : c.length ≤ 17592186043904 := by omega
  refine Ev.rounds (g := fun k => colophonlaw06_IsolateBases.f k c a b) ?_
  simp only [colophonlaw06_IsolateBases.f]
  by_cases h : (c.length : Int) > 2000
  · simp only [if_pos h]
    exact Ev.bind works_ev (Ev.now _)
  · simp only [if_neg h]
    have he : ∃ r : Int × Int, Ev (fun k => isolate_Base.f k c a b) r ∧ Ev (fun k => colophonref06_Base.f k c a b) r := by
      by_cases hr : a < 0 ∨ b > (c.length : Int) ∨ a > b
      · exact ⟨_, Base_bad c a b hr, refBase_bad c a b hr⟩
      · obtain ⟨a, rfl⟩ := Int.eq_ofNat_of_zero_le (show 0 ≤ a by omega)
        obtain ⟨b, rfl⟩ := Int.eq_ofNat_of_zero_le (show 0 ≤ b by omega)
        exact ⟨_, Base_ev c hc a b (by omega) (by omega), refBase_ev c hc a b (by omega) (by omega)⟩
    obtain ⟨r, h1, h2⟩ := he
    refine Ev.bind h1 ?_
    refine Ev.bind h2 ?_
    simp only [if_true]
    exact Ev.bind works_ev (Ev.now _)
end Go.Proofs.Ytgjmfeijfkbceaa.Pure
