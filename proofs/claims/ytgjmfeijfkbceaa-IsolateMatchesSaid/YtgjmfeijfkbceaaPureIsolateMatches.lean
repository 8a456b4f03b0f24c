/- The pure statement of IsolateMatches: the program's matches and depths are the document's, for every list of classes (no condition). -/
import Derived.Test.YtgjmfeijfkbceaaX5
import Derived.Test.YtgjmfeijfkbceaaIsoFn
namespace Go.Proofs.Ytgjmfeijfkbceaa.Pure
open Go.RowKit Go.Proofs.Ytgjmfeijfkbceaa.X Go.Proofs.YtgjmfeijfkbceaaW.PrintWords Go.Proofs.YtgjmfeijfkbceaaW.PrintLast Go.Proofs.Ytgjmfeijfkbceaa.Iso

theorem IsolateMatches : colophonlaw06_IsolateMatches.Pure := by
  intro c hm hb hw
  have hc : c.length ≤ 17592186043904 := by omega
  refine Ev.rounds (g := fun k => colophonlaw06_IsolateMatches.f k c) ?_
  simp only [colophonlaw06_IsolateMatches.f]
  by_cases h : (c.length : Int) > 200
  · simp only [if_pos h]
    exact Ev.bind works_ev (Ev.now _)
  · simp only [if_neg h, Option.bind_some, List.nil_append, if_pos (show ([] : List Int).length + c.length < 17592186044416 by simp; omega)]
    refine Ev.bind (Match_ev c hc) ?_
    refine Ev.bind (refMatch_ev c hc) ?_
    refine Ev.bind (Ints_same (mts c) (by rw [mts_length]; omega)) ?_
    simp only [if_true]
    refine Ev.bind (Depth_ev c hc) ?_
    refine Ev.bind (refDepth_ev c hc) ?_
    refine Ev.bind (Ints_same (dps c) (by rw [dps_length]; omega)) ?_
    simp only [if_true]
    refine Ev.bind (Ints_same c (by omega)) ?_
    simp only [if_true]
    exact Ev.bind works_ev (Ev.now _)
end Go.Proofs.Ytgjmfeijfkbceaa.Pure
