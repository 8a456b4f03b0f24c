/- RunsLevels: the long ones; the whole. By hand. -/
import Derived.Test.YteldofimjklckaaHLevels
namespace Go.Proofs.Yteldofimjklckaa.G
open Go.RowKit Go.Proofs.Yteldofimjklckaa.X Go.Proofs.YteldofimjklckaaW.PrintWords Go.Proofs.YteldofimjklckaaW.PrintLast Go.Proofs.YteldofimjklckaaW.PrintMore Go.Proofs.Yteldofimjklckaa.Exp Go.Proofs.Yteldofimjklckaa.Run Go.Proofs.Yteldofimjklckaa.Iso
set_option linter.unusedVariables false
set_option linter.unusedSimpArgs false

set_option maxHeartbeats 4000000 in
set_option maxRecDepth 100000 in
theorem levels_long (A0 : Option Addr) (c0 : Nat) (l : List Int) (w : World) (hl : 300 < l.length) :
    Calls Try.prog 3 #[.slice A0 l.length c0] w (LawPost3 w) := by
  have b1 : decide ((300 : Int) < (l.length : Int)) = true := decide_eq_true (by omega)
  have b2 : decide (300 < l.length) = true := decide_eq_true (by omega)
  clear hl
  go_enter Try.func3, Try.ntmps3
  go_wp2_with (first | (go_at_call 9; refine (works_calls _).mono ?_; rintro e w1 ⟨rfl, hb1⟩))
  go_ret
  exact ⟨rfl, hb1⟩
theorem levels_calls (A0 : Option Addr) (c0 : Nat) (l : List Int) (w : World) (hr0 : Kd.C (Kd.int .i64) w A0 l.length l) (hc0 : l.length ≤ c0) :
    Calls Try.prog 3 #[.slice A0 l.length c0] w (LawPost3 w) := by
  by_cases hl : l.length ≤ 300
  · exact levels_main A0 c0 l w hr0 hc0 hl
  · exact levels_long A0 c0 l w (by omega)
end Go.Proofs.Yteldofimjklckaa.G
namespace Go.Proofs.Yteldofimjklckaa.X
open Go.RowKit Go.Proofs.Yteldofimjklckaa.G Go.Proofs.YteldofimjklckaaW.PrintWords Go.Proofs.YteldofimjklckaaW.PrintLast Go.Proofs.YteldofimjklckaaW.PrintMore
set_option linter.unusedVariables false
def colophonlaw08_RunsLevels.Pure : Prop := True
theorem colophonlaw08_RunsLevels.walk (P : colophonlaw08_RunsLevels.Pure) (a0 : Option Addr) (len0 cap0 : Nat) (z0 : List Int) (w : World) (w0 : (a0 = none ∧ len0 = 0 ∧ cap0 = 0 ∧ z0 = []) ∨ ∃ x, a0 = some x ∧ len0 ≤ cap0 ∧ cap0 ≤ maxLen ∧ z0.length = cap0 ∧ (∀ i, i < z0.length → w.cell? (x.add i) = some (.int .i64 (z0.getD i 0))) ∧ ∀ n ∈ z0, (Lit.int .i64 n).wf = true) (y0 : len0 * 8 ≤ 140737488351232) :
    Calls Try.prog 3 #[.slice a0 len0 cap0] w fun e w' => e = .returned (.bool true) ∧ Below w.heap.size w w' := by
  obtain ⟨l0, rfl, hr0, hm0, hw0, hc0⟩ := ReadsInt.ofRowC w0
  exact levels_calls _ _ l0 w (Kd.C_of_reads (d := (0 : Int)) (h1 := fun _ => rfl) hr0) hc0
end Go.Proofs.Yteldofimjklckaa.X
namespace Go.Proofs.Yteldofimjklckaa.Pure
open Go.Proofs.Yteldofimjklckaa.X
theorem RunsLevels : colophonlaw08_RunsLevels.Pure := trivial
end Go.Proofs.Yteldofimjklckaa.Pure
