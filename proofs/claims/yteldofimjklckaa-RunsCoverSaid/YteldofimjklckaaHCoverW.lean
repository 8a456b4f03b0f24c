/- RunsCover: what is refused; the whole. By hand. -/
import Derived.Test.YteldofimjklckaaHCover
namespace Go.Proofs.Yteldofimjklckaa.G
open Go.RowKit Go.Proofs.Yteldofimjklckaa.X Go.Proofs.YteldofimjklckaaW.PrintWords Go.Proofs.YteldofimjklckaaW.PrintLast Go.Proofs.YteldofimjklckaaW.PrintMore Go.Proofs.Yteldofimjklckaa.Exp Go.Proofs.Yteldofimjklckaa.Run Go.Proofs.Yteldofimjklckaa.Iso
set_option linter.unusedVariables false
set_option linter.unusedSimpArgs false

set_option maxHeartbeats 4000000 in
set_option maxRecDepth 100000 in
theorem cover_long (A0 : Option Addr) (c0 : Nat) (c : List Int) (base : Int) (w : World) (hl : 2000 < c.length) :
    Calls Try.prog 5 #[.slice A0 c.length c0, .int .i64 base] w (LawPost2 w) := by
  have b1 : decide ((2000 : Int) < (c.length : Int)) = true := decide_eq_true (by omega)
  have b2 : decide (2000 < c.length) = true := decide_eq_true (by omega)
  clear hl
  go_enter Try.func5, Try.ntmps5
  go_wp2_with (first | (go_at_call 9; refine (works_calls _).mono ?_; rintro e w1 ⟨rfl, hb1⟩))
  go_ret
  exact ⟨rfl, hb1⟩
set_option maxHeartbeats 4000000 in
set_option maxRecDepth 100000 in
theorem cover_bad (A0 : Option Addr) (c0 : Nat) (c : List Int) (base : Int) (w : World) (hr0 : Kd.C (Kd.int .i64) w A0 c.length c) (hc0 : c.length ≤ c0) (hl : c.length ≤ 2000) (n : Int) (hn : n ≠ 0) (hS : runs_Sequences.f c base = some ([], n)) (hR : explicit_Resolve.f c base = some ([], [], n)) :
    Calls Try.prog 5 #[.slice A0 c.length c0, .int .i64 base] w (LawPost2 w) := by
  have b1 : decide ((2000 : Int) < (c.length : Int)) = false := decide_eq_false (by omega)
  have b2 : decide (2000 < c.length) = false := decide_eq_false (by omega)
  have b3 : (n != 0) = true := by simpa using hn
  have HR0 := Aside0.mk hr0
  have HC0 := Aside0.mk hc0
  have HSQ := Aside0.mk hS
  have HRS := Aside0.mk hR
  clear hr0 hc0 hl hn hS hR
  go_enter Try.func5, Try.ntmps5
  go_wp2_with (first | (go_at_call 9; refine (works_calls _).mono ?_; rintro e w1 ⟨rfl, hb1⟩; refine of_halt ?_))
  unfold Halt
  have HB1 := Aside0.mk hb1
  clear hb1
  go_wp2_with (first | (go_at_call 16; refine of_halt ?_))
  unfold Halt
  refine (explicit_Resolve.calls A0 c0 c base _ _ _ _ (Kd.C_below HR0.out HB1.out) HC0.out HRS.out).mono ?_
  rintro e w2 ⟨vl, vt, rfl, _, _, hb2⟩
  have HB2 := Aside0.mk (below_step HB1.out hb2)
  clear hb2
  dsimp only
  go_wp2_with (first | (go_at_call 14; refine of_halt ?_))
  unfold Halt
  refine (runs_Sequences.calls A0 c0 c base _ _ _ (Kd.C_below HR0.out HB2.out) HC0.out HSQ.out).mono ?_
  rintro e w3 ⟨vs, rfl, hos, hb3⟩
  obtain ⟨As, cs, rfl, hcs, hCs⟩ := Kd.S_reads hos
  have HB3 := Aside0.mk (below_step HB2.out hb3)
  have b4 : (n != n) = false := by simp
  clear hos hb3 hcs hCs
  dsimp only [List.length_nil]
  go_wp2
  go_ret
  exact ⟨rfl, HB3.out⟩
theorem cover_calls (A0 : Option Addr) (c0 : Nat) (c : List Int) (base : Int) (w : World) (hr0 : Kd.C (Kd.int .i64) w A0 c.length c) (hc0 : c.length ≤ c0) :
    Calls Try.prog 5 #[.slice A0 c.length c0, .int .i64 base] w (LawPost2 w) := by
  by_cases hl : c.length ≤ 2000
  · by_cases hq : (base = 0 ∨ base = 1) ∧ formed c
    · exact cover_main A0 c0 c base w hr0 hc0 hl hq.1 hq.2
    · obtain ⟨n, h0, h1, h2⟩ := seq_no c base (by omega) hq
      exact cover_bad A0 c0 c base w hr0 hc0 hl n h0 h1 h2
  · exact cover_long A0 c0 c base w (by omega)
end Go.Proofs.Yteldofimjklckaa.G
namespace Go.Proofs.Yteldofimjklckaa.X
open Go.RowKit Go.Proofs.Yteldofimjklckaa.G Go.Proofs.YteldofimjklckaaW.PrintWords Go.Proofs.YteldofimjklckaaW.PrintLast Go.Proofs.YteldofimjklckaaW.PrintMore
set_option linter.unusedVariables false
def colophonlaw08_RunsCoverH.Pure : Prop := True
theorem colophonlaw08_RunsCoverH.walk (P : colophonlaw08_RunsCoverH.Pure) (a0 : Option Addr) (len0 cap0 : Nat) (z0 : List Int) (a1 : Int) (w : World) (w0 : (a0 = none ∧ len0 = 0 ∧ cap0 = 0 ∧ z0 = []) ∨ ∃ x, a0 = some x ∧ len0 ≤ cap0 ∧ cap0 ≤ maxLen ∧ z0.length = cap0 ∧ (∀ i, i < z0.length → w.cell? (x.add i) = some (.int .i64 (z0.getD i 0))) ∧ ∀ n ∈ z0, (Lit.int .i64 n).wf = true) (y0 : len0 * 8 ≤ 140737488351232) (w1 : (Lit.int .i64 a1).wf = true) :
    Calls Try.prog 5 #[.slice a0 len0 cap0, .int .i64 a1] w fun e w' => e = .returned (.bool true) ∧ Below w.heap.size w w' := by
  obtain ⟨l0, rfl, hr0, hm0, hw0, hc0⟩ := ReadsInt.ofRowC w0
  exact cover_calls _ _ l0 a1 w (Kd.C_of_reads (d := (0 : Int)) (h1 := fun _ => rfl) hr0) hc0
end Go.Proofs.Yteldofimjklckaa.X
namespace Go.Proofs.Yteldofimjklckaa.Pure
open Go.Proofs.Yteldofimjklckaa.X
theorem RunsCoverH : colophonlaw08_RunsCoverH.Pure := trivial
end Go.Proofs.Yteldofimjklckaa.Pure
