/- The law CacheTurned behind its printed function. -/
import Derived.Test.YtogapedacdnfcaaDoorX5
import Derived.Test.YtogapedacdnfcaaDoorHBackL
namespace Go.Proofs.YtogapedacdnfcaaDoor.X
open Go.RowKit Go.Proofs.YtogapedacdnfcaaDoorW.PrintWords Go.Proofs.YtogapedacdnfcaaDoorW.PrintLast Go.Proofs.YtogapedacdnfcaaDoorW.PrintMore Go.Proofs.YtogapedacdnfcaaDoor.G
set_option linter.unusedVariables false
def colophonlaw25_CacheTurned.Pure : Prop := ∀ (a0 a1 a2 : Int) (l : List Int) (x y : Int), (Lit.int .u64 a0).wf = true → (Lit.int .i64 a1).wf = true → (Lit.int .i64 a2).wf = true → (∀ n ∈ l, (Lit.int .i64 n).wf = true) → (Lit.int .i64 x).wf = true → (Lit.int .u32 y).wf = true → ∃ k, colophonlaw25_CacheTurned.f k a0 a1 a2 l x y = some true
theorem colophonlaw25_CacheTurned.walk (P : colophonlaw25_CacheTurned.Pure) (a0_0 a0_1 a0_2 : Int) (A0 : Option Addr) (n0 c0 : Nat) (z0 : List Int) (a1 a2 : Int) (w : World) (hT : Tab w) (w00 : (Lit.int .u64 a0_0).wf = true) (w01 : (Lit.int .i64 a0_1).wf = true) (w02 : (Lit.int .i64 a0_2).wf = true) (w03 : CameIn .i64 w A0 n0 c0 z0) (w1 : (Lit.int .i64 a1).wf = true) (w2 : (Lit.int .u32 a2).wf = true) :
    Calls Tryd.prog 5 #[.agg #[.int .u64 a0_0, .int .i64 a0_1, .int .i64 a0_2, .slice A0 n0 c0], .int .i64 a1, .int .u32 a2] w fun e w' => e = .returned (.bool true) ∧ Below w.heap.size w w' := by
  obtain ⟨l0, rfl, hr0, hm0, hw0, hc0⟩ := ReadsInt.ofRowC w03
  obtain ⟨k, h⟩ := P a0_0 a0_1 a0_2 l0 a1 a2 w00 w01 w02 hw0 w1 w2
  exact colophonlaw25_CacheTurned.calls k a0_0 a0_1 a0_2 A0 c0 l0 a1 a2 true w hT (Kd.C_of_reads (d := (0 : Int)) (h1 := fun _ => rfl) hr0) hc0 h
end Go.Proofs.YtogapedacdnfcaaDoor.X
