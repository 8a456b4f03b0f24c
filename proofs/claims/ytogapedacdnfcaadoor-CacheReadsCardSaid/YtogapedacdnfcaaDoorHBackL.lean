/- The law CacheBack behind its printed function. -/
import Derived.Test.YtogapedacdnfcaaDoorX4
namespace Go.Proofs.YtogapedacdnfcaaDoor.X
open Go.RowKit Go.Proofs.YtogapedacdnfcaaDoorW.PrintWords Go.Proofs.YtogapedacdnfcaaDoorW.PrintLast Go.Proofs.YtogapedacdnfcaaDoorW.PrintMore Go.Proofs.YtogapedacdnfcaaDoor.G
set_option linter.unusedVariables false
/-- A row that came in, of whole numbers. -/
def CameIn (k : IntKind) (w : World) (a : Option Addr) (len cap : Nat) (z : List Int) : Prop := (a = none ∧ len = 0 ∧ cap = 0 ∧ z = []) ∨ ∃ x, a = some x ∧ len ≤ cap ∧ cap ≤ maxLen ∧ z.length = cap ∧ (∀ i, i < z.length → w.cell? (x.add i) = some (.int k (z.getD i 0))) ∧ ∀ n ∈ z, (Lit.int k n).wf = true
def colophonlaw25_CacheBack.Pure : Prop := ∀ (a0 a1 a2 : Int) (l b : List Int), (Lit.int .u64 a0).wf = true → (Lit.int .i64 a1).wf = true → (Lit.int .i64 a2).wf = true → (∀ n ∈ l, (Lit.int .i64 n).wf = true) → (∀ n ∈ b, (Lit.int .u8 n).wf = true) → b.length ≤ 140737488351232 → ∃ k, colophonlaw25_CacheBack.f k a0 a1 a2 l b = some true
theorem colophonlaw25_CacheBack.walk (P : colophonlaw25_CacheBack.Pure) (a0_0 a0_1 a0_2 : Int) (A0 : Option Addr) (n0 c0 : Nat) (z0 : List Int) (A1 : Option Addr) (n1 c1 : Nat) (z1 : List Int) (w : World) (hT : Tab w) (w00 : (Lit.int .u64 a0_0).wf = true) (w01 : (Lit.int .i64 a0_1).wf = true) (w02 : (Lit.int .i64 a0_2).wf = true) (w03 : CameIn .i64 w A0 n0 c0 z0) (w1 : CameIn .u8 w A1 n1 c1 z1) (y1 : n1 * 1 ≤ 140737488351232) :
    Calls Tryd.prog 4 #[.agg #[.int .u64 a0_0, .int .i64 a0_1, .int .i64 a0_2, .slice A0 n0 c0], .slice A1 n1 c1] w fun e w' => e = .returned (.bool true) ∧ Below w.heap.size w w' := by
  obtain ⟨l0, rfl, hr0, hm0, hw0, hc0⟩ := ReadsInt.ofRowC w03
  obtain ⟨l1, rfl, hr1, hm1, hw1, hc1⟩ := ReadsInt.ofRowC w1
  obtain ⟨k, h⟩ := P a0_0 a0_1 a0_2 l0 l1 w00 w01 w02 hw0 hw1 (by omega)
  exact colophonlaw25_CacheBack.calls k a0_0 a0_1 a0_2 A0 c0 l0 A1 c1 l1 true w hT (Kd.C_of_reads (d := (0 : Int)) (h1 := fun _ => rfl) hr0) hc0 (Kd.C_of_reads (d := (0 : Int)) (h1 := fun _ => rfl) hr1) hc1 h
end Go.Proofs.YtogapedacdnfcaaDoor.X
