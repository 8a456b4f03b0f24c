/- chunk.headed by hand. -/
import Derived.Test.YtkocgfcoebodkaaDoorHOpen
namespace Go.Proofs.YtkocgfcoebodkaaDoor.G
open Go.RowKit Go.Proofs.YtkocgfcoebodkaaDoorW.PrintWords Go.Proofs.YtkocgfcoebodkaaDoorW.PrintLast Go.Proofs.YtkocgfcoebodkaaDoorW.PrintMore
set_option linter.unusedVariables false
set_option linter.unusedSimpArgs false

/-- a chunk's head -/
def hd (k t : Int) : List Int := [k / 256 % 256, k % 256, t / 16777216 % 256, t / 65536 % 256, t / 256 % 256, t % 256]
set_option maxHeartbeats 8000000 in
set_option maxRecDepth 100000 in
theorem chunk_headed.calls (a0 a1 : Int) (w : World) :
    Calls Tryd.prog 16 #[.int .i64 a0, .int .i64 a1] w fun e w' => e = .returned (.agg #[.int .u8 (a0 / 256 % 256), .int .u8 (a0 % 256), .int .u8 (a1 / 16777216 % 256), .int .u8 (a1 / 65536 % 256), .int .u8 (a1 / 256 % 256), .int .u8 (a1 % 256)]) ∧ Below w.heap.size w w' := by
  go_enter Tryd.func16, Tryd.ntmps16
  go_wp2
  refine bodyPost_ret (results_single rfl (.cell w.heap.size 46 _ (0, 0) _ rfl (blk_new w _) Tryd.underlying46 rfl (by kernel_rfl) .nil)) rfl ?_
  exact ⟨rfl, (Below.refl _ _).alloc (Nat.le_refl _) _⟩
end Go.Proofs.YtkocgfcoebodkaaDoor.G
