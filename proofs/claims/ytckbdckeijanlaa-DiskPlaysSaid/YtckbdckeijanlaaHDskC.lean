/- The disk: Write, what it refuses. By hand. -/
import Derived.Test.YtckbdckeijanlaaHDskB
namespace Go.Proofs.Ytckbdckeijanlaa.G
open Go.RowKit Go.Proofs.YtckbdckeijanlaaW.PrintWords Go.Proofs.YtckbdckeijanlaaW.PrintLast Go.Proofs.YtckbdckeijanlaaW.PrintMore Go.Proofs.Ytckbdckeijanlaa.Dsk
set_option linter.unusedVariables false
set_option linter.unusedSimpArgs false
set_option maxHeartbeats 8000000 in
set_option maxRecDepth 100000 in
theorem Write_bad (F : Nat → Prop) (g gl cl : Nat) (d : Dk) (wv : Value) (n : Int) (bv : Value) (W : World) (h : Mem F g gl cl d wv W) (hS : isS d n = false) :
    Calls Try.prog 12 #[.pointer (some ⟨g, 0, none⟩), .int .i64 n, bv] W fun e w' => e = .returned (.int .i64 4) ∧ w' = W := by
  have HW := Aside0.mk (wrong_calls F g gl cl d wv n W h)
  rw [hS] at HW
  clear h
  go_enter Try.func12, Try.ntmps12
  go_wp2_with (first | (go_at_call 26; refine HW.out.mono ?_; rintro e w5 ⟨rfl, rfl⟩))
  all_goals first | (go_ret; exact ⟨rfl, rfl⟩) | skip
set_option maxHeartbeats 8000000 in
set_option maxRecDepth 100000 in
theorem Write_len (F : Nat → Prop) (g gl cl : Nat) (d : Dk) (wv : Value) (n : Int) (ob : Option Addr) (m cm : Nat) (W : World) (h : Mem F g gl cl d wv W) (hS : isS d n = true) (hm : m ≠ 64) :
    Calls Try.prog 12 #[.pointer (some ⟨g, 0, none⟩), .int .i64 n, .slice ob m cm] W fun e w' => e = .returned (.int .i64 2) ∧ w' = W := by
  have HW := Aside0.mk (wrong_calls F g gl cl d wv n W h)
  rw [hS] at HW
  have b1 : ((m : Int) == 64) = false := by
    rw [Bool.eq_false_iff]; intro q; rw [beq_iff_eq] at q; omega
  have b2 : ((m : Int) = 64) = False := eq_false (by omega)
  clear h
  go_enter Try.func12, Try.ntmps12
  go_wp2_with (first | (go_at_call 26; refine HW.out.mono ?_; rintro e w5 ⟨rfl, rfl⟩))
  all_goals first | (exfalso; omega) | (go_ret; exact ⟨rfl, rfl⟩) | skip
set_option maxHeartbeats 8000000 in
set_option maxRecDepth 100000 in
theorem Write_down (F : Nat → Prop) (g gl cl : Nat) (d : Dk) (wv : Value) (n : Int) (ob : Option Addr) (cm : Nat) (W : World) (h : Mem F g gl cl d wv W) (hS : isS d n = true) (hd : down d = true) :
    Calls Try.prog 12 #[.pointer (some ⟨g, 0, none⟩), .int .i64 n, .slice ob 64 cm] W fun e w' => e = .returned (.int .i64 170) ∧ w' = W := by
  have HW := Aside0.mk (wrong_calls F g gl cl d wv n W h)
  rw [hS] at HW
  have HD := Aside0.mk (down_calls F g gl cl d wv W h)
  rw [hd] at HD
  clear h
  go_enter Try.func12, Try.ntmps12
  go_wp2_with (first | (go_at_call 26; refine HW.out.mono ?_; rintro e w5 ⟨rfl, rfl⟩) | (go_at_call 27; refine HD.out.mono ?_; rintro e w6 ⟨rfl, rfl⟩))
  all_goals first | (exfalso; omega) | (go_ret; exact ⟨rfl, rfl⟩) | skip
end Go.Proofs.Ytckbdckeijanlaa.G
