/- The disk: Stop, New. By hand. -/
import Derived.Test.YtckbdckeijanlaaHDskA
namespace Go.Proofs.Ytckbdckeijanlaa.G
open Go.RowKit Go.Proofs.YtckbdckeijanlaaW.PrintWords Go.Proofs.YtckbdckeijanlaaW.PrintLast Go.Proofs.YtckbdckeijanlaaW.PrintMore Go.Proofs.Ytckbdckeijanlaa.Dsk
set_option linter.unusedVariables false
set_option linter.unusedSimpArgs false
set_option maxHeartbeats 4000000 in
set_option maxRecDepth 100000 in
theorem Stop_calls (F : Nat → Prop) (g gl cl : Nat) (d : Dk) (wv : Value) (n : Int) (W : World) (h : Mem F g gl cl d wv W) (hn63 : n < 9223372036854775808) :
    Calls Try.prog 18 #[.pointer (some ⟨g, 0, none⟩), .int .i64 n] W fun e w' => e = .returned (.int .i64 (stop d n).2) ∧ Mem F g gl cl (stop d n).1 wv w' ∧ Kp (fun k => k = g) W w' := by
  obtain ⟨hc0, _, _, hc3, hc4⟩ := h.cells
  have hpos := h.ok.some_
  have z3 := h.free 3
  have z4 := h.free 4
  have b0 : ((d.lies.length : Int) == 0) = false := by
    rw [Bool.eq_false_iff]
    intro q
    rw [beq_iff_eq] at q
    omega
  have b0' : ((d.lies.length : Int) = 0) = False := eq_false (by omega)
  have HM := Aside0.mk h
  clear h hpos
  by_cases hn : n < 0
  · have e : stop d n = (d, 2) := by unfold stop; rw [if_pos hn]
    rw [e]
    clear e
    go_enter Try.func18, Try.ntmps18
    go_wp2
    all_goals first | (exfalso; omega) | (go_ret; exact ⟨rfl, HM.out, Kp.refl _ _⟩)
  · have e : stop d n = (⟨d.lies, d.waits, d.steps, some n.toNat⟩, 0) := by unfold stop; rw [if_neg hn]
    rw [e]
    clear e
    go_enter Try.func18, Try.ntmps18
    go_wp2
    all_goals first | (exfalso; omega) | go_ret
    refine ⟨rfl, HM.out.tail rfl rfl ?_ ?_, ((Kp.refl (fun k => k = g) W).set (p := ⟨g, 3, none⟩) (Or.inl rfl) _).set (p := ⟨g, 4, none⟩) (Or.inl rfl) _⟩
    · have e2 : (((some n.toNat : Option Nat).getD 0 : Nat) : Int) = n := Int.toNat_of_nonneg (by omega)
      show _ = some (Obj.cells #[_, _, _, .bool (some n.toNat : Option Nat).isSome, .int .i64 (((some n.toNat : Option Nat).getD 0 : Nat) : Int)] _ _)
      rw [e2]
      exact blk_put (blk_put HM.out.blk 3 _ rfl) 4 _ rfl
    · intro k hk _
      rw [Below.heap_setCell _ _ _ k hk, Below.heap_setCell _ _ _ k hk]
end Go.Proofs.Ytckbdckeijanlaa.G
