/- The disk's small functions: Sectors, wrong, down, step. By hand. -/
import Derived.Test.YtckbdckeijanlaaDskM
namespace Go.Proofs.Ytckbdckeijanlaa.G
open Go.RowKit Go.Proofs.YtckbdckeijanlaaW.PrintWords Go.Proofs.YtckbdckeijanlaaW.PrintLast Go.Proofs.YtckbdckeijanlaaW.PrintMore Go.Proofs.Ytckbdckeijanlaa.Dsk
set_option linter.unusedVariables false
set_option linter.unusedSimpArgs false
set_option maxHeartbeats 4000000 in
set_option maxRecDepth 100000 in
theorem Sectors_calls (F : Nat → Prop) (g gl cl : Nat) (d : Dk) (wv : Value) (W : World) (h : Mem F g gl cl d wv W) :
    Calls Try.prog 21 #[.pointer (some ⟨g, 0, none⟩)] W fun e w' => e = .returned (.int .i64 (d.lies.length : Int)) ∧ w' = W := by
  obtain ⟨hc0, _⟩ := h.cells
  clear h
  go_enter Try.func21, Try.ntmps21
  go_wp2
  go_ret
  exact ⟨rfl, rfl⟩
set_option maxHeartbeats 4000000 in
set_option maxRecDepth 100000 in
theorem down_calls (F : Nat → Prop) (g gl cl : Nat) (d : Dk) (wv : Value) (W : World) (h : Mem F g gl cl d wv W) :
    Calls Try.prog 27 #[.pointer (some ⟨g, 0, none⟩)] W fun e w' => e = .returned (.bool (down d)) ∧ w' = W := by
  obtain ⟨_, _, _, hc3, hc4⟩ := h.cells
  clear h
  have he : down d = (d.left.isSome && (((d.left.getD 0 : Nat) : Int) == 0)) := by
    unfold down
    cases d.left with
    | none => rfl
    | some n =>
      show ((some n : Option Nat) == some 0) = ((n : Int) == 0)
      rw [Bool.eq_iff_iff]
      simp
  rw [he]
  clear he
  go_enter Try.func27, Try.ntmps27
  go_wp2
  · rename_i hs
    go_ret
    exact ⟨by rw [hs]; rfl, rfl⟩
  · rename_i hs
    have hs' : d.left.isSome = false := by simpa using hs
    go_ret
    exact ⟨by rw [hs']; rfl, rfl⟩
set_option maxHeartbeats 4000000 in
set_option maxRecDepth 100000 in
theorem Steps_calls (F : Nat → Prop) (g gl cl : Nat) (d : Dk) (wv : Value) (W : World) (h : Mem F g gl cl d wv W) :
    Calls Try.prog 19 #[.pointer (some ⟨g, 0, none⟩)] W fun e w' => e = .returned (.int .i64 (d.steps : Int)) ∧ w' = W := by
  obtain ⟨_, _, hc2, _⟩ := h.cells
  clear h
  go_enter Try.func19, Try.ntmps19
  go_wp2
  go_ret
  exact ⟨rfl, rfl⟩
set_option maxHeartbeats 4000000 in
set_option maxRecDepth 100000 in
theorem wrong_calls (F : Nat → Prop) (g gl cl : Nat) (d : Dk) (wv : Value) (n : Int) (W : World) (h : Mem F g gl cl d wv W) :
    Calls Try.prog 26 #[.pointer (some ⟨g, 0, none⟩), .int .i64 n] W fun e w' => e = .returned (.int .i64 (if isS d n = false then 4 else 0)) ∧ w' = W := by
  have hpos := h.ok.some_
  obtain ⟨hc0, _⟩ := h.cells
  have b0 : ((d.lies.length : Int) == 0) = false := by
    rw [Bool.eq_false_iff]
    intro q
    rw [beq_iff_eq] at q
    omega
  have hS := Sectors_calls F g gl cl d wv W h
  have b0' : ((d.lies.length : Int) = 0) = False := eq_false (by omega)
  have hP := Aside0.mk hpos
  clear h hS
  by_cases hn : n < 0
  · have hI : isS d n = false := decide_eq_false (by omega)
    have p1 : (n < 0) = True := eq_true hn
    rw [hI]
    clear hI hpos
    go_enter Try.func26, Try.ntmps26
    go_wp2
    all_goals first | (exfalso; omega) | (go_ret; exact ⟨rfl, rfl⟩)
  · by_cases hm : (d.lies.length : Int) ≤ n
    · have hI : isS d n = false := decide_eq_false (by omega)
      rw [hI]
      clear hI hpos
      go_enter Try.func26, Try.ntmps26
      go_wp2
      all_goals first | (exfalso; omega) | (go_ret; exact ⟨rfl, rfl⟩)
    · have hI : isS d n = true := decide_eq_true (by omega)
      rw [hI]
      clear hI hpos
      go_enter Try.func26, Try.ntmps26
      go_wp2
      all_goals first | (exfalso; omega) | (go_ret; exact ⟨rfl, rfl⟩)
set_option maxHeartbeats 4000000 in
set_option maxRecDepth 100000 in
theorem step_calls (F : Nat → Prop) (g gl cl : Nat) (d : Dk) (wv : Value) (W : World) (h : Mem F g gl cl d wv W) (hs : d.steps < 4611686018427387904) (hd : down d = false) (hn : (d.left.getD 0 : Nat) < 9223372036854775808) :
    Calls Try.prog 28 #[.pointer (some ⟨g, 0, none⟩)] W fun e w' => e = .returned (.tuple #[]) ∧ Mem F g gl cl (stepped d) wv w' ∧ Kp (fun k => k = g) W w' := by
  obtain ⟨_, _, hc2, hc3, hc4⟩ := h.cells
  have z2 := h.free 2
  have z4 := h.free 4
  have HM := Aside0.mk h
  have HD := Aside0.mk hd
  have r1 : wrap64 ((d.steps : Int) + 1) = (d.steps : Int) + 1 := by unfold wrap64; omega
  have r2 : wrap64 (((d.left.getD 0 : Nat) : Int) - 1) = ((d.left.getD 0 : Nat) : Int) - 1 := by unfold wrap64; omega
  clear h hd
  go_enter Try.func28, Try.ntmps28
  go_wp2
  · rename_i hl
    go_end0
    obtain ⟨n, hn'⟩ := Option.isSome_iff_exists.1 hl
    have hnp : 0 < n := by
      have := HD.out
      unfold down at this
      rw [hn'] at this
      rcases Nat.eq_zero_or_pos n with e | e
      · subst e; exact absurd this (by decide)
      · exact e
    have e2 : (((stepped d).left.getD 0 : Nat) : Int) = ((d.left.getD 0 : Nat) : Int) - 1 := by
      show (((d.left.map (· - 1)).getD 0 : Nat) : Int) = _
      rw [hn']
      show ((n - 1 : Nat) : Int) = (n : Int) - 1
      omega
    have e3 : (stepped d).left.isSome = d.left.isSome := by
      show (d.left.map (· - 1)).isSome = _
      rw [hn']; rfl
    refine ⟨rfl, HM.out.tail rfl rfl ?_ ?_, ((Kp.refl (fun k => k = g) W).set (p := ⟨g, 2, none⟩) (Or.inl rfl) _).set (p := ⟨g, 4, none⟩) (Or.inl rfl) _⟩
    · rw [e2, e3]
      exact blk_put (blk_put HM.out.blk 2 _ rfl) 4 _ rfl
    · intro k hk _
      rw [Below.heap_setCell _ _ _ k hk, Below.heap_setCell _ _ _ k hk]
  · rename_i hl
    have hl' : d.left.isSome = false := by simpa using hl
    go_end0
    have e1 : d.left = none := by
      cases h : d.left with
      | none => rfl
      | some n => rw [h] at hl'; cases hl'
    have e2 : (stepped d).left = d.left := by
      show d.left.map (· - 1) = _
      rw [e1]; rfl
    refine ⟨rfl, HM.out.tail rfl rfl ?_ ?_, (Kp.refl (fun k => k = g) W).set (p := ⟨g, 2, none⟩) (Or.inl rfl) _⟩
    · rw [e2]
      exact blk_put HM.out.blk 2 _ rfl
    · intro k hk _
      rw [Below.heap_setCell _ _ _ k hk]
end Go.Proofs.Ytckbdckeijanlaa.G
