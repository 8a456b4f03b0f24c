/- Disks that are nil, or that no call made: their methods. -/
import Derived.Test.YtckbdckeijanlaaHDead0
import Derived.RangeFuncWrites
namespace Go.Proofs.Ytckbdckeijanlaa.D
open Go.RowKit
set_option linter.unusedVariables false
set_option linter.unusedSimpArgs false
set_option maxHeartbeats 800000 in
theorem Steps (v : Value) (w : World) (h : Dead w v) : Calls Try.prog 19 #[v] w fun e w' => e = .returned (.int .i64 0) ∧ w' = w := by
  rcases h with rfl | ⟨g, rfl, hh⟩
  · go_enter Try.func19, Try.ntmps19
    go_wp2
    go_ret
    exact ⟨rfl, rfl⟩
  · have c0 : w.cell? ⟨g, 2, none⟩ = some (.int .i64 0) := cellAt hh 2
    clear hh
    go_enter Try.func19, Try.ntmps19
    go_wp2
    go_ret
    exact ⟨rfl, rfl⟩
set_option maxHeartbeats 800000 in
theorem wrong (v n : Value) (w : World) (h : Dead w v) : Calls Try.prog 26 #[v, n] w fun e w' => e = .returned (.int .i64 1) ∧ w' = w := by
  have H := Aside0D.mk (Sectors v w h)
  clear h
  go_enter Try.func26, Try.ntmps26
  go_wp2_with (first | (go_at_call 21; refine H.out.mono ?_; rintro e w' ⟨rfl, rfl⟩))
  go_ret
  exact ⟨rfl, rfl⟩
set_option maxHeartbeats 800000 in
theorem Read (v : Value) (n : Int) (w : World) (h : Dead w v) : Calls Try.prog 15 #[v, .int .i64 n] w fun e w' => e = .returned (.tuple #[.slice none 0 0, .int .i64 1]) ∧ Below w.heap.size w w' := by
  have H := Aside0D.mk (fun W (hb : Below w.heap.size w W) => Sectors v W (h.below hb))
  have H2 := Aside0D.mk (fun W n (hb : Below w.heap.size w W) => wrong v n W (h.below hb))
  clear h
  go_enter Try.func15, Try.ntmps15
  go_wp2_with (first | (go_at_call 21; refine (H.out _ (by first | exact Below.refl _ _ | exact (Below.refl _ _).alloc (Nat.le_refl _) _ | exact ((Below.refl _ _).alloc (Nat.le_refl _) _).alloc (by simp) _)).mono ?_; rintro e w' ⟨rfl, rfl⟩) | (go_at_call 26; refine (H2.out _ _ (by first | exact Below.refl _ _ | exact (Below.refl _ _).alloc (Nat.le_refl _) _ | exact ((Below.refl _ _).alloc (Nat.le_refl _) _).alloc (by simp) _)).mono ?_; rintro e w' ⟨rfl, rfl⟩))
  go_ret2
  exact ⟨rfl, (by first | exact Below.refl _ _ | exact (Below.refl _ _).alloc (Nat.le_refl _) _ | exact ((Below.refl _ _).alloc (Nat.le_refl _) _).alloc (by simp) _)⟩
set_option maxHeartbeats 800000 in
theorem Crash (v : Value) (A : Option Addr) (m c : Nat) (w : World) (h : Dead w v) : Calls Try.prog 14 #[v, .slice A m c] w fun e w' => e = .returned (.tuple #[.pointer none, .int .i64 1]) ∧ Below w.heap.size w w' := by
  have H := Aside0D.mk (fun W (hb : Below w.heap.size w W) => Sectors v W (h.below hb))
  have H2 := Aside0D.mk (fun W n (hb : Below w.heap.size w W) => wrong v n W (h.below hb))
  clear h
  go_enter Try.func14, Try.ntmps14
  go_wp2_with (first | (go_at_call 21; refine (H.out _ (by first | exact Below.refl _ _ | exact (Below.refl _ _).alloc (Nat.le_refl _) _ | exact ((Below.refl _ _).alloc (Nat.le_refl _) _).alloc (by simp) _)).mono ?_; rintro e w' ⟨rfl, rfl⟩) | (go_at_call 26; refine (H2.out _ _ (by first | exact Below.refl _ _ | exact (Below.refl _ _).alloc (Nat.le_refl _) _ | exact ((Below.refl _ _).alloc (Nat.le_refl _) _).alloc (by simp) _)).mono ?_; rintro e w' ⟨rfl, rfl⟩))
  go_ret2
  exact ⟨rfl, (by first | exact Below.refl _ _ | exact (Below.refl _ _).alloc (Nat.le_refl _) _ | exact ((Below.refl _ _).alloc (Nat.le_refl _) _).alloc (by simp) _)⟩
set_option maxHeartbeats 800000 in
theorem Write (v : Value) (n : Int) (A : Option Addr) (m c : Nat) (w : World) (h : Dead w v) : Calls Try.prog 12 #[v, .int .i64 n, .slice A m c] w fun e w' => e = .returned (.int .i64 1) ∧ Below w.heap.size w w' := by
  have H := Aside0D.mk (fun W (hb : Below w.heap.size w W) => Sectors v W (h.below hb))
  have H2 := Aside0D.mk (fun W n (hb : Below w.heap.size w W) => wrong v n W (h.below hb))
  clear h
  go_enter Try.func12, Try.ntmps12
  go_wp2_with (first | (go_at_call 21; refine (H.out _ (by first | exact Below.refl _ _ | exact (Below.refl _ _).alloc (Nat.le_refl _) _ | exact ((Below.refl _ _).alloc (Nat.le_refl _) _).alloc (by simp) _)).mono ?_; rintro e w' ⟨rfl, rfl⟩) | (go_at_call 26; refine (H2.out _ _ (by first | exact Below.refl _ _ | exact (Below.refl _ _).alloc (Nat.le_refl _) _ | exact ((Below.refl _ _).alloc (Nat.le_refl _) _).alloc (by simp) _)).mono ?_; rintro e w' ⟨rfl, rfl⟩))
  go_ret
  exact ⟨rfl, (by first | exact Below.refl _ _ | exact (Below.refl _ _).alloc (Nat.le_refl _) _ | exact ((Below.refl _ _).alloc (Nat.le_refl _) _).alloc (by simp) _)⟩
set_option maxHeartbeats 800000 in
theorem Flush (v : Value) (w : World) (h : Dead w v) : Calls Try.prog 13 #[v] w fun e w' => e = .returned (.int .i64 1) ∧ Below w.heap.size w w' := by
  have hd := h
  rcases h with rfl | ⟨g, rfl, hh⟩
  all_goals
    have H := Aside0D.mk (fun W (hb : Below w.heap.size w W) => Sectors _ W (hd.below hb))
    have H2 := Aside0D.mk (fun W n (hb : Below w.heap.size w W) => wrong _ n W (hd.below hb))
    clear hd
    go_enter Try.func13, Try.ntmps13
    go_wp2_with (first | (go_at_call 21; refine (H.out _ (by first | exact Below.refl _ _ | exact (Below.refl _ _).alloc (Nat.le_refl _) _ | exact ((Below.refl _ _).alloc (Nat.le_refl _) _).alloc (by simp) _)).mono ?_; rintro e w' ⟨rfl, rfl⟩) | (go_at_call 26; refine (H2.out _ _ (by first | exact Below.refl _ _ | exact (Below.refl _ _).alloc (Nat.le_refl _) _ | exact ((Below.refl _ _).alloc (Nat.le_refl _) _).alloc (by simp) _)).mono ?_; rintro e w' ⟨rfl, rfl⟩))
    go_ret
    exact ⟨rfl, (by first | exact Below.refl _ _ | exact (Below.refl _ _).alloc (Nat.le_refl _) _ | exact ((Below.refl _ _).alloc (Nat.le_refl _) _).alloc (by simp) _)⟩
set_option maxHeartbeats 800000 in
theorem Stop (v : Value) (n : Int) (w : World) (h : Dead w v) : Calls Try.prog 18 #[v, .int .i64 n] w fun e w' => e = .returned (.int .i64 1) ∧ Below w.heap.size w w' := by
  have H := Aside0D.mk (fun W (hb : Below w.heap.size w W) => Sectors v W (h.below hb))
  have H2 := Aside0D.mk (fun W n (hb : Below w.heap.size w W) => wrong v n W (h.below hb))
  clear h
  go_enter Try.func18, Try.ntmps18
  go_wp2_with (first | (go_at_call 21; refine (H.out _ (by first | exact Below.refl _ _ | exact (Below.refl _ _).alloc (Nat.le_refl _) _ | exact ((Below.refl _ _).alloc (Nat.le_refl _) _).alloc (by simp) _)).mono ?_; rintro e w' ⟨rfl, rfl⟩) | (go_at_call 26; refine (H2.out _ _ (by first | exact Below.refl _ _ | exact (Below.refl _ _).alloc (Nat.le_refl _) _ | exact ((Below.refl _ _).alloc (Nat.le_refl _) _).alloc (by simp) _)).mono ?_; rintro e w' ⟨rfl, rfl⟩))
  go_ret
  exact ⟨rfl, (by first | exact Below.refl _ _ | exact (Below.refl _ _).alloc (Nat.le_refl _) _ | exact ((Below.refl _ _).alloc (Nat.le_refl _) _).alloc (by simp) _)⟩
set_option maxHeartbeats 800000 in
theorem Spoil (v : Value) (n a y : Int) (w : World) (h : Dead w v) : Calls Try.prog 20 #[v, .int .i64 n, .int .i64 a, .int .u8 y] w fun e w' => e = .returned (.int .i64 1) ∧ Below w.heap.size w w' := by
  have H := Aside0D.mk (fun W (hb : Below w.heap.size w W) => Sectors v W (h.below hb))
  have H2 := Aside0D.mk (fun W n (hb : Below w.heap.size w W) => wrong v n W (h.below hb))
  clear h
  go_enter Try.func20, Try.ntmps20
  go_wp2_with (first | (go_at_call 21; refine (H.out _ (by first | exact Below.refl _ _ | exact (Below.refl _ _).alloc (Nat.le_refl _) _ | exact ((Below.refl _ _).alloc (Nat.le_refl _) _).alloc (by simp) _)).mono ?_; rintro e w' ⟨rfl, rfl⟩) | (go_at_call 26; refine (H2.out _ _ (by first | exact Below.refl _ _ | exact (Below.refl _ _).alloc (Nat.le_refl _) _ | exact ((Below.refl _ _).alloc (Nat.le_refl _) _).alloc (by simp) _)).mono ?_; rintro e w' ⟨rfl, rfl⟩))
  go_ret
  exact ⟨rfl, (by first | exact Below.refl _ _ | exact (Below.refl _ _).alloc (Nat.le_refl _) _ | exact ((Below.refl _ _).alloc (Nat.le_refl _) _).alloc (by simp) _)⟩
end Go.Proofs.Ytckbdckeijanlaa.D
