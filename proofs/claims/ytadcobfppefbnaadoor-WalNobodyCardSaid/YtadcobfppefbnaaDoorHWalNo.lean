/- The law WalNobody, walked by hand. -/
import Derived.Test.YtadcobfppefbnaaDoorHDead0
namespace Go.Proofs.YtadcobfppefbnaaDoor.X
open Go.RowKit Go.Proofs.YtadcobfppefbnaaDoor.D
set_option linter.unusedVariables false
set_option linter.unusedSimpArgs false

def zeroL : Array Value := #[.pointer none, .int .i64 0, .int .i64 0, .int .i64 0, .bool false, .slice none 0 0, .slice none 0 0, .int .i64 0]
def LDead (W : World) (v : Value) : Prop := v = .pointer none ∨ ∃ g, v = .pointer (some ⟨g, 0, none⟩) ∧ W.heap[g]? = some (.cells zeroL 47 (0, 0))
set_option maxHeartbeats 800000 in
theorem none_ (v : Value) (w : World) (h : LDead w v) : Calls Tryd.prog 33 #[v] w fun e w' => e = .returned (.bool true) ∧ w' = w := by
  rcases h with rfl | ⟨g, rfl, hh⟩
  · go_enter Tryd.func33, Tryd.ntmps33
    go_wp2
    go_ret
    exact ⟨rfl, rfl⟩
  · have c0 : w.cell? ⟨g, 0, none⟩ = some (.pointer none) := cellAt hh 0
    clear hh
    go_enter Tryd.func33, Tryd.ntmps33
    go_wp2
    go_ret
    exact ⟨rfl, rfl⟩
set_option maxHeartbeats 800000 in
theorem Room (v : Value)  (w : World) (h : LDead w v) : Calls Tryd.prog 12 #[v] w fun e w' => e = .returned (.tuple #[.int .i64 0, .int .i64 0]) ∧ w' = w := by
  have H := Aside0D.mk (none_ v w h)
  clear h
  go_enter Tryd.func12, Tryd.ntmps12
  go_wp2_with (first | (go_at_call 33; refine H.out.mono ?_; rintro e w' ⟨rfl, rfl⟩))
  go_ret2
  exact ⟨rfl, rfl⟩
set_option maxHeartbeats 800000 in
theorem Begin (v : Value) (n : Int) (w : World) (h : LDead w v) : Calls Tryd.prog 16 #[v, .int .i64 n] w fun e w' => e = .returned (.int .i64 1) ∧ w' = w := by
  have H := Aside0D.mk (none_ v w h)
  clear h
  go_enter Tryd.func16, Tryd.ntmps16
  go_wp2_with (first | (go_at_call 33; refine H.out.mono ?_; rintro e w' ⟨rfl, rfl⟩))
  go_ret
  exact ⟨rfl, rfl⟩
set_option maxHeartbeats 800000 in
theorem Add (v : Value) (A : Option Addr) (m c : Nat) (w : World) (h : LDead w v) : Calls Tryd.prog 11 #[v, .slice A m c] w fun e w' => e = .returned (.int .i64 1) ∧ w' = w := by
  have H := Aside0D.mk (none_ v w h)
  clear h
  go_enter Tryd.func11, Tryd.ntmps11
  go_wp2_with (first | (go_at_call 33; refine H.out.mono ?_; rintro e w' ⟨rfl, rfl⟩))
  go_ret
  exact ⟨rfl, rfl⟩
set_option maxHeartbeats 800000 in
theorem Sync (v : Value)  (w : World) (h : LDead w v) : Calls Tryd.prog 15 #[v] w fun e w' => e = .returned (.int .i64 1) ∧ w' = w := by
  have H := Aside0D.mk (none_ v w h)
  clear h
  go_enter Tryd.func15, Tryd.ntmps15
  go_wp2_with (first | (go_at_call 33; refine H.out.mono ?_; rintro e w' ⟨rfl, rfl⟩))
  go_ret
  exact ⟨rfl, rfl⟩
set_option maxHeartbeats 800000 in
theorem Bodies (v : Value)  (w : World) (h : LDead w v) : Calls Tryd.prog 13 #[v] w fun e w' => e = .returned (.slice none 0 0) ∧ w' = w := by
  have H := Aside0D.mk (none_ v w h)
  clear h
  go_enter Tryd.func13, Tryd.ntmps13
  go_wp2_with (first | (go_at_call 33; refine H.out.mono ?_; rintro e w' ⟨rfl, rfl⟩))
  go_ret
  exact ⟨rfl, rfl⟩
set_option maxHeartbeats 800000 in
theorem Synced (v : Value)  (w : World) (h : LDead w v) : Calls Tryd.prog 18 #[v] w fun e w' => e = .returned (.int .i64 0) ∧ w' = w := by
  have H := Aside0D.mk (none_ v w h)
  clear h
  go_enter Tryd.func18, Tryd.ntmps18
  go_wp2_with (first | (go_at_call 33; refine H.out.mono ?_; rintro e w' ⟨rfl, rfl⟩))
  go_ret
  exact ⟨rfl, rfl⟩
set_option maxHeartbeats 800000 in
theorem Epoch (v : Value)  (w : World) (h : LDead w v) : Calls Tryd.prog 19 #[v] w fun e w' => e = .returned (.int .i64 0) ∧ w' = w := by
  have H := Aside0D.mk (none_ v w h)
  clear h
  go_enter Tryd.func19, Tryd.ntmps19
  go_wp2_with (first | (go_at_call 33; refine H.out.mono ?_; rintro e w' ⟨rfl, rfl⟩))
  go_ret
  exact ⟨rfl, rfl⟩
set_option maxHeartbeats 800000 in
theorem Open (v : Value) (a b c : Int) (w : World) (h : Dead w v) : Calls Tryd.prog 14 #[v, .int .i64 a, .int .i64 b, .int .i64 c] w fun e w' => e = .returned (.tuple #[.pointer none, .int .i64 1]) ∧ w' = w := by
  have H := Aside0D.mk (Sectors v w h)
  clear h
  go_enter Tryd.func14, Tryd.ntmps14
  go_wp2_with (first | (go_at_call 37; refine H.out.mono ?_; rintro e w' ⟨rfl, rfl⟩))
  go_ret2
  exact ⟨rfl, rfl⟩
set_option maxHeartbeats 800000 in
theorem Front (v : Value) (a b : Int) (w : World) (h : Dead w v) : Calls Tryd.prog 20 #[v, .int .i64 a, .int .i64 b] w fun e w' => e = .returned (.tuple #[.int .i64 0, .int .i64 1]) ∧ w' = w := by
  have H := Aside0D.mk (Sectors v w h)
  clear h
  go_enter Tryd.func20, Tryd.ntmps20
  go_wp2_with (first | (go_at_call 37; refine H.out.mono ?_; rintro e w' ⟨rfl, rfl⟩))
  go_ret2
  exact ⟨rfl, rfl⟩
def Keeps (w : World) (BX : Obj) (W : World) : Prop := W.heap[w.heap.size]? = some BX ∧ W.heap[w.heap.size + 1]? = some (.cells zeroL 47 (0, 0)) ∧ W.heap[w.heap.size + 1 + 1]? = some (.cells #[.pointer none, .pointer (some ⟨w.heap.size + 1, 0, none⟩)] 26 (0, 0)) ∧ Below w.heap.size w W
theorem Keeps.below {w W W' : World} {BX : Obj} (h : Keeps w BX W) (hb : Below W.heap.size W W') : Keeps w BX W' :=
  ⟨(hb.block _ (lt_of h.1)).trans h.1, (hb.block _ (lt_of h.2.1)).trans h.2.1, (hb.block _ (lt_of h.2.2.1)).trans h.2.2.1, h.2.2.2.trans (hb.mono h.2.2.2.size)⟩
theorem keeps_start (w : World) (BX : Obj) : Keeps w BX (((w.alloc BX).alloc (.cells zeroL 47)).alloc (.cells #[.pointer none, .pointer (some ⟨w.heap.size + 1, 0, none⟩)] 26)) := by
  have b1 := (Below.refl w.heap.size w).alloc (Nat.le_refl _) BX
  have b2 := (Below.refl (w.alloc BX).heap.size (w.alloc BX)).alloc (Nat.le_refl _) (.cells zeroL 47)
  have b3 := (Below.refl ((w.alloc BX).alloc (.cells zeroL 47)).heap.size ((w.alloc BX).alloc (.cells zeroL 47))).alloc (Nat.le_refl _) (.cells #[.pointer none, .pointer (some ⟨w.heap.size + 1, 0, none⟩)] 26)
  have h1 := heap_alloc_new w BX
  have h2 := heap_alloc_new (w.alloc BX) (.cells zeroL 47)
  have h3 := heap_alloc_new ((w.alloc BX).alloc (.cells zeroL 47)) (.cells #[.pointer none, .pointer (some ⟨w.heap.size + 1, 0, none⟩)] 26)
  rw [World.size_alloc] at h2
  rw [World.size_alloc, World.size_alloc] at h3
  refine ⟨?_, ?_, h3, ?_⟩
  · rw [b3.block _ (by simp only [World.size_alloc]; omega), b2.block _ (by simp only [World.size_alloc]; omega)]; exact h1
  · rw [b3.block _ (by simp only [World.size_alloc]; omega)]; exact h2
  · exact b1.trans ((b2.mono (by simp only [World.size_alloc]; omega)).trans (b3.mono (by simp only [World.size_alloc]; omega)))
set_option maxHeartbeats 4000000 in
set_option maxRecDepth 100000 in
theorem colophonlaw19_WalNobody.walk (a0 a1 a2 a3 : Int) (A4 : Option Addr) (m4 c4 : Nat) (A5 : Option Addr) (m5 c5 : Nat) (w : World) :
    Calls Tryd.prog 5 #[.agg #[.int .i64 a0, .int .i64 a1, .int .i64 a2, .int .i64 a3, .slice A4 m4 c4, .slice A5 m5 c5]] w fun e w' => e = .returned (.bool true) ∧ Below w.heap.size w w' := by
  go_enter Tryd.func5, Tryd.ntmps5
  go_wp2
  go_loopg [17] 3 (fun kq v17 w' => ∃ i : Nat, v17 = .int .i64 (i : Int) ∧ i ≤ 2 ∧ Aside0D (kq + i = 3) ∧ Aside0D (Keeps w (.cells #[.int .i64 a0, .int .i64 a1, .int .i64 a2, .int .i64 a3, .slice A4 m4 c4, .slice A5 m5 c5] 45) w'))
  case atStart => exact ⟨0, rfl, by omega, ⟨rfl⟩, ⟨keeps_start _ _⟩⟩
  case round =>
    obtain ⟨i, rfl, hi, HK, HW⟩ := hrel
    have hx1 : wr.cell? ⟨w.heap.size, 1, none⟩ = some (.int .i64 a1) := cellAt HW.out.1 1
    have hx2 : wr.cell? ⟨w.heap.size, 2, none⟩ = some (.int .i64 a2) := cellAt HW.out.1 2
    have hx3 : wr.cell? ⟨w.heap.size, 3, none⟩ = some (.int .i64 a3) := cellAt HW.out.1 3
    have hx4 : wr.cell? ⟨w.heap.size, 4, none⟩ = some (.slice A4 m4 c4) := cellAt HW.out.1 4
    have hi3 : i = 0 ∨ i = 1 ∨ i = 2 := by omega
    clear hi
    rcases hi3 with rfl | rfl | rfl
    · have hy : wr.cell? ⟨w.heap.size + 1 + 1, 0, none⟩ = some (.pointer none) := cellAt HW.out.2.2.1 0
      have HD := Aside0D.mk (show LDead wr (.pointer none) from .inl rfl)
      go_wp2_with (first | (go_at_call 12; refine (Room _ _ HD.out).mono ?_; rintro e w' ⟨rfl, rfl⟩) | (go_at_call 16; refine (Begin _ a3 _ HD.out).mono ?_; rintro e w' ⟨rfl, rfl⟩) | (go_at_call 11; refine (Add _ A4 m4 c4 _ HD.out).mono ?_; rintro e w' ⟨rfl, rfl⟩) | (go_at_call 15; refine (Sync _ _ HD.out).mono ?_; rintro e w' ⟨rfl, rfl⟩) | (go_at_call 13; refine (Bodies _ _ HD.out).mono ?_; rintro e w' ⟨rfl, rfl⟩) | (go_at_call 18; refine (Synced _ _ HD.out).mono ?_; rintro e w' ⟨rfl, rfl⟩) | (go_at_call 19; refine (Epoch _ _ HD.out).mono ?_; rintro e w' ⟨rfl, rfl⟩))
      go_roundg (gk - 1)
      case measure => have := HK.out; omega
      case rel => exact ⟨1, rfl, by omega, ⟨by have := HK.out; omega⟩, HW⟩
    · have hy : wr.cell? ⟨w.heap.size + 1 + 1, 1, none⟩ = some (.pointer (some ⟨w.heap.size + 1, 0, none⟩)) := cellAt HW.out.2.2.1 1
      have HD := Aside0D.mk (show LDead wr (.pointer (some ⟨w.heap.size + 1, 0, none⟩)) from .inr ⟨_, rfl, HW.out.2.1⟩)
      go_wp2_with (first | (go_at_call 12; refine (Room _ _ HD.out).mono ?_; rintro e w' ⟨rfl, rfl⟩) | (go_at_call 16; refine (Begin _ a3 _ HD.out).mono ?_; rintro e w' ⟨rfl, rfl⟩) | (go_at_call 11; refine (Add _ A4 m4 c4 _ HD.out).mono ?_; rintro e w' ⟨rfl, rfl⟩) | (go_at_call 15; refine (Sync _ _ HD.out).mono ?_; rintro e w' ⟨rfl, rfl⟩) | (go_at_call 13; refine (Bodies _ _ HD.out).mono ?_; rintro e w' ⟨rfl, rfl⟩) | (go_at_call 18; refine (Synced _ _ HD.out).mono ?_; rintro e w' ⟨rfl, rfl⟩) | (go_at_call 19; refine (Epoch _ _ HD.out).mono ?_; rintro e w' ⟨rfl, rfl⟩))
      go_roundg (gk - 1)
      case measure => have := HK.out; omega
      case rel => exact ⟨2, rfl, by omega, ⟨by have := HK.out; omega⟩, HW⟩
    · have hlt : w.heap.size < wr.heap.size := lt_of HW.out.1
      have hne : w.heap.size ≠ wr.heap.size := Nat.ne_of_lt hlt
      have hz1 : (wr.alloc (.cells deadCells 52)).cell? ⟨w.heap.size, 1, none⟩ = some (.int .i64 a1) := by rw [World.cell?_alloc_lt (h := hlt)]; exact hx1
      have hz2 : (wr.alloc (.cells deadCells 52)).cell? ⟨w.heap.size, 2, none⟩ = some (.int .i64 a2) := by rw [World.cell?_alloc_lt (h := hlt)]; exact hx2
      have hz3 : (wr.alloc (.cells deadCells 52)).cell? ⟨w.heap.size, 3, none⟩ = some (.int .i64 a3) := by rw [World.cell?_alloc_lt (h := hlt)]; exact hx3
      unfold deadCells at hz1 hz2 hz3
      have HD0 := Aside0D.mk (fun W => show Dead W (.pointer none) from .inl rfl)
      have HD1 := Aside0D.mk (show Dead (wr.alloc (.cells deadCells 52)) (.pointer (some ⟨wr.heap.size, 0, none⟩)) from .inr ⟨_, rfl, heap_alloc_new _ _⟩)
      go_wp2_with (first | (go_at_call 14; (with_reducible refine (Open (.pointer none) a1 a2 a3 _ (HD0.out _)).mono ?_); rintro e w' ⟨rfl, rfl⟩) | (go_at_call 14; refine (Open _ a1 a2 a3 _ HD1.out).mono ?_; rintro e w' ⟨rfl, rfl⟩) | (go_at_call 20; refine (Front (.pointer none) a1 a2 _ (HD0.out _)).mono ?_; rintro e w' ⟨rfl, rfl⟩))
      go_ret
      exact ⟨rfl, HW.out.2.2.2.alloc HW.out.2.2.2.size _⟩
end Go.Proofs.YtadcobfppefbnaaDoor.X
