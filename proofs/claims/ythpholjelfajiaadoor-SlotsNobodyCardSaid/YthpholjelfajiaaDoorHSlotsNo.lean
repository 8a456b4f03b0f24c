/- The law SlotsNobody, walked by hand. -/
import Derived.Test.YthpholjelfajiaaDoorHDead0
namespace Go.Proofs.YthpholjelfajiaaDoor.X
open Go.RowKit Go.Proofs.YthpholjelfajiaaDoor.D
set_option linter.unusedVariables false
set_option linter.unusedSimpArgs false

def zeroSlots : Array Value := #[.pointer none, .int .i64 0, .int .i64 0, .bool false, .int .i64 0, .slice none 0 0, .bool false, .int .i64 0, .slice none 0 0]
def SDead (W : World) (v : Value) : Prop := v = .pointer none ∨ ∃ g, v = .pointer (some ⟨g, 0, none⟩) ∧ W.heap[g]? = some (.cells zeroSlots 32 (0, 0))
theorem SDead.below {W W' : World} {v : Value} (h : SDead W v) (hb : Below W.heap.size W W') : SDead W' v := by
  rcases h with h | ⟨g, h, hh⟩
  · exact .inl h
  · exact .inr ⟨g, h, (hb.block _ (lt_of hh)).trans hh⟩
set_option maxHeartbeats 800000 in
theorem Which (v : Value) (w : World) (h : SDead w v) : Calls Tryd.prog 9 #[v] w fun e w' => e = .returned (.int .i64 (-1)) ∧ w' = w := by
  rcases h with rfl | ⟨g, rfl, hh⟩
  · go_enter Tryd.func9, Tryd.ntmps9
    go_wp2
    go_ret
    exact ⟨rfl, rfl⟩
  · have c0 : w.cell? ⟨g, 0, none⟩ = some (.pointer none) := cellAt hh 0
    clear hh
    go_enter Tryd.func9, Tryd.ntmps9
    go_wp2
    go_ret
    exact ⟨rfl, rfl⟩
set_option maxHeartbeats 800000 in
theorem Latest (v : Value) (w : World) (h : SDead w v) : Calls Tryd.prog 8 #[v] w fun e w' => e = .returned (.tuple #[.slice none 0 0, .int .i64 0, .bool false]) ∧ w' = w := by
  have H := Aside0D.mk (Which v w h)
  clear h
  go_enter Tryd.func8, Tryd.ntmps8
  go_wp2_with (first | (go_at_call 9; refine H.out.mono ?_; rintro e w' ⟨rfl, rfl⟩))
  go_ret3
  exact ⟨rfl, rfl⟩
set_option maxHeartbeats 800000 in
theorem Save (v : Value) (A : Option Addr) (m c : Nat) (n : Int) (w : World) (h : SDead w v) : Calls Tryd.prog 10 #[v, .slice A m c, .int .i64 n] w fun e w' => e = .returned (.int .i64 1) ∧ Below w.heap.size w w' := by
  rcases h with rfl | ⟨g, rfl, hh⟩
  · go_enter Tryd.func10, Tryd.ntmps10
    go_wp2
    go_ret
    exact ⟨rfl, (by first | exact Below.refl _ _ | exact (Below.refl _ _).alloc (Nat.le_refl _) _ | exact ((Below.refl _ _).alloc (Nat.le_refl _) _).alloc (by simp) _)⟩
  · have hlt := lt_of hh
    have c0 : w.cell? ⟨g, 0, none⟩ = some (.pointer none) := cellAt hh 0
    clear hh
    go_enter Tryd.func10, Tryd.ntmps10
    go_wp2
    go_ret
    exact ⟨rfl, (by first | exact Below.refl _ _ | exact (Below.refl _ _).alloc (Nat.le_refl _) _ | exact ((Below.refl _ _).alloc (Nat.le_refl _) _).alloc (by simp) _)⟩
set_option maxHeartbeats 800000 in
theorem Open (v : Value) (a b : Int) (w : World) (h : Dead w v) : Calls Tryd.prog 11 #[v, .int .i64 a, .int .i64 b] w fun e w' => e = .returned (.tuple #[.pointer none, .int .i64 1]) ∧ w' = w := by
  have H := Aside0D.mk (Sectors v w h)
  clear h
  go_enter Tryd.func11, Tryd.ntmps11
  go_wp2_with (first | (go_at_call 32; refine H.out.mono ?_; rintro e w' ⟨rfl, rfl⟩))
  go_ret2
  exact ⟨rfl, rfl⟩
def Keeps (w : World) (BX : Obj) (W : World) : Prop := W.heap[w.heap.size]? = some BX ∧ W.heap[w.heap.size + 1]? = some (.cells zeroSlots 32 (0, 0)) ∧ W.heap[w.heap.size + 1 + 1]? = some (.cells #[.pointer none, .pointer (some ⟨w.heap.size + 1, 0, none⟩)] 26 (0, 0)) ∧ Below w.heap.size w W
theorem Keeps.below {w W W' : World} {BX : Obj} (h : Keeps w BX W) (hb : Below W.heap.size W W') : Keeps w BX W' :=
  ⟨(hb.block _ (lt_of h.1)).trans h.1, (hb.block _ (lt_of h.2.1)).trans h.2.1, (hb.block _ (lt_of h.2.2.1)).trans h.2.2.1, h.2.2.2.trans (hb.mono h.2.2.2.size)⟩
theorem keeps_start (w : World) (BX : Obj) : Keeps w BX (((w.alloc BX).alloc (.cells zeroSlots 32)).alloc (.cells #[.pointer none, .pointer (some ⟨w.heap.size + 1, 0, none⟩)] 26)) := by
  have b1 := (Below.refl w.heap.size w).alloc (Nat.le_refl _) BX
  have b2 := (Below.refl (w.alloc BX).heap.size (w.alloc BX)).alloc (Nat.le_refl _) (.cells zeroSlots 32)
  have b3 := (Below.refl ((w.alloc BX).alloc (.cells zeroSlots 32)).heap.size ((w.alloc BX).alloc (.cells zeroSlots 32))).alloc (Nat.le_refl _) (.cells #[.pointer none, .pointer (some ⟨w.heap.size + 1, 0, none⟩)] 26)
  have h1 := heap_alloc_new w BX
  have h2 := heap_alloc_new (w.alloc BX) (.cells zeroSlots 32)
  have h3 := heap_alloc_new ((w.alloc BX).alloc (.cells zeroSlots 32)) (.cells #[.pointer none, .pointer (some ⟨w.heap.size + 1, 0, none⟩)] 26)
  rw [World.size_alloc] at h2
  rw [World.size_alloc, World.size_alloc] at h3
  refine ⟨?_, ?_, h3, ?_⟩
  · rw [b3.block _ (by simp only [World.size_alloc]; omega), b2.block _ (by simp only [World.size_alloc]; omega)]; exact h1
  · rw [b3.block _ (by simp only [World.size_alloc]; omega)]; exact h2
  · exact b1.trans ((b2.mono (by simp only [World.size_alloc]; omega)).trans (b3.mono (by simp only [World.size_alloc]; omega)))
set_option maxHeartbeats 4000000 in
set_option maxRecDepth 100000 in
theorem colophonlaw21_SlotsNobody.walk (a0 a1 a2 : Int) (A3 : Option Addr) (m3 c3 : Nat) (A4 : Option Addr) (m4 c4 : Nat) (w : World) :
    Calls Tryd.prog 3 #[.agg #[.int .i64 a0, .int .i64 a1, .int .i64 a2, .slice A3 m3 c3, .slice A4 m4 c4]] w fun e w' => e = .returned (.bool true) ∧ Below w.heap.size w w' := by
  go_enter Tryd.func3, Tryd.ntmps3
  go_wp2
  go_loopg [16] 3 (fun kq v16 w' => ∃ i : Nat, v16 = .int .i64 (i : Int) ∧ i ≤ 2 ∧ Aside0D (kq + i = 3) ∧ Aside0D (Keeps w (.cells #[.int .i64 a0, .int .i64 a1, .int .i64 a2, .slice A3 m3 c3, .slice A4 m4 c4] 25) w'))
  case atStart => exact ⟨0, rfl, by omega, ⟨rfl⟩, ⟨keeps_start _ _⟩⟩
  case round =>
    obtain ⟨i, rfl, hi, HK, HW⟩ := hrel
    have hx1 : wr.cell? ⟨w.heap.size, 1, none⟩ = some (.int .i64 a1) := cellAt HW.out.1 1
    have hx2 : wr.cell? ⟨w.heap.size, 2, none⟩ = some (.int .i64 a2) := cellAt HW.out.1 2
    have hx3 : wr.cell? ⟨w.heap.size, 3, none⟩ = some (.slice A3 m3 c3) := cellAt HW.out.1 3
    have hi3 : i = 0 ∨ i = 1 ∨ i = 2 := by omega
    clear hi
    rcases hi3 with rfl | rfl | rfl
    · have hy : wr.cell? ⟨w.heap.size + 1 + 1, 0, none⟩ = some (.pointer none) := cellAt HW.out.2.2.1 0
      have HD := Aside0D.mk (show SDead wr (.pointer none) from .inl rfl)
      have HSv := Aside0D.mk (Save _ A3 m3 c3 a2 wr HD.out)
      go_wp2_with (first | (go_at_call 8; refine (Latest _ _ HD.out).mono ?_; rintro e w' ⟨rfl, rfl⟩) | (go_at_call 9; refine (Which _ _ HD.out).mono ?_; rintro e w' ⟨rfl, rfl⟩) | (go_at_call 10; refine HSv.out.mono ?_; rintro e W9 ⟨rfl, hb9⟩; have HB9 := Aside0D.mk hb9; clear hb9))
      go_roundg (gk - 1)
      case measure => have := HK.out; omega
      case rel => exact ⟨1, rfl, by omega, ⟨by have := HK.out; omega⟩, ⟨HW.out.below HB9.out⟩⟩
    · have hy : wr.cell? ⟨w.heap.size + 1 + 1, 1, none⟩ = some (.pointer (some ⟨w.heap.size + 1, 0, none⟩)) := cellAt HW.out.2.2.1 1
      have HD := Aside0D.mk (show SDead wr (.pointer (some ⟨w.heap.size + 1, 0, none⟩)) from .inr ⟨_, rfl, HW.out.2.1⟩)
      have HSv := Aside0D.mk (Save _ A3 m3 c3 a2 wr HD.out)
      go_wp2_with (first | (go_at_call 8; refine (Latest _ _ HD.out).mono ?_; rintro e w' ⟨rfl, rfl⟩) | (go_at_call 9; refine (Which _ _ HD.out).mono ?_; rintro e w' ⟨rfl, rfl⟩) | (go_at_call 10; refine HSv.out.mono ?_; rintro e W9 ⟨rfl, hb9⟩; have HB9 := Aside0D.mk hb9; clear hb9))
      go_roundg (gk - 1)
      case measure => have := HK.out; omega
      case rel => exact ⟨2, rfl, by omega, ⟨by have := HK.out; omega⟩, ⟨HW.out.below HB9.out⟩⟩
    · have hlt : w.heap.size < wr.heap.size := lt_of HW.out.1
      have hne : w.heap.size ≠ wr.heap.size := Nat.ne_of_lt hlt
      have hz1 : (wr.alloc (.cells deadCells 44)).cell? ⟨w.heap.size, 1, none⟩ = some (.int .i64 a1) := by rw [World.cell?_alloc_lt (h := hlt)]; exact hx1
      have hz2 : (wr.alloc (.cells deadCells 44)).cell? ⟨w.heap.size, 2, none⟩ = some (.int .i64 a2) := by rw [World.cell?_alloc_lt (h := hlt)]; exact hx2
      unfold deadCells at hz1 hz2
      have HD0 := Aside0D.mk (show Dead wr (.pointer none) from .inl rfl)
      have HD1 := Aside0D.mk (show Dead (wr.alloc (.cells deadCells 44)) (.pointer (some ⟨wr.heap.size, 0, none⟩)) from .inr ⟨_, rfl, heap_alloc_new _ _⟩)
      go_wp2_with (first | (go_at_call 11; (with_reducible refine (Open (.pointer none) a1 a2 wr HD0.out).mono ?_); rintro e w' ⟨rfl, rfl⟩) | (go_at_call 11; refine (Open _ a1 a2 _ HD1.out).mono ?_; rintro e w' ⟨rfl, rfl⟩))
      go_ret
      exact ⟨rfl, HW.out.2.2.2.alloc HW.out.2.2.2.size _⟩
end Go.Proofs.YthpholjelfajiaaDoor.X
