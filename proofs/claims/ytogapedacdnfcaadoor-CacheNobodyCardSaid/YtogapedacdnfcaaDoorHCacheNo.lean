/- The law CacheNobody, walked by hand. -/
import Derived.Test.YtogapedacdnfcaaDoorHDead0
namespace Go.Proofs.YtogapedacdnfcaaDoor.X
open Go.RowKit Go.Proofs.YtogapedacdnfcaaDoor.D
set_option linter.unusedVariables false
set_option linter.unusedSimpArgs false

def zeroC : Array Value := #[.pointer none, .int .i64 0, .int .i64 0, .map none]
def CDead (W : World) (v : Value) : Prop := v = .pointer none ∨ ∃ g, v = .pointer (some ⟨g, 0, none⟩) ∧ W.heap[g]? = some (.cells zeroC 51 (0, 0))
theorem CDead.below {W W' : World} {v : Value} (h : CDead W v) (hb : Below W.heap.size W W') : CDead W' v := by
  rcases h with h | ⟨g, h, hh⟩
  · exact .inl h
  · exact .inr ⟨g, h, (hb.block _ (lt_of hh)).trans hh⟩
set_option maxHeartbeats 800000 in
theorem none_ (v : Value) (w : World) (h : CDead w v) : Calls Tryd.prog 37 #[v] w fun e w' => e = .returned (.bool true) ∧ w' = w := by
  rcases h with rfl | ⟨g, rfl, hh⟩
  · go_enter Tryd.func37, Tryd.ntmps37
    go_wp2
    go_ret
    exact ⟨rfl, rfl⟩
  · have c0 : w.cell? ⟨g, 0, none⟩ = some (.pointer none) := cellAt hh 0
    clear hh
    go_enter Tryd.func37, Tryd.ntmps37
    go_wp2
    go_ret
    exact ⟨rfl, rfl⟩
set_option maxHeartbeats 800000 in
theorem Get (v : Value) (key : Int) (asked : Int) (w : World) (h : CDead w v) : Calls Tryd.prog 16 #[v, .int .u64 key, .int .i64 asked] w fun e w' => e = .returned (.tuple #[.agg #[.int .u64 0, .int .i64 0, .int .i64 0, .slice none 0 0], .bool false]) ∧ Below w.heap.size w w' := by
  have H := Aside0D.mk (fun W (hb : Below w.heap.size w W) => none_ v W (h.below hb))
  clear h
  go_enter Tryd.func16, Tryd.ntmps16
  go_wp2_with (first | (go_at_call 37; refine (H.out _ (by first | exact Below.refl _ _ | exact (Below.refl _ _).alloc (Nat.le_refl _) _ | exact ((Below.refl _ _).alloc (Nat.le_refl _) _).alloc (by simp) _ | exact (((Below.refl _ _).alloc (Nat.le_refl _) _).alloc (by simp) _).alloc (by simp; omega) _)).mono ?_; rintro e w' ⟨rfl, rfl⟩))
  refine bodyPost_ret (v := .tuple #[.agg #[.int .u64 0, .int .i64 0, .int .i64 0, .slice none 0 0], .bool false]) (by simp [results, Tryd.results16, go_sem]) rfl ?_
  exact ⟨rfl, (by first | exact Below.refl _ _ | exact (Below.refl _ _).alloc (Nat.le_refl _) _ | exact ((Below.refl _ _).alloc (Nat.le_refl _) _).alloc (by simp) _ | exact (((Below.refl _ _).alloc (Nat.le_refl _) _).alloc (by simp) _).alloc (by simp; omega) _)⟩
set_option maxHeartbeats 800000 in
theorem Put (v : Value) (x0 x1 x2 : Int) (A : Option Addr) (m c : Nat) (w : World) (h : CDead w v) : Calls Tryd.prog 17 #[v, .agg #[.int .u64 x0, .int .i64 x1, .int .i64 x2, .slice A m c]] w fun e w' => e = .returned (.int .i64 1) ∧ Below w.heap.size w w' := by
  have H := Aside0D.mk (fun W (hb : Below w.heap.size w W) => none_ v W (h.below hb))
  clear h
  go_enter Tryd.func17, Tryd.ntmps17
  go_wp2_with (first | (go_at_call 37; refine (H.out _ (by first | exact Below.refl _ _ | exact (Below.refl _ _).alloc (Nat.le_refl _) _ | exact ((Below.refl _ _).alloc (Nat.le_refl _) _).alloc (by simp) _ | exact (((Below.refl _ _).alloc (Nat.le_refl _) _).alloc (by simp) _).alloc (by simp; omega) _)).mono ?_; rintro e w' ⟨rfl, rfl⟩))
  go_ret
  exact ⟨rfl, (by first | exact Below.refl _ _ | exact (Below.refl _ _).alloc (Nat.le_refl _) _ | exact ((Below.refl _ _).alloc (Nat.le_refl _) _).alloc (by simp) _ | exact (((Below.refl _ _).alloc (Nat.le_refl _) _).alloc (by simp) _).alloc (by simp; omega) _)⟩
set_option maxHeartbeats 800000 in
theorem Only (v : Value)  (w : World) (h : CDead w v) : Calls Tryd.prog 18 #[v, .slice none 0 0] w fun e w' => e = .returned (.int .i64 1) ∧ Below w.heap.size w w' := by
  have H := Aside0D.mk (fun W (hb : Below w.heap.size w W) => none_ v W (h.below hb))
  clear h
  go_enter Tryd.func18, Tryd.ntmps18
  go_wp2_with (first | (go_at_call 37; refine (H.out _ (by first | exact Below.refl _ _ | exact (Below.refl _ _).alloc (Nat.le_refl _) _ | exact ((Below.refl _ _).alloc (Nat.le_refl _) _).alloc (by simp) _ | exact (((Below.refl _ _).alloc (Nat.le_refl _) _).alloc (by simp) _).alloc (by simp; omega) _)).mono ?_; rintro e w' ⟨rfl, rfl⟩))
  go_ret
  exact ⟨rfl, (by first | exact Below.refl _ _ | exact (Below.refl _ _).alloc (Nat.le_refl _) _ | exact ((Below.refl _ _).alloc (Nat.le_refl _) _).alloc (by simp) _ | exact (((Below.refl _ _).alloc (Nat.le_refl _) _).alloc (by simp) _).alloc (by simp; omega) _)⟩
set_option maxHeartbeats 800000 in
theorem Entries (v : Value)  (w : World) (h : CDead w v) : Calls Tryd.prog 19 #[v] w fun e w' => e = .returned (.slice none 0 0) ∧ Below w.heap.size w w' := by
  have H := Aside0D.mk (fun W (hb : Below w.heap.size w W) => none_ v W (h.below hb))
  clear h
  go_enter Tryd.func19, Tryd.ntmps19
  go_wp2_with (first | (go_at_call 37; refine (H.out _ (by first | exact Below.refl _ _ | exact (Below.refl _ _).alloc (Nat.le_refl _) _ | exact ((Below.refl _ _).alloc (Nat.le_refl _) _).alloc (by simp) _ | exact (((Below.refl _ _).alloc (Nat.le_refl _) _).alloc (by simp) _).alloc (by simp; omega) _)).mono ?_; rintro e w' ⟨rfl, rfl⟩))
  go_ret
  exact ⟨rfl, (by first | exact Below.refl _ _ | exact (Below.refl _ _).alloc (Nat.le_refl _) _ | exact ((Below.refl _ _).alloc (Nat.le_refl _) _).alloc (by simp) _ | exact (((Below.refl _ _).alloc (Nat.le_refl _) _).alloc (by simp) _).alloc (by simp; omega) _)⟩
set_option maxHeartbeats 800000 in
theorem Open (v : Value) (a b : Int) (w : World) (h : Dead w v) : Calls Tryd.prog 20 #[v, .int .i64 a, .int .i64 b] w fun e w' => e = .returned (.tuple #[.pointer none, .int .i64 1]) ∧ w' = w := by
  have H := Aside0D.mk (Sectors v w h)
  clear h
  go_enter Tryd.func20, Tryd.ntmps20
  go_wp2_with (first | (go_at_call 22; refine H.out.mono ?_; rintro e w' ⟨rfl, rfl⟩))
  go_ret2
  exact ⟨rfl, rfl⟩
set_option maxHeartbeats 800000 in
theorem Ints0 (w : World) : Calls Tryd.prog 36 #[.slice none 0 0, .slice none 0 0] w fun e w' => e = .returned (.bool true) ∧ w' = w := by
  go_enter Tryd.func36, Tryd.ntmps36
  go_wp2
  go_loopg [5] 1 (fun kq v5 w' => v5 = .int .i64 0 ∧ Aside0D (w' = w))
  case atStart => exact ⟨rfl, ⟨rfl⟩⟩
  case round =>
    obtain ⟨rfl, ⟨rfl⟩⟩ := hrel
    go_wp2
    go_ret
    exact ⟨rfl, rfl⟩
set_option maxHeartbeats 800000 in
theorem Same0 (w : World) : Calls Tryd.prog 15 #[.agg #[.int .u64 0, .int .i64 0, .int .i64 0, .slice none 0 0], .agg #[.int .u64 0, .int .i64 0, .int .i64 0, .slice none 0 0]] w fun e w' => e = .returned (.bool true) ∧ Below w.heap.size w w' := by
  go_enter Tryd.func15, Tryd.ntmps15
  go_wp2_with (first | (go_at_call 36; refine (Ints0 _).mono ?_; rintro e w' ⟨rfl, rfl⟩))
  go_ret
  exact ⟨rfl, (by first | exact Below.refl _ _ | exact (Below.refl _ _).alloc (Nat.le_refl _) _ | exact ((Below.refl _ _).alloc (Nat.le_refl _) _).alloc (by simp) _ | exact (((Below.refl _ _).alloc (Nat.le_refl _) _).alloc (by simp) _).alloc (by simp; omega) _)⟩
set_option maxHeartbeats 800000 in
theorem same0 (w : World) : Calls Tryd.prog 14 #[.agg #[.int .u64 0, .int .i64 0, .int .i64 0, .slice none 0 0], .agg #[.int .u64 0, .int .i64 0, .int .i64 0, .slice none 0 0]] w fun e w' => e = .returned (.bool true) ∧ Below w.heap.size w w' := by
  go_enter Tryd.func14, Tryd.ntmps14
  go_wp2_with (first | (go_at_call 15; refine (Same0 _).mono ?_; rintro e w' ⟨rfl, hb⟩))
  go_ret
  refine ⟨rfl, Below.trans ?_ (hb.mono (by simp only [World.size_alloc]; omega))⟩
  exact ((Below.refl _ _).alloc (Nat.le_refl _) _).alloc (by simp) _
def Keeps (w : World) (BX : Obj) (W : World) : Prop := W.heap[w.heap.size]? = some BX ∧ W.heap[w.heap.size + 1]? = some (.cells zeroC 51 (0, 0)) ∧ W.heap[w.heap.size + 1 + 1]? = some (.cells #[.pointer none, .pointer (some ⟨w.heap.size + 1, 0, none⟩)] 47 (0, 0)) ∧ Below w.heap.size w W
theorem Keeps.below {w W W' : World} {BX : Obj} (h : Keeps w BX W) (hb : Below W.heap.size W W') : Keeps w BX W' :=
  ⟨(hb.block _ (lt_of h.1)).trans h.1, (hb.block _ (lt_of h.2.1)).trans h.2.1, (hb.block _ (lt_of h.2.2.1)).trans h.2.2.1, h.2.2.2.trans (hb.mono h.2.2.2.size)⟩
theorem keeps_start (w : World) (BX : Obj) : Keeps w BX (((w.alloc BX).alloc (.cells zeroC 51)).alloc (.cells #[.pointer none, .pointer (some ⟨w.heap.size + 1, 0, none⟩)] 47)) := by
  have b1 := (Below.refl w.heap.size w).alloc (Nat.le_refl _) BX
  have b2 := (Below.refl (w.alloc BX).heap.size (w.alloc BX)).alloc (Nat.le_refl _) (.cells zeroC 51)
  have b3 := (Below.refl ((w.alloc BX).alloc (.cells zeroC 51)).heap.size ((w.alloc BX).alloc (.cells zeroC 51))).alloc (Nat.le_refl _) (.cells #[.pointer none, .pointer (some ⟨w.heap.size + 1, 0, none⟩)] 47)
  have h1 := heap_alloc_new w BX
  have h2 := heap_alloc_new (w.alloc BX) (.cells zeroC 51)
  have h3 := heap_alloc_new ((w.alloc BX).alloc (.cells zeroC 51)) (.cells #[.pointer none, .pointer (some ⟨w.heap.size + 1, 0, none⟩)] 47)
  rw [World.size_alloc] at h2
  rw [World.size_alloc, World.size_alloc] at h3
  refine ⟨?_, ?_, h3, ?_⟩
  · rw [b3.block _ (by simp only [World.size_alloc]; omega), b2.block _ (by simp only [World.size_alloc]; omega)]; exact h1
  · rw [b3.block _ (by simp only [World.size_alloc]; omega)]; exact h2
  · exact b1.trans ((b2.mono (by simp only [World.size_alloc]; omega)).trans (b3.mono (by simp only [World.size_alloc]; omega)))
set_option maxHeartbeats 4000000 in
set_option maxRecDepth 100000 in
theorem colophonlaw25_CacheNobody.walk (a0 a1 a2 a3 a4 a5 : Int) (A6 : Option Addr) (m6 c6 : Nat) (A7 : Option Addr) (m7 c7 : Nat) (A8 : Option Addr) (m8 c8 : Nat) (w : World) :
    Calls Tryd.prog 6 #[.agg #[.int .i64 a0, .int .i64 a1, .int .i64 a2, .int .u64 a3, .int .i64 a4, .int .i64 a5, .slice A6 m6 c6, .slice A7 m7 c7, .slice A8 m8 c8]] w fun e w' => e = .returned (.bool true) ∧ Below w.heap.size w w' := by
  go_enter Tryd.func6, Tryd.ntmps6
  go_wp2
  go_loopg [15] 3 (fun kq v15 w' => ∃ i : Nat, v15 = .int .i64 (i : Int) ∧ i ≤ 2 ∧ Aside0D (kq + i = 3) ∧ Aside0D (Keeps w (.cells #[.int .i64 a0, .int .i64 a1, .int .i64 a2, .int .u64 a3, .int .i64 a4, .int .i64 a5, .slice A6 m6 c6, .slice A7 m7 c7, .slice A8 m8 c8] 46) w'))
  case atStart => exact ⟨0, rfl, by omega, ⟨rfl⟩, ⟨keeps_start _ _⟩⟩
  case round =>
    obtain ⟨i, rfl, hi, HK, HW⟩ := hrel
    have hx1 : wr.cell? ⟨w.heap.size, 1, none⟩ = some (.int .i64 a1) := cellAt HW.out.1 1
    have hx2 : wr.cell? ⟨w.heap.size, 2, none⟩ = some (.int .i64 a2) := cellAt HW.out.1 2
    have hx3 : wr.cell? ⟨w.heap.size, 3, none⟩ = some (.int .u64 a3) := cellAt HW.out.1 3
    have hx4 : wr.cell? ⟨w.heap.size, 4, none⟩ = some (.int .i64 a4) := cellAt HW.out.1 4
    have hi3 : i = 0 ∨ i = 1 ∨ i = 2 := by omega
    clear hi
    rcases hi3 with rfl | rfl | rfl
    · have hy : wr.cell? ⟨w.heap.size + 1 + 1, 0, none⟩ = some (.pointer none) := cellAt HW.out.2.2.1 0
      have HD := Aside0D.mk (show CDead wr (.pointer none) from .inl rfl)
      have HG := Aside0D.mk (Get _ a3 a4 wr HD.out)
      go_wp2_with (first | (go_at_call 16; refine HG.out.mono ?_; rintro e W1 ⟨rfl, hb1⟩; have HW1 := Aside0D.mk (HW.out.below hb1); have HD1 := Aside0D.mk (HD.out.below hb1); clear hb1) | (go_at_call 14; refine (same0 _).mono ?_; rintro e W2 ⟨rfl, hb2⟩; have HW2 := Aside0D.mk ((HW1.out.below (by first | exact Below.refl _ _ | exact (Below.refl _ _).alloc (Nat.le_refl _) _ | exact ((Below.refl _ _).alloc (Nat.le_refl _) _).alloc (by simp) _ | exact (((Below.refl _ _).alloc (Nat.le_refl _) _).alloc (by simp) _).alloc (by simp; omega) _)).below hb2); have HD2 := Aside0D.mk ((HD1.out.below (by first | exact Below.refl _ _ | exact (Below.refl _ _).alloc (Nat.le_refl _) _ | exact ((Below.refl _ _).alloc (Nat.le_refl _) _).alloc (by simp) _ | exact (((Below.refl _ _).alloc (Nat.le_refl _) _).alloc (by simp) _).alloc (by simp; omega) _)).below hb2); clear hb2; have y3 : W2.cell? ⟨w.heap.size, 3, none⟩ = some (.int .u64 a3) := cellAt HW2.out.1 3; have y4 : W2.cell? ⟨w.heap.size, 4, none⟩ = some (.int .i64 a4) := cellAt HW2.out.1 4; have y5 : W2.cell? ⟨w.heap.size, 5, none⟩ = some (.int .i64 a5) := cellAt HW2.out.1 5; have y6 : W2.cell? ⟨w.heap.size, 6, none⟩ = some (.slice A6 m6 c6) := cellAt HW2.out.1 6) | (go_at_call 17; refine (Put _ a3 a4 a5 A6 m6 c6 _ HD2.out).mono ?_; rintro e W3 ⟨rfl, hb3⟩; have HW3 := Aside0D.mk (HW2.out.below hb3); have HD3 := Aside0D.mk (HD2.out.below hb3); clear hb3) | (go_at_call 18; refine (Only _ _ HD3.out).mono ?_; rintro e W4 ⟨rfl, hb4⟩; have HW4 := Aside0D.mk (HW3.out.below hb4); have HD4 := Aside0D.mk (HD3.out.below hb4); clear hb4) | (go_at_call 19; refine (Entries _ _ HD4.out).mono ?_; rintro e W5 ⟨rfl, hb5⟩; have HW5 := Aside0D.mk (HW4.out.below hb5); clear hb5))
      go_roundg (gk - 1)
      case measure => have := HK.out; omega
      case rel => exact ⟨1, rfl, by omega, ⟨by have := HK.out; omega⟩, HW5⟩
    · have hy : wr.cell? ⟨w.heap.size + 1 + 1, 1, none⟩ = some (.pointer (some ⟨w.heap.size + 1, 0, none⟩)) := cellAt HW.out.2.2.1 1
      have HD := Aside0D.mk (show CDead wr (.pointer (some ⟨w.heap.size + 1, 0, none⟩)) from .inr ⟨_, rfl, HW.out.2.1⟩)
      have HG := Aside0D.mk (Get _ a3 a4 wr HD.out)
      go_wp2_with (first | (go_at_call 16; refine HG.out.mono ?_; rintro e W1 ⟨rfl, hb1⟩; have HW1 := Aside0D.mk (HW.out.below hb1); have HD1 := Aside0D.mk (HD.out.below hb1); clear hb1) | (go_at_call 14; refine (same0 _).mono ?_; rintro e W2 ⟨rfl, hb2⟩; have HW2 := Aside0D.mk ((HW1.out.below (by first | exact Below.refl _ _ | exact (Below.refl _ _).alloc (Nat.le_refl _) _ | exact ((Below.refl _ _).alloc (Nat.le_refl _) _).alloc (by simp) _ | exact (((Below.refl _ _).alloc (Nat.le_refl _) _).alloc (by simp) _).alloc (by simp; omega) _)).below hb2); have HD2 := Aside0D.mk ((HD1.out.below (by first | exact Below.refl _ _ | exact (Below.refl _ _).alloc (Nat.le_refl _) _ | exact ((Below.refl _ _).alloc (Nat.le_refl _) _).alloc (by simp) _ | exact (((Below.refl _ _).alloc (Nat.le_refl _) _).alloc (by simp) _).alloc (by simp; omega) _)).below hb2); clear hb2; have y3 : W2.cell? ⟨w.heap.size, 3, none⟩ = some (.int .u64 a3) := cellAt HW2.out.1 3; have y4 : W2.cell? ⟨w.heap.size, 4, none⟩ = some (.int .i64 a4) := cellAt HW2.out.1 4; have y5 : W2.cell? ⟨w.heap.size, 5, none⟩ = some (.int .i64 a5) := cellAt HW2.out.1 5; have y6 : W2.cell? ⟨w.heap.size, 6, none⟩ = some (.slice A6 m6 c6) := cellAt HW2.out.1 6) | (go_at_call 17; refine (Put _ a3 a4 a5 A6 m6 c6 _ HD2.out).mono ?_; rintro e W3 ⟨rfl, hb3⟩; have HW3 := Aside0D.mk (HW2.out.below hb3); have HD3 := Aside0D.mk (HD2.out.below hb3); clear hb3) | (go_at_call 18; refine (Only _ _ HD3.out).mono ?_; rintro e W4 ⟨rfl, hb4⟩; have HW4 := Aside0D.mk (HW3.out.below hb4); have HD4 := Aside0D.mk (HD3.out.below hb4); clear hb4) | (go_at_call 19; refine (Entries _ _ HD4.out).mono ?_; rintro e W5 ⟨rfl, hb5⟩; have HW5 := Aside0D.mk (HW4.out.below hb5); clear hb5))
      go_roundg (gk - 1)
      case measure => have := HK.out; omega
      case rel => exact ⟨2, rfl, by omega, ⟨by have := HK.out; omega⟩, HW5⟩
    · have hlt : w.heap.size < wr.heap.size := lt_of HW.out.1
      have hne : w.heap.size ≠ wr.heap.size := Nat.ne_of_lt hlt
      have hz1 : (wr.alloc (.cells deadCells 63)).cell? ⟨w.heap.size, 1, none⟩ = some (.int .i64 a1) := by rw [World.cell?_alloc_lt (h := hlt)]; exact hx1
      have hz2 : (wr.alloc (.cells deadCells 63)).cell? ⟨w.heap.size, 2, none⟩ = some (.int .i64 a2) := by rw [World.cell?_alloc_lt (h := hlt)]; exact hx2
      unfold deadCells at hz1 hz2
      have HD0 := Aside0D.mk (show Dead wr (.pointer none) from .inl rfl)
      have HD1 := Aside0D.mk (show Dead (wr.alloc (.cells deadCells 63)) (.pointer (some ⟨wr.heap.size, 0, none⟩)) from .inr ⟨_, rfl, heap_alloc_new _ _⟩)
      go_wp2_with (first | (go_at_call 20; (with_reducible refine (Open (.pointer none) a1 a2 wr HD0.out).mono ?_); rintro e w' ⟨rfl, rfl⟩) | (go_at_call 20; refine (Open _ a1 a2 _ HD1.out).mono ?_; rintro e w' ⟨rfl, rfl⟩))
      go_ret
      exact ⟨rfl, HW.out.2.2.2.alloc HW.out.2.2.2.size _⟩
end Go.Proofs.YtogapedacdnfcaaDoor.X
