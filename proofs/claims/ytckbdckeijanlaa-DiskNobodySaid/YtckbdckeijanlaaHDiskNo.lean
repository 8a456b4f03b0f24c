/- The law DiskNobody, walked by hand. -/
import Derived.Test.YtckbdckeijanlaaHDead
import Derived.RangeFuncNested
import Derived.RangeFuncBound
import Derived.RangeFuncCalls
import Derived.RangeFuncLeaves
import Derived.Shelf.Abstract
import Derived.Shelf.RegionOpen
import Derived.OwnWalkIn
import Derived.TacticsInMore
import Derived.LoopNIn
import Derived.LoopIn
namespace Go.Proofs.Ytckbdckeijanlaa.X
open Go.RowKit Go.Shelf Go.Proofs.Ytckbdckeijanlaa.D
set_option linter.unusedVariables false
set_option linter.unusedSimpArgs false
attribute [local go_sem] Oper.semAt_some

set_option maxHeartbeats 800000 in
theorem all_calls (g : Nat) (w : World) : Calls Try.prog 29 #[.pointer (some ⟨g, 0, none⟩)] w fun e w' => e = .returned (.func (.func 37) #[] #[.pointer (some ⟨w.heap.size, 0, none⟩)]) ∧ w' = w.alloc (.cells #[.pointer (some ⟨g, 0, none⟩)] 24) := by
  go_enter Try.func29, Try.ntmps29
  go_wp2
  go_ret
  exact ⟨rfl, rfl⟩
set_option maxRecDepth 100000 in
set_option maxHeartbeats 4000000 in
theorem all1_zero (F : Fence) (n : Nat) (h8 : F.fn 37) (hro : F.round = none) (hn : 1 ≤ n) (l Bs g : Nat) (w0 : World) (hc : w0.cell? ⟨Bs, 0, none⟩ = some (.pointer (some ⟨g, 0, none⟩))) (hw : w0.cell? ⟨g, 1, none⟩ = some (.slice none 0 0))
    (J Jx : List Empty → World → Prop) (W : World) (hW : Below w0.heap.size w0 W) (h0 : J [] W) :
    CallsIn F n Try.prog 37 #[.func (.yield l) #[] #[], .pointer (some ⟨Bs, 0, none⟩)] W fun e W' => (∃ v, e = .returned v) ∧
      ((∃ ys, ys = [] ∧ J ys W') ∨ (∃ pre, False ∧ Jx pre W')) := by
  have c1 := (hW.cell (p := ⟨Bs, 0, none⟩) (World.block_lt_of_cell? w0 _ hc)).trans hc
  have c2 := (hW.cell (p := ⟨g, 1, none⟩) (World.block_lt_of_cell? w0 _ hw)).trans hw
  have H0 := Aside0D.mk h0
  clear hc hw hW h0
  refine callsIn_of_wp Try.func37 rfl h8 ?_ hro
  simp only [Try.ntmps37, List.size_toArray, List.length_cons, List.length_nil, Nat.reduceAdd, Nat.reduceSub, Array.replicate_succ, Array.replicate_zero, List.push_toArray, List.append_toArray, List.nil_append, List.cons_append]
  gi_wp2
  gi_loopw [10] (fun i wr => i = .int .i64 0 ∧ Aside0D (wr = W)) (fun i _ => 0)
  case atStart => exact ⟨rfl, ⟨rfl⟩⟩
  case round =>
    obtain ⟨rfl, ⟨rfl⟩⟩ := hrel
    gi_wp2
    go_end0
    exact ⟨⟨_, rfl⟩, .inl ⟨_, rfl, H0.out⟩⟩
theorem all_stops (F : Fence) (n : Nat) (h8 : F.fn 37) (hro : F.round = none) (hn : 1 ≤ n) (Bs g : Nat) (w0 : World) (hc : w0.cell? ⟨Bs, 0, none⟩ = some (.pointer (some ⟨g, 0, none⟩))) (hw : w0.cell? ⟨g, 1, none⟩ = some (.slice none 0 0)) :
    SeqStopsK F n Try.prog 37 #[.pointer (some ⟨Bs, 0, none⟩)] (fun x : Empty => x.elim) (Below w0.heap.size) (fun ys => ys = []) (fun _ => False) 0 w0 := fun l J Jx W hW _ _ _ h0 =>
  all1_zero F n h8 hro hn l Bs g w0 hc hw J Jx W hW h0
def LI (w : World) (_ : List Empty) (W : World) : Prop := W.heap[w.heap.size]? = some (.cells #[.slice none 0 0] 32 (0, 0)) ∧ Below w.heap.size w W
theorem LI_own (w : World) (B : Nat) (hB : w.heap.size + 1 ≤ B) : OwnFrom B (LI w) := by
  refine OwnFrom.and ?_ (ownFrom_below (Nat.le_refl _) (by omega))
  intro s W W' row hs hg hr
  exact (hg.block _ (lt_of hs) (fun e => by have := (hr _ e.symm).1; omega)).trans hs
set_option maxRecDepth 100000 in
set_option maxHeartbeats 4000000 in
theorem Waits (v : Value) (w : World) (h : Dead w v) : Calls Try.prog 16 #[v] w fun e w' => e = .returned (.slice none 0 0) ∧ Below w.heap.size w w' := by
  rcases h with rfl | ⟨g, rfl, hh⟩
  · go_enter Try.func16, Try.ntmps16
    go_wp2
    go_ret
    exact ⟨rfl, Below.refl _ _⟩
  have HH := Aside0D.mk hh
  have eg : ∀ args w, (callFunc 37 args).run Try.prog w = .ok (.enter 37 args) w := fun args w => by first | rfl | simp [callFunc]
  have HE := Aside0D.mk eg
  clear hh eg
  refine (callsIn_wide (n := 6)).1 ?_
  refine callsIn_of_wp_marks Try.func16 rfl trivial ?_ rfl
  simp only [Try.ntmps16, List.size_toArray, List.length_cons, List.length_nil, Nat.reduceAdd, Nat.reduceSub, Array.replicate_succ, Array.replicate_zero, List.push_toArray, List.append_toArray, List.nil_append, List.cons_append]
  refine wpIn_wide.2 ?_
  go_wp2_with (first | (go_at_call 29; refine (all_calls g _).mono ?_; rintro e w1 ⟨rfl, rfl⟩))
  refine (wpIn_wide (n := 6)).1 ?_
  obtain ⟨W0, hW0⟩ : ∃ W0, ((w.alloc (.cells #[.slice none 0 0] 32)).alloc (.cells #[.pointer (some ⟨g, 0, none⟩)] 24)) = W0 := ⟨_, rfl⟩
  have b1 := (Below.refl w.heap.size w).alloc (Nat.le_refl _) (.cells #[.slice none 0 0] 32)
  have b2 := (Below.refl (w.alloc (.cells #[.slice none 0 0] 32)).heap.size (w.alloc (.cells #[.slice none 0 0] 32))).alloc (Nat.le_refl _) (.cells #[.pointer (some ⟨g, 0, none⟩)] 24)
  have hLI : LI w [] W0 := by
    rw [← hW0]
    exact ⟨by rw [b2.block _ (by rw [World.size_alloc]; omega)]; exact heap_alloc_new _ _, b1.trans (b2.mono (by rw [World.size_alloc]; omega))⟩
  have hc : W0.cell? ⟨w.heap.size + 1, 0, none⟩ = some (.pointer (some ⟨g, 0, none⟩)) := by
    have := heap_alloc_new (w.alloc (.cells #[.slice none 0 0] 32)) (.cells #[.pointer (some ⟨g, 0, none⟩)] 24)
    rw [World.size_alloc, hW0] at this
    exact cellAt this 0
  have hw : W0.cell? ⟨g, 1, none⟩ = some (.slice none 0 0) := cellAt ((hLI.2.block _ (lt_of HH.out)).trans HH.out) 1
  have hsz : W0.heap.size = w.heap.size + 1 + 1 := by rw [← hW0]; simp
  rw [hW0]
  clear b1 b2 hW0
  refine wpIn_rangeFunc_ownG (α := Empty) (by rfl) (by omega) (gf := 37) (lb := #[.pointer (some ⟨w.heap.size + 1, 0, none⟩)]) rfl trivial HE.out
    (all_stops Fence.wide 5 trivial rfl (by omega) (w.heap.size + 1) g W0 hc hw) belowK_t (belowK_b (by omega)) (Below.refl _ _) (fun x => x.elim)
    (LI w) (fun _ _ _ => False) (LI_own w _ (by omega)) (fun _ _ _ _ _ hs _ _ => hs) hLI ?acts ?assign ?body ?done ?stop
  case acts => exact fun x => x.elim
  case assign =>
    intro l x
    exact x.elim
  case body =>
    intro l pre x
    exact x.elim
  case done =>
    rintro D ys W hD rfl ⟨h1, hB⟩ hK
    have c1 : W.cell? ⟨w.heap.size, 0, none⟩ = some (.slice none 0 0) := cellAt h1 0
    go_wp2
    refine ⟨by simp, .inl ⟨_, _, rfl, run_takeDeferred hK, ?_⟩⟩
    refine ⟨_, results_tmp rfl _ _ _, rfl, hB.trans (belowK_b (w := w) (Nat.le_refl _) W D _ _ (by omega) hK rfl rfl)⟩
  case stop =>
    rintro D c pre W _ _ h _
    exact h.elim
def Keeps (w : World) (BX : Obj) (W : World) : Prop := W.heap[w.heap.size]? = some BX ∧ W.heap[w.heap.size + 1]? = some (.cells deadCells 51 (0, 0)) ∧ W.heap[w.heap.size + 1 + 1]? = some (.cells #[.pointer none, .pointer (some ⟨w.heap.size + 1, 0, none⟩)] 24 (0, 0)) ∧ Below w.heap.size w W
theorem Keeps.below {w W W' : World} {BX : Obj} (h : Keeps w BX W) (hb : Below W.heap.size W W') : Keeps w BX W' :=
  ⟨(hb.block _ (lt_of h.1)).trans h.1, (hb.block _ (lt_of h.2.1)).trans h.2.1, (hb.block _ (lt_of h.2.2.1)).trans h.2.2.1, h.2.2.2.trans (hb.mono h.2.2.2.size)⟩
theorem keeps_start (w : World) (BX : Obj) : Keeps w BX (((w.alloc BX).alloc (.cells deadCells 51)).alloc (.cells #[.pointer none, .pointer (some ⟨w.heap.size + 1, 0, none⟩)] 24)) := by
  have b1 := (Below.refl w.heap.size w).alloc (Nat.le_refl _) BX
  have b2 := (Below.refl (w.alloc BX).heap.size (w.alloc BX)).alloc (Nat.le_refl _) (.cells deadCells 51)
  have b3 := (Below.refl ((w.alloc BX).alloc (.cells deadCells 51)).heap.size ((w.alloc BX).alloc (.cells deadCells 51))).alloc (Nat.le_refl _) (.cells #[.pointer none, .pointer (some ⟨w.heap.size + 1, 0, none⟩)] 24)
  have h1 := heap_alloc_new w BX
  have h2 := heap_alloc_new (w.alloc BX) (.cells deadCells 51)
  have h3 := heap_alloc_new ((w.alloc BX).alloc (.cells deadCells 51)) (.cells #[.pointer none, .pointer (some ⟨w.heap.size + 1, 0, none⟩)] 24)
  rw [World.size_alloc] at h2
  rw [World.size_alloc, World.size_alloc] at h3
  refine ⟨?_, ?_, h3, ?_⟩
  · rw [b3.block _ (by simp only [World.size_alloc]; omega), b2.block _ (by simp only [World.size_alloc]; omega)]; exact h1
  · rw [b3.block _ (by simp only [World.size_alloc]; omega)]; exact h2
  · exact b1.trans ((b2.mono (by simp only [World.size_alloc]; omega)).trans (b3.mono (by simp only [World.size_alloc]; omega)))
set_option maxHeartbeats 4000000 in
set_option maxRecDepth 100000 in
theorem colophonlaw17_DiskNobody.walk (a0 a1 a2 : Int) (A3 : Option Addr) (m3 c3 : Nat) (A4 : Option Addr) (m4 c4 : Nat) (w : World) :
    Calls Try.prog 7 #[.agg #[.int .i64 a0, .int .i64 a1, .int .i64 a2, .slice A3 m3 c3, .slice A4 m4 c4]] w fun e w' => e = .returned (.bool true) ∧ Below w.heap.size w w' := by
  go_enter Try.func7, Try.ntmps7
  go_wp2
  go_loopg [13] 3 (fun kq v13 w' => ∃ i : Nat, v13 = .int .i64 (i : Int) ∧ i ≤ 2 ∧ Aside0D (kq + i = 3) ∧ Aside0D (Keeps w (.cells #[.int .i64 a0, .int .i64 a1, .int .i64 a2, .slice A3 m3 c3, .slice A4 m4 c4] 38) w'))
  case atStart => exact ⟨0, rfl, by omega, ⟨rfl⟩, ⟨keeps_start _ _⟩⟩
  case round =>
    obtain ⟨i, rfl, hi, HK, HW⟩ := hrel
    have hx1 : wr.cell? ⟨w.heap.size, 1, none⟩ = some (.int .i64 a1) := cellAt HW.out.1 1
    have hi3 : i = 0 ∨ i = 1 ∨ i = 2 := by omega
    clear hi
    rcases hi3 with rfl | rfl | rfl
    · have hy : wr.cell? ⟨w.heap.size + 1 + 1, 0, none⟩ = some (.pointer none) := cellAt HW.out.2.2.1 0
      have HD := Aside0D.mk (show Dead wr (.pointer none) from .inl rfl)
      go_wp2_with (first | (go_at_call 15; refine (D.Read _ a1 wr HD.out).mono ?_; rintro e W1 ⟨rfl, hb⟩; have HW1 := Aside0D.mk (HW.out.below hb); have HD1 := Aside0D.mk (HD.out.below hb); clear hb; have x1_1 : W1.cell? ⟨w.heap.size, 1, none⟩ = some (.int .i64 a1) := cellAt HW1.out.1 1; have x2_1 : W1.cell? ⟨w.heap.size, 2, none⟩ = some (.int .i64 a2) := cellAt HW1.out.1 2; have x3_1 : W1.cell? ⟨w.heap.size, 3, none⟩ = some (.slice A3 m3 c3) := cellAt HW1.out.1 3; have x4_1 : W1.cell? ⟨w.heap.size, 4, none⟩ = some (.slice A4 m4 c4) := cellAt HW1.out.1 4) | (go_at_call 14; refine (D.Crash _ A4 m4 c4 _ HD1.out).mono ?_; rintro e W2 ⟨rfl, hb⟩; have HW2 := Aside0D.mk (HW1.out.below hb); have HD2 := Aside0D.mk (HD1.out.below hb); clear hb; have x1_2 : W2.cell? ⟨w.heap.size, 1, none⟩ = some (.int .i64 a1) := cellAt HW2.out.1 1; have x2_2 : W2.cell? ⟨w.heap.size, 2, none⟩ = some (.int .i64 a2) := cellAt HW2.out.1 2; have x3_2 : W2.cell? ⟨w.heap.size, 3, none⟩ = some (.slice A3 m3 c3) := cellAt HW2.out.1 3; have x4_2 : W2.cell? ⟨w.heap.size, 4, none⟩ = some (.slice A4 m4 c4) := cellAt HW2.out.1 4) | (go_at_call 12; refine (D.Write _ a1 A3 m3 c3 _ HD2.out).mono ?_; rintro e W3 ⟨rfl, hb⟩; have HW3 := Aside0D.mk (HW2.out.below hb); have HD3 := Aside0D.mk (HD2.out.below hb); clear hb; have x1_3 : W3.cell? ⟨w.heap.size, 1, none⟩ = some (.int .i64 a1) := cellAt HW3.out.1 1; have x2_3 : W3.cell? ⟨w.heap.size, 2, none⟩ = some (.int .i64 a2) := cellAt HW3.out.1 2; have x3_3 : W3.cell? ⟨w.heap.size, 3, none⟩ = some (.slice A3 m3 c3) := cellAt HW3.out.1 3; have x4_3 : W3.cell? ⟨w.heap.size, 4, none⟩ = some (.slice A4 m4 c4) := cellAt HW3.out.1 4) | (go_at_call 13; refine (D.Flush _ _ HD3.out).mono ?_; rintro e W4 ⟨rfl, hb⟩; have HW4 := Aside0D.mk (HW3.out.below hb); have HD4 := Aside0D.mk (HD3.out.below hb); clear hb; have x1_4 : W4.cell? ⟨w.heap.size, 1, none⟩ = some (.int .i64 a1) := cellAt HW4.out.1 1; have x2_4 : W4.cell? ⟨w.heap.size, 2, none⟩ = some (.int .i64 a2) := cellAt HW4.out.1 2; have x3_4 : W4.cell? ⟨w.heap.size, 3, none⟩ = some (.slice A3 m3 c3) := cellAt HW4.out.1 3; have x4_4 : W4.cell? ⟨w.heap.size, 4, none⟩ = some (.slice A4 m4 c4) := cellAt HW4.out.1 4) | (go_at_call 18; refine (D.Stop _ a1 _ HD4.out).mono ?_; rintro e W5 ⟨rfl, hb⟩; have HW5 := Aside0D.mk (HW4.out.below hb); have HD5 := Aside0D.mk (HD4.out.below hb); clear hb; have x1_5 : W5.cell? ⟨w.heap.size, 1, none⟩ = some (.int .i64 a1) := cellAt HW5.out.1 1; have x2_5 : W5.cell? ⟨w.heap.size, 2, none⟩ = some (.int .i64 a2) := cellAt HW5.out.1 2; have x3_5 : W5.cell? ⟨w.heap.size, 3, none⟩ = some (.slice A3 m3 c3) := cellAt HW5.out.1 3; have x4_5 : W5.cell? ⟨w.heap.size, 4, none⟩ = some (.slice A4 m4 c4) := cellAt HW5.out.1 4) | (go_at_call 20; refine (D.Spoil _ a1 a2 1 _ HD5.out).mono ?_; rintro e W6 ⟨rfl, hb⟩; have HW6 := Aside0D.mk (HW5.out.below hb); have HD6 := Aside0D.mk (HD5.out.below hb); clear hb; have x1_6 : W6.cell? ⟨w.heap.size, 1, none⟩ = some (.int .i64 a1) := cellAt HW6.out.1 1; have x2_6 : W6.cell? ⟨w.heap.size, 2, none⟩ = some (.int .i64 a2) := cellAt HW6.out.1 2; have x3_6 : W6.cell? ⟨w.heap.size, 3, none⟩ = some (.slice A3 m3 c3) := cellAt HW6.out.1 3; have x4_6 : W6.cell? ⟨w.heap.size, 4, none⟩ = some (.slice A4 m4 c4) := cellAt HW6.out.1 4) | (go_at_call 21; refine (D.Sectors _ _ HD6.out).mono ?_; rintro e w' ⟨rfl, rfl⟩) | (go_at_call 16; refine (Waits _ _ HD6.out).mono ?_; rintro e W7 ⟨rfl, hb⟩; have HW7 := Aside0D.mk (HW6.out.below hb); have HD7 := Aside0D.mk (HD6.out.below hb); clear hb) | (go_at_call 19; refine (D.Steps _ _ HD7.out).mono ?_; rintro e w' ⟨rfl, rfl⟩))
      go_roundg (gk - 1)
      case measure => have := HK.out; omega
      case rel => exact ⟨1, rfl, by omega, ⟨by have := HK.out; omega⟩, HW7⟩
    · have hy : wr.cell? ⟨w.heap.size + 1 + 1, 1, none⟩ = some (.pointer (some ⟨w.heap.size + 1, 0, none⟩)) := cellAt HW.out.2.2.1 1
      have HD := Aside0D.mk (show Dead wr (.pointer (some ⟨w.heap.size + 1, 0, none⟩)) from .inr ⟨_, rfl, HW.out.2.1⟩)
      go_wp2_with (first | (go_at_call 15; refine (D.Read _ a1 wr HD.out).mono ?_; rintro e W1 ⟨rfl, hb⟩; have HW1 := Aside0D.mk (HW.out.below hb); have HD1 := Aside0D.mk (HD.out.below hb); clear hb; have x1_1 : W1.cell? ⟨w.heap.size, 1, none⟩ = some (.int .i64 a1) := cellAt HW1.out.1 1; have x2_1 : W1.cell? ⟨w.heap.size, 2, none⟩ = some (.int .i64 a2) := cellAt HW1.out.1 2; have x3_1 : W1.cell? ⟨w.heap.size, 3, none⟩ = some (.slice A3 m3 c3) := cellAt HW1.out.1 3; have x4_1 : W1.cell? ⟨w.heap.size, 4, none⟩ = some (.slice A4 m4 c4) := cellAt HW1.out.1 4) | (go_at_call 14; refine (D.Crash _ A4 m4 c4 _ HD1.out).mono ?_; rintro e W2 ⟨rfl, hb⟩; have HW2 := Aside0D.mk (HW1.out.below hb); have HD2 := Aside0D.mk (HD1.out.below hb); clear hb; have x1_2 : W2.cell? ⟨w.heap.size, 1, none⟩ = some (.int .i64 a1) := cellAt HW2.out.1 1; have x2_2 : W2.cell? ⟨w.heap.size, 2, none⟩ = some (.int .i64 a2) := cellAt HW2.out.1 2; have x3_2 : W2.cell? ⟨w.heap.size, 3, none⟩ = some (.slice A3 m3 c3) := cellAt HW2.out.1 3; have x4_2 : W2.cell? ⟨w.heap.size, 4, none⟩ = some (.slice A4 m4 c4) := cellAt HW2.out.1 4) | (go_at_call 12; refine (D.Write _ a1 A3 m3 c3 _ HD2.out).mono ?_; rintro e W3 ⟨rfl, hb⟩; have HW3 := Aside0D.mk (HW2.out.below hb); have HD3 := Aside0D.mk (HD2.out.below hb); clear hb; have x1_3 : W3.cell? ⟨w.heap.size, 1, none⟩ = some (.int .i64 a1) := cellAt HW3.out.1 1; have x2_3 : W3.cell? ⟨w.heap.size, 2, none⟩ = some (.int .i64 a2) := cellAt HW3.out.1 2; have x3_3 : W3.cell? ⟨w.heap.size, 3, none⟩ = some (.slice A3 m3 c3) := cellAt HW3.out.1 3; have x4_3 : W3.cell? ⟨w.heap.size, 4, none⟩ = some (.slice A4 m4 c4) := cellAt HW3.out.1 4) | (go_at_call 13; refine (D.Flush _ _ HD3.out).mono ?_; rintro e W4 ⟨rfl, hb⟩; have HW4 := Aside0D.mk (HW3.out.below hb); have HD4 := Aside0D.mk (HD3.out.below hb); clear hb; have x1_4 : W4.cell? ⟨w.heap.size, 1, none⟩ = some (.int .i64 a1) := cellAt HW4.out.1 1; have x2_4 : W4.cell? ⟨w.heap.size, 2, none⟩ = some (.int .i64 a2) := cellAt HW4.out.1 2; have x3_4 : W4.cell? ⟨w.heap.size, 3, none⟩ = some (.slice A3 m3 c3) := cellAt HW4.out.1 3; have x4_4 : W4.cell? ⟨w.heap.size, 4, none⟩ = some (.slice A4 m4 c4) := cellAt HW4.out.1 4) | (go_at_call 18; refine (D.Stop _ a1 _ HD4.out).mono ?_; rintro e W5 ⟨rfl, hb⟩; have HW5 := Aside0D.mk (HW4.out.below hb); have HD5 := Aside0D.mk (HD4.out.below hb); clear hb; have x1_5 : W5.cell? ⟨w.heap.size, 1, none⟩ = some (.int .i64 a1) := cellAt HW5.out.1 1; have x2_5 : W5.cell? ⟨w.heap.size, 2, none⟩ = some (.int .i64 a2) := cellAt HW5.out.1 2; have x3_5 : W5.cell? ⟨w.heap.size, 3, none⟩ = some (.slice A3 m3 c3) := cellAt HW5.out.1 3; have x4_5 : W5.cell? ⟨w.heap.size, 4, none⟩ = some (.slice A4 m4 c4) := cellAt HW5.out.1 4) | (go_at_call 20; refine (D.Spoil _ a1 a2 1 _ HD5.out).mono ?_; rintro e W6 ⟨rfl, hb⟩; have HW6 := Aside0D.mk (HW5.out.below hb); have HD6 := Aside0D.mk (HD5.out.below hb); clear hb; have x1_6 : W6.cell? ⟨w.heap.size, 1, none⟩ = some (.int .i64 a1) := cellAt HW6.out.1 1; have x2_6 : W6.cell? ⟨w.heap.size, 2, none⟩ = some (.int .i64 a2) := cellAt HW6.out.1 2; have x3_6 : W6.cell? ⟨w.heap.size, 3, none⟩ = some (.slice A3 m3 c3) := cellAt HW6.out.1 3; have x4_6 : W6.cell? ⟨w.heap.size, 4, none⟩ = some (.slice A4 m4 c4) := cellAt HW6.out.1 4) | (go_at_call 21; refine (D.Sectors _ _ HD6.out).mono ?_; rintro e w' ⟨rfl, rfl⟩) | (go_at_call 16; refine (Waits _ _ HD6.out).mono ?_; rintro e W7 ⟨rfl, hb⟩; have HW7 := Aside0D.mk (HW6.out.below hb); have HD7 := Aside0D.mk (HD6.out.below hb); clear hb) | (go_at_call 19; refine (D.Steps _ _ HD7.out).mono ?_; rintro e w' ⟨rfl, rfl⟩))
      go_roundg (gk - 1)
      case measure => have := HK.out; omega
      case rel => exact ⟨2, rfl, by omega, ⟨by have := HK.out; omega⟩, HW7⟩
    · go_wp2
      go_ret
      exact ⟨rfl, HW.out.2.2.2⟩
end Go.Proofs.Ytckbdckeijanlaa.X
