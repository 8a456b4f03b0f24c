/- Slots in memory; begin, Which. By hand. -/
import Derived.Test.YthpholjelfajiaaDoorDiskM
import Derived.Test.YthpholjelfajiaaDoorSlotT
namespace Go.Proofs.YthpholjelfajiaaDoor.G
open Go.RowKit Go.Shelf Go.Proofs.YthpholjelfajiaaDoorW.PrintWords Go.Proofs.YthpholjelfajiaaDoorW.PrintLast Go.Proofs.YthpholjelfajiaaDoorW.PrintMore Go.Proofs.YthpholjelfajiaaDoor.Dsk Go.Proofs.YthpholjelfajiaaDoor.Sl
set_option linter.unusedVariables false
set_option linter.unusedSimpArgs false
/-- What is true of a slot's numbers. -/
structure SlotOk (s : Slot) : Prop where
  e : 0 ≤ s.2.1 ∧ s.2.1 ≤ 2147483647
  b : s.2.2.length ≤ 221184
/-- Slots at block g, their rows within H. -/
structure SlB (H : Nat → Prop) (g gd fr ch : Nat) (s0 s1 : Slot) (v0 v1 : Value) (W : World) : Prop where
  blk : W.heap[g]? = some (.cells #[.pointer (some ⟨gd, 0, none⟩), .int .i64 (fr : Int), .int .i64 (ch : Int), .bool s0.1, .int .i64 s0.2.1, v0, .bool s1.1, .int .i64 s1.2.1, v1] 32 (0, 0))
  hg : H g
  r0 : (Kd.int .u8).R 5 W 0 (fun k => H k ∧ k ≠ g) v0 s0.2.2
  r1 : (Kd.int .u8).R 5 W 0 (fun k => H k ∧ k ≠ g) v1 s1.2.2
  lt : ∀ k, H k → k < W.heap.size
  ok0 : SlotOk s0
  ok1 : SlotOk s1
  fr_ : fr ≤ 4096
  ch_ : ch ≤ 4096
theorem SlB.move {H : Nat → Prop} {g gd fr ch : Nat} {s0 s1 : Slot} {v0 v1 : Value} {W W' : World} (h : SlB H g gd fr ch s0 s1 v0 v1 W) (hm : ∀ k, H k → k < W.heap.size → W'.heap[k]? = W.heap[k]?) (hs : W.heap.size ≤ W'.heap.size) : SlB H g gd fr ch s0 s1 v0 v1 W' :=
  ⟨(hm g h.hg (blk_lt h.blk)).trans h.blk, h.hg, Kd.R_step h.r0 (fun k hk => hm k hk.1), Kd.R_step h.r1 (fun k hk => hm k hk.1), fun k hk => Nat.lt_of_lt_of_le (h.lt k hk) hs, h.ok0, h.ok1, h.fr_, h.ch_⟩
theorem SlB.below {H : Nat → Prop} {g gd fr ch : Nat} {s0 s1 : Slot} {v0 v1 : Value} {W W' : World} (h : SlB H g gd fr ch s0 s1 v0 v1 W) (hb : Below W.heap.size W W') : SlB H g gd fr ch s0 s1 v0 v1 W' := h.move (fun k _ hk => hb.block k hk) hb.size
theorem SlB.kp {H G : Nat → Prop} {g gd fr ch : Nat} {s0 s1 : Slot} {v0 v1 : Value} {W W' : World} (h : SlB H g gd fr ch s0 s1 v0 v1 W) (hk : Kp G W W') (hd : ∀ k, H k → ¬ G k) : SlB H g gd fr ch s0 s1 v0 v1 W' := h.move (fun k hf hlt => hk.block k hlt (hd k hf)) hk.size
theorem cells9 {W : World} {g : Nat} {t : TypeId} {x0 x1 x2 x3 x4 x5 x6 x7 x8 : Value} (h : W.heap[g]? = some (.cells #[x0, x1, x2, x3, x4, x5, x6, x7, x8] t (0, 0))) :
    W.cell? ⟨g, 0, none⟩ = some x0 ∧ W.cell? ⟨g, 1, none⟩ = some x1 ∧ W.cell? ⟨g, 2, none⟩ = some x2 ∧ W.cell? ⟨g, 3, none⟩ = some x3 ∧ W.cell? ⟨g, 4, none⟩ = some x4 ∧ W.cell? ⟨g, 5, none⟩ = some x5 ∧ W.cell? ⟨g, 6, none⟩ = some x6 ∧ W.cell? ⟨g, 7, none⟩ = some x7 ∧ W.cell? ⟨g, 8, none⟩ = some x8 :=
  ⟨(blk_cell h 0).trans rfl, (blk_cell h 1).trans rfl, (blk_cell h 2).trans rfl, (blk_cell h 3).trans rfl, (blk_cell h 4).trans rfl, (blk_cell h 5).trans rfl, (blk_cell h 6).trans rfl, (blk_cell h 7).trans rfl, (blk_cell h 8).trans rfl⟩
set_option maxHeartbeats 4000000 in
set_option maxRecDepth 100000 in
theorem begin_c (g fr ch k : Nat) (W : World) (h : ∀ V, Below W.heap.size W V → V.cell? ⟨g, 1, none⟩ = some (.int .i64 (fr : Int)) ∧ V.cell? ⟨g, 2, none⟩ = some (.int .i64 (ch : Int))) (hf : fr ≤ 4096) (hc : ch ≤ 4096) (hk : k ≤ 1) :
    Calls Tryd.prog 26 #[.pointer (some ⟨g, 0, none⟩), .int .i64 (k : Int)] W fun e w' => e = .returned (.int .i64 ((bg fr ch k : Nat) : Int)) ∧ Below W.heap.size W w' := by
  have HC := Aside0.mk h
  obtain ⟨s, hs⟩ : ∃ s : Nat, s = 1 + ch := ⟨_, rfl⟩
  obtain ⟨p, hp⟩ : ∃ p : Nat, p = k * s := ⟨_, rfl⟩
  have hpl : p ≤ s := by rw [hp]; exact Nat.le_trans (Nat.mul_le_mul_right s hk) (by omega)
  have hbg : bg fr ch k = fr + p := by unfold bg; rw [hp, hs]
  have w1 : wrap64 (1 + (ch : Int)) = (s : Int) := by unfold wrap64; omega
  have w2 : wrap64 ((k : Int) * (s : Int)) = (p : Int) := by rw [← Int.natCast_mul, ← hp]; unfold wrap64; omega
  have w3 : wrap64 ((fr : Int) + (p : Int)) = ((bg fr ch k : Nat) : Int) := by rw [hbg]; unfold wrap64; omega
  clear h hs hp hpl hbg hf hc hk
  go_enter Tryd.func26, Tryd.ntmps26
  go_upto_region 1 with (fail)
  refine start_ (n := 13) (S := fun w' => w'.cell? ⟨g, 1, none⟩ = some (.int .i64 (fr : Int)) ∧ w'.cell? ⟨g, 2, none⟩ = some (.int .i64 (ch : Int))) (ds := []) #[false, false, false, false, false, false, false, false, false, false, false, false, false] (by kernel_rfl) rfl rfl ⟨(HC.out _ (below_drew (Below.refl _ _))).1, (HC.out _ (below_drew (Below.refl _ _))).2⟩ (fun hHeld => ?_)
  refine pure_ (i := 0) (N := some 5) (v := ?_) (a' := ?_) #[true, false, false, false, false, false, false, false, false, false, false, false, false] rfl rfl (by kernel_rfl) (fun _ _ _ h => h) (Or.inl ⟨by rfl, ?_⟩) ?_ ?_
  rotate_left
  · intro w'
    go_simp
    with_reducible rfl
  rotate_left
  · simp only [Act.put, List.setIfInBounds_toArray, List.set_cons_zero, List.set_cons_succ, i64_w, i32_w]
    rfl
  refine pure_ (i := 1) (N := some 6) (v := ?_) (a' := ?_) #[true, true, false, false, false, false, false, false, false, false, false, false, false] rfl rfl (by kernel_rfl) (fun _ _ _ h => h) (Or.inl ⟨by rfl, ?_⟩) ?_ ?_
  rotate_left
  · intro w'
    go_simp
    with_reducible rfl
  rotate_left
  · simp only [Act.put, List.setIfInBounds_toArray, List.set_cons_zero, List.set_cons_succ, i64_w, i32_w]
    rfl
  refine pure_ (i := 2) (N := some 7) (v := ?_) (a' := ?_) #[true, true, true, false, false, false, false, false, false, false, false, false, false] rfl rfl (by kernel_rfl) (fun _ _ _ h => h) (Or.inl ⟨by rfl, ?_⟩) ?_ ?_
  rotate_left
  · intro w'
    go_simp
    with_reducible rfl
  rotate_left
  · simp only [Act.put, List.setIfInBounds_toArray, List.set_cons_zero, List.set_cons_succ, i64_w, i32_w]
    rfl
  refine pure_ (i := 4) (N := some 9) (v := ?_) (a' := ?_) #[true, true, true, false, true, false, false, false, false, false, false, false, false] rfl rfl (by kernel_rfl) (fun _ _ _ h => h) (Or.inl ⟨by rfl, ?_⟩) ?_ ?_
  rotate_left
  · intro w'
    go_simp
    with_reducible rfl
  rotate_left
  · simp only [Act.put, List.setIfInBounds_toArray, List.set_cons_zero, List.set_cons_succ, i64_w, i32_w]
    rfl
  refine pure_ (i := 5) (N := some 10) (v := ?_) (a' := ?_) #[true, true, true, false, true, true, false, false, false, false, false, false, false] rfl rfl (by kernel_rfl) (fun _ _ _ h => h) (Or.inl ⟨by rfl, ?_⟩) ?_ ?_
  rotate_left
  · intro w'
    go_simp
    with_reducible rfl
  rotate_left
  · simp only [Act.put, List.setIfInBounds_toArray, List.set_cons_zero, List.set_cons_succ, i64_w, i32_w]
    rfl
  refine pure_ (i := 6) (N := some 11) (v := ?_) (a' := ?_) #[true, true, true, false, true, true, true, false, false, false, false, false, false] rfl rfl (by kernel_rfl) (fun _ _ _ h => h) (Or.inl ⟨by rfl, ?_⟩) ?_ ?_
  rotate_left
  · intro w'
    go_simp
    with_reducible rfl
  rotate_left
  · simp only [Act.put, List.setIfInBounds_toArray, List.set_cons_zero, List.set_cons_succ, i64_w, i32_w]
    rfl
  refine pure_ (i := 7) (N := some 12) (v := ?_) (a' := ?_) #[true, true, true, false, true, true, true, true, false, false, false, false, false] rfl rfl (by kernel_rfl) (fun _ _ _ h => h) (Or.inl ⟨by rfl, ?_⟩) ?_ ?_
  rotate_left
  · intro w'
    go_simp
    with_reducible rfl
  rotate_left
  · simp only [Act.put, List.setIfInBounds_toArray, List.set_cons_zero, List.set_cons_succ, i64_w, i32_w]
    rfl
  refine take_ (i := 3) (N := some 8) (v := ?_) (a' := ?_) #[true, true, true, true, true, true, true, true, false, false, false, false, false] rfl rfl (by kernel_rfl) (fun _ _ _ h => h) (Or.inl ⟨by rfl, ?_⟩) hHeld ?_ ?_
  rotate_left
  · rintro w' ⟨s0, s1⟩
    go_simp
    with_reducible rfl
  rotate_left
  · simp only [Act.put, List.setIfInBounds_toArray, List.set_cons_zero, List.set_cons_succ, i64_w, i32_w]
    rfl
  refine take_ (i := 8) (N := some 13) (v := ?_) (a' := ?_) #[true, true, true, true, true, true, true, true, true, false, false, false, false] rfl rfl (by kernel_rfl) (fun _ _ _ h => h) (Or.inl ⟨by rfl, ?_⟩) hHeld ?_ ?_
  rotate_left
  · rintro w' ⟨s0, s1⟩
    go_simp
    with_reducible rfl
  rotate_left
  · simp only [Act.put, List.setIfInBounds_toArray, List.set_cons_zero, List.set_cons_succ, i64_w, i32_w]
    rfl
  refine pure_ (i := 9) (N := some 14) (v := ?_) (a' := ?_) #[true, true, true, true, true, true, true, true, true, true, false, false, false] rfl rfl (by kernel_rfl) (fun _ _ _ h => h) (Or.inl ⟨by rfl, ?_⟩) ?_ ?_
  rotate_left
  · intro w'
    go_simp
    with_reducible rfl
  rotate_left
  · simp only [Act.put, List.setIfInBounds_toArray, List.set_cons_zero, List.set_cons_succ, i64_w, i32_w]
    rfl
  refine pure_ (i := 10) (N := some 15) (v := ?_) (a' := ?_) #[true, true, true, true, true, true, true, true, true, true, true, false, false] rfl rfl (by kernel_rfl) (fun _ _ _ h => h) (Or.inl ⟨by rfl, ?_⟩) ?_ ?_
  rotate_left
  · intro w'
    go_simp
    with_reducible rfl
  rotate_left
  · simp only [Act.put, List.setIfInBounds_toArray, List.set_cons_zero, List.set_cons_succ, i64_w, i32_w]
    rfl
  refine pure_ (i := 11) (N := some 16) (v := ?_) (a' := ?_) #[true, true, true, true, true, true, true, true, true, true, true, true, false] rfl rfl (by kernel_rfl) (fun _ _ _ h => h) (Or.inl ⟨by rfl, ?_⟩) ?_ ?_
  rotate_left
  · intro w'
    go_simp
    with_reducible rfl
  rotate_left
  · simp only [Act.put, List.setIfInBounds_toArray, List.set_cons_zero, List.set_cons_succ, i64_w, i32_w]
    rfl
  refine pure_ (i := 12) (N := some 4) (v := ?_) (a' := ?_) #[true, true, true, true, true, true, true, true, true, true, true, true, true] rfl rfl (by kernel_rfl) (fun _ _ _ h => h) (Or.inl ⟨by rfl, ?_⟩) ?_ ?_
  rotate_left
  · intro w'
    go_simp
    with_reducible rfl
  rotate_left
  · simp only [Act.put, List.setIfInBounds_toArray, List.set_cons_zero, List.set_cons_succ, i64_w, i32_w]
    rfl
  refine done_ (by kernel_rfl) ?_
  go_wp2
  go_ret
  exact ⟨by first | rfl | simp, below_drew (Below.refl _ _)⟩
end Go.Proofs.YthpholjelfajiaaDoor.G
