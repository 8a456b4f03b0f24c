/- Slots: Open, of a disk that is not down. By hand. -/
import Derived.Test.YthpholjelfajiaaDoorHSlRd
namespace Go.Proofs.YthpholjelfajiaaDoor.G
open Go.RowKit Go.Shelf Go.Proofs.YthpholjelfajiaaDoor.X Go.Proofs.YthpholjelfajiaaDoor.E Go.Proofs.YthpholjelfajiaaDoor.C Go.Proofs.YthpholjelfajiaaDoor.T Go.Proofs.YthpholjelfajiaaDoorW.PrintWords Go.Proofs.YthpholjelfajiaaDoorW.PrintLast Go.Proofs.YthpholjelfajiaaDoorW.PrintMore Go.Proofs.YthpholjelfajiaaDoor.Dsk Go.Proofs.YthpholjelfajiaaDoor.Sl
set_option linter.unusedVariables false
set_option linter.unusedSimpArgs false
def sA (d : Dk) (fr ch j : Nat) : Slot := if j = 0 then slot0 else readS d fr ch 0
def sB (d : Dk) (fr ch j : Nat) : Slot := if j ≤ 1 then slot0 else readS d fr ch 1
/-- What Open leaves. -/
def OpenSP (gd fr ch : Nat) (s0 s1 : Slot) (W : World) (e : Ending) (w' : World) : Prop := ∃ H g v0 v1, e = .returned (.tuple #[.pointer (some ⟨g, 0, none⟩), .int .i64 0]) ∧ SlB H g gd fr ch s0 s1 v0 v1 w' ∧ (∀ k, H k → W.heap.size ≤ k) ∧ Below W.heap.size W w'
/-- A row of bytes of the call's own, apart from the slots' block. -/
def RowB (W w' : World) (v : Value) (l : List Int) : Prop := (Kd.int .u8).R 5 w' 0 (fun k => W.heap.size ≤ k ∧ k ≠ W.heap.size) v l
/-- What Open's rounds keep. -/
def OpI (gd fr ch : Nat) (s0 s1 : Slot) (W w' : World) : Prop := ∃ v0 v1, w'.heap[W.heap.size]? = some (.cells #[.pointer (some ⟨gd, 0, none⟩), .int .i64 (fr : Int), .int .i64 (ch : Int), .bool s0.1, .int .i64 s0.2.1, v0, .bool s1.1, .int .i64 s1.2.1, v1] 32 (0, 0)) ∧ RowB W w' v0 s0.2.2 ∧ RowB W w' v1 s1.2.2 ∧ Below W.heap.size W w'
theorem RowB.below {W w' w'' : World} {v : Value} {l : List Int} (h : RowB W w' v l) (hb : Below w'.heap.size w' w'') : RowB W w'' v l := Kd.R_step h (fun k _ hk => hb.block k hk)
theorem RowB.set {W w' : World} {v : Value} {l : List Int} {g : Nat} {cs : Array Value} (h : RowB W w' v l) (hb : w'.heap[g]? = some (.cells cs 32 (0, 0))) (i : Nat) (u : Value) : RowB W (w'.setCell ⟨g, i, none⟩ u) v l := Kd.R_set h hb (by decide) i u
theorem RowB.of_own {W wr w' : World} {v : Value} {l : List Int} (h : (Kd.int .u8).R 5 w' wr.heap.size (fun _ => True) v l) (hs : W.heap.size < wr.heap.size) : RowB W w' v l := Kd.R_lower (Kd.R_mono (Kd.R_bound h) (fun k hk => ⟨by omega, by omega⟩)) (Nat.zero_le _)
theorem jn_len (t size : Int) (hs : 0 ≤ size) : ∀ (l : List (List Int)) (k : Nat) (out : List Int), (out.length : Int) ≤ size → ((jn t size k l out).1.length : Int) ≤ size
  | [], k, out, h => h
  | b :: r, k, out, h => by
    unfold jn
    split
    · split
      · refine jn_len t size hs r (k + 1) _ ?_
        rw [List.length_append, List.length_take]
        unfold left
        omega
      · exact hs
    · exact hs
theorem readS_ok (d : Dk) (fr ch k : Nat) : SlotOk (readS d fr ch k) := by
  unfold readS
  split
  · rename_i hk
    split
    · refine ⟨⟨by show 0 ≤ num4 (latest d (bg fr ch k)); have := hk.1; omega, hk.2.1⟩, ?_⟩
      show (JN _ _ _).1.length ≤ 221184
      unfold JN
      split
      · rename_i hc
        have := jn_len (num4 (latest d (bg fr ch k))) _ hc.2.2.1 (rowsOf d (bg fr ch k + 1) (sizeOf_ (latest d (bg fr ch k)))) 0 [] (by simpa using hc.2.2.1)
        have h2 := hc.2.2.2.1
        omega
      · simp
    · exact ⟨by decide, by decide⟩
  · exact ⟨by decide, by decide⟩
set_option maxHeartbeats 16000000 in
set_option maxRecDepth 100000 in
theorem SOpen_c (F : Nat → Prop) (gd fr ch : Nat) (d : Dk) (W : World) (hT : Tab W) (hD : Disk F gd d W) (hs : Small d) (hd : Dsk.down d = false) (h1 : 1 ≤ ch) (h2 : fr + 2 * (1 + ch) ≤ d.lies.length) (h3 : d.lies.length ≤ 4096) (hby : ∀ j, j < d.lies.length → Bytes (latest d j)) :
    Calls Tryd.prog 11 #[.pointer (some ⟨gd, 0, none⟩), .int .i64 (fr : Int), .int .i64 (ch : Int)] W (OpenSP gd fr ch (readS d fr ch 0) (readS d fr ch 1) W) := by
  have HD := Aside0.mk (And.intro hD (And.intro hs hd))
  have HT := Aside0.mk hT
  have HN := Aside0.mk (And.intro (show fr ≤ 4096 from by omega) (And.intro (show ch ≤ 4096 from by omega) (And.intro h1 (And.intro h2 h3))))
  have HR0 := Aside0.mk (show bg fr ch 0 + ch < d.lies.length from by unfold bg; omega)
  have HR1 := Aside0.mk (show bg fr ch 1 + ch < d.lies.length from by unfold bg; omega)
  have HBY := Aside0.mk hby
  have f0 : ((d.lies.length : Int) == 0) = false := by rw [beq_eq_false_iff_ne]; omega
  have f0' : ((d.lies.length : Int) = 0) = False := eq_false (by omega)
  have f1 : ((fr : Int) < 0) = False := eq_false (by omega)
  have f2 : ((ch : Int) < 1) = False := eq_false (by omega)
  have f2' : (ch < 1) = False := eq_false (by omega)
  have f2'' : (ch = 0) = False := eq_false (by omega)
  have f3 : ((4096 : Int) < (ch : Int)) = False := eq_false (by omega)
  have f3' : (4096 < ch) = False := eq_false (by omega)
  have f4 : ((d.lies.length : Int) < (fr : Int)) = False := eq_false (by omega)
  have f4' : (d.lies.length < fr) = False := eq_false (by omega)
  have f5 : wrap64 (1 + (ch : Int)) = 1 + (ch : Int) := by unfold wrap64; omega
  have f6 : wrap64 (2 * (1 + (ch : Int))) = 2 * (1 + (ch : Int)) := by unfold wrap64; omega
  have f7 : wrap64 ((d.lies.length : Int) - (fr : Int)) = (d.lies.length : Int) - (fr : Int) := by unfold wrap64; omega
  have f8 : ((d.lies.length : Int) - (fr : Int) < 2 * (1 + (ch : Int))) = False := eq_false (by omega)
  clear hT hD hs hd h1 h2 h3 hby
  go_enter Tryd.func11, Tryd.ntmps11
  go_wp2_with (first | (go_at_call 32; refine (Sectors_c F gd d W HD.out.1).mono ?_; rintro e w1 ⟨rfl, hw1⟩; refine of_halt ?_))
  unfold G.Halt
  obtain rfl := hw1.symm
  go_wp2
  have hb0 := below_alloc (Below.refl W.heap.size W) (.cells #[.pointer (some ⟨gd, 0, none⟩), .int .i64 (fr : Int), .int .i64 (ch : Int), .bool false, .int .i64 0, .slice none 0 0, .bool false, .int .i64 0, .slice none 0 0] 32)
  have hk0 := blk_new W (.cells #[.pointer (some ⟨gd, 0, none⟩), .int .i64 (fr : Int), .int .i64 (ch : Int), .bool false, .int .i64 0, .slice none 0 0, .bool false, .int .i64 0, .slice none 0 0] 32)
  have HI0 := Aside0.mk (show OpI gd fr ch (sA d fr ch 0) (sB d fr ch 0) W _ from ⟨_, _, hk0, Kd.R_nil _ _ _ _ _, Kd.R_nil _ _ _ _ _, hb0⟩)
  clear hb0 hk0 f0 f0' f1 f2 f2' f2'' f3 f3' f4 f4' f5 f6 f7 f8
  go_loopg [48] 3 (fun kq v48 w' => ∃ j : Nat, v48 = .int .i64 (j : Int) ∧ Aside0 (j ≤ 2 ∧ kq + j = 3) ∧ Aside0 (OpI gd fr ch (sA d fr ch j) (sB d fr ch j) W w'))
  case atStart => exact ⟨0, rfl, ⟨by omega⟩, HI0⟩
  case round =>
    obtain ⟨j, rfl, HJ, HI⟩ := hrel
    obtain ⟨v0, v1, hG, hr0, hr1, hB⟩ := HI.out
    have HG := Aside0.mk hG
    have HB := Aside0.mk hB
    have HRW := Aside0.mk (And.intro hr0 hr1)
    clear hG hB hr0 hr1 HI
    have hj : j = 0 ∨ j = 1 ∨ j = 2 := by have := HJ.out; omega
    rcases hj with rfl | rfl | rfl
    · skip
      have HRC := Aside0.mk (read_c F W.heap.size gd fr ch 0 d wr (Kd.C_below HT.out HB.out) (HD.out.1.below HB.out) HD.out.2.1 HD.out.2.2 (fun V hV => by
        have := cells9 ((hV.block _ (blk_lt HG.out)).trans HG.out)
        exact ⟨this.1, this.2.1, this.2.2.1⟩) HN.out.1 HN.out.2.1 (by decide) HR0.out HBY.out)
      obtain ⟨s, hs⟩ : ∃ s, readS d fr ch 0 = s := ⟨_, rfl⟩
      rw [hs] at HRC
      have HS := Aside0.mk hs
      obtain ⟨st, ep, bo⟩ := s
      clear hs
      go_wp2_with (first | (go_at_call 33; refine (HRC.out).mono ?_; rintro e w5 ⟨v5, rfl, hR5, hb5⟩; refine of_halt ?_))
      unfold G.Halt
      obtain ⟨A5, c5, rfl⟩ := Kd.R_slice hR5
      have HG5 := Aside0.mk ((hb5.block _ (blk_lt HG.out)).trans HG.out)
      have HB5 := Aside0.mk (HB.out.trans (hb5.mono HB.out.size))
      have HR5 := Aside0.mk (And.intro hR5 hb5)
      clear hR5 hb5
      go_upto_region 13 with (fail)
      have hb6 := below_alloc (Below.refl w5.heap.size w5) (.cells #[.bool st, .int .i64 ep, .slice A5 bo.length c5] 29)
      have hk6 := blk_new w5 (.cells #[.bool st, .int .i64 ep, .slice A5 bo.length c5] 29)
      obtain ⟨W6, hW6⟩ : ∃ W6, w5.alloc (.cells #[.bool st, .int .i64 ep, .slice A5 bo.length c5] 29) = W6 := ⟨_, rfl⟩
      obtain ⟨g5, hg5⟩ : ∃ g5, w5.heap.size = g5 := ⟨_, rfl⟩
      rw [hW6] at hb6 hk6
      rw [hW6]
      rw [hg5] at hk6
      rw [hg5]
      have H6 := Aside0.mk (And.intro ((hb6.block _ (blk_lt HG5.out)).trans HG5.out) (And.intro hk6 (And.intro (HB5.out.trans (hb6.mono HB5.out.size)) hb6)))
      obtain ⟨c0, c1, c2, c3, c4, c5_, c6, c7, c8⟩ := cells9 H6.out.1
      have z1 := blk_frozen H6.out.1 3
      have z2 := blk_frozen H6.out.1 4
      have z3 := blk_frozen H6.out.1 5
      clear hb6 hk6 hW6 hg5 c0 c1 c2
      refine start_ (n := 7) (S := fun w' => w'.cell? ⟨g5, 0, none⟩ = some (.bool st) ∧ w'.cell? ⟨g5, 1, none⟩ = some (.int .i64 ep) ∧ w'.cell? ⟨g5, 2, none⟩ = some (.slice A5 bo.length c5)) (ds := [6]) #[false, false, false, false, false, false, false] (by kernel_rfl) rfl rfl ⟨(cells3 (blk_drew H6.out.2.1)).1, (cells3 (blk_drew H6.out.2.1)).2.1, (cells3 (blk_drew H6.out.2.1)).2.2.1⟩ (fun hHeld => ?_)
      refine pure_ (i := 0) (N := some 60) (v := ?_) (a' := ?_) #[true, false, false, false, false, false, false] rfl rfl (by kernel_rfl) (fun _ _ _ h => h) (Or.inl ⟨by rfl, ?_⟩) ?_ ?_
      rotate_left
      · intro w'
        go_simp
        with_reducible rfl
      rotate_left
      · simp only [Act.put, List.setIfInBounds_toArray, List.set_cons_zero, List.set_cons_succ, i64_w, i32_w]
        rfl
      refine pure_ (i := 1) (N := some 61) (v := ?_) (a' := ?_) #[true, true, false, false, false, false, false] rfl rfl (by kernel_rfl) (fun _ _ _ h => h) (Or.inl ⟨by rfl, ?_⟩) ?_ ?_
      rotate_left
      · intro w'
        go_simp
        with_reducible rfl
      rotate_left
      · simp only [Act.put, List.setIfInBounds_toArray, List.set_cons_zero, List.set_cons_succ, i64_w, i32_w]
        rfl
      refine pure_ (i := 3) (N := some 63) (v := ?_) (a' := ?_) #[true, true, false, true, false, false, false] rfl rfl (by kernel_rfl) (fun _ _ _ h => h) (Or.inl ⟨by rfl, ?_⟩) ?_ ?_
      rotate_left
      · intro w'
        go_simp
        with_reducible rfl
      rotate_left
      · simp only [Act.put, List.setIfInBounds_toArray, List.set_cons_zero, List.set_cons_succ, i64_w, i32_w]
        rfl
      refine pure_ (i := 4) (N := some 64) (v := ?_) (a' := ?_) #[true, true, false, true, true, false, false] rfl rfl (by kernel_rfl) (fun _ _ _ h => h) (Or.inl ⟨by rfl, ?_⟩) ?_ ?_
      rotate_left
      · intro w'
        go_simp
        with_reducible rfl
      rotate_left
      · simp only [Act.put, List.setIfInBounds_toArray, List.set_cons_zero, List.set_cons_succ, i64_w, i32_w]
        rfl
      refine take_ (i := 2) (N := some 62) (v := ?_) (a' := ?_) #[true, true, true, true, true, false, false] rfl rfl (by kernel_rfl) (fun _ _ _ h => h) (Or.inl ⟨by rfl, ?_⟩) hHeld ?_ ?_
      rotate_left
      · rintro w' ⟨s0, s1, s2⟩
        go_simp
        with_reducible rfl
      rotate_left
      · simp only [Act.put, List.setIfInBounds_toArray, List.set_cons_zero, List.set_cons_succ, i64_w, i32_w]
        rfl
      refine pure_ (i := 5) (N := some 65) (v := ?_) (a' := ?_) #[true, true, true, true, true, true, false] rfl rfl (by kernel_rfl) (fun _ _ _ h => h) (Or.inl ⟨by rfl, ?_⟩) ?_ ?_
      rotate_left
      · intro w'
        go_simp
        with_reducible rfl
      rotate_left
      · simp only [Act.put, List.setIfInBounds_toArray, List.set_cons_zero, List.set_cons_succ, i64_w, i32_w]
        rfl
      refine last_ (i := 6) (N := none) #[true, true, true, true, true, true, true] rfl rfl (by kernel_rfl) (by decide) (fun K hK => ?_)
      refine skip_ (w1 := ?_) (by rfl) rfl ?_ ?_
      rotate_left
      · go_simp
        rfl
      refine hK.out _ _ ?_
      clear hK K
      refine done_ (by kernel_rfl) ?_
      clear c3 c4 c5_ c6 c7 c8 z1 z2 z3 hHeld
      have HI6 := Aside0.mk (show OpI gd fr ch (sA d fr ch 1) (sB d fr ch 1) W _ from by
        have e0 : sA d fr ch 1 = (st, ep, bo) := by rw [← HS.out]; rfl
        have e1 : sB d fr ch 1 = slot0 := rfl
        rw [e0, e1]
        exact ⟨_, _, blk_put (blk_put (blk_put (blk_drew H6.out.1) 3 (.bool st) rfl) 4 (.int .i64 ep) rfl) 5 (.slice A5 bo.length c5) rfl, RowB.set (RowB.set (RowB.set ((RowB.of_own HR5.out.1 (blk_lt HG.out)).below H6.out.2.2.2) (blk_drew H6.out.1) 3 (.bool st)) (blk_put (blk_drew H6.out.1) 3 (.bool st) rfl) 4 (.int .i64 ep)) (blk_put (blk_put (blk_drew H6.out.1) 3 (.bool st) rfl) 4 (.int .i64 ep) rfl) 5 (.slice A5 bo.length c5), RowB.set (RowB.set (RowB.set ((HRW.out.2.below HR5.out.2).below H6.out.2.2.2) (blk_drew H6.out.1) 3 (.bool st)) (blk_put (blk_drew H6.out.1) 3 (.bool st) rfl) 4 (.int .i64 ep)) (blk_put (blk_put (blk_drew H6.out.1) 3 (.bool st) rfl) 4 (.int .i64 ep) rfl) 5 (.slice A5 bo.length c5), below_set (below_set (below_set (below_drew H6.out.2.2.1) (Nat.le_refl _)) (Nat.le_refl _)) (Nat.le_refl _)⟩)
      go_wp2
      go_roundg (gk - 1)
      case measure => have := HJ.out; omega
      case rel => exact ⟨1, by first | rfl | simp, ⟨by have := HJ.out; omega⟩, HI6⟩
    · skip
      have HRC := Aside0.mk (read_c F W.heap.size gd fr ch 1 d wr (Kd.C_below HT.out HB.out) (HD.out.1.below HB.out) HD.out.2.1 HD.out.2.2 (fun V hV => by
        have := cells9 ((hV.block _ (blk_lt HG.out)).trans HG.out)
        exact ⟨this.1, this.2.1, this.2.2.1⟩) HN.out.1 HN.out.2.1 (by decide) HR1.out HBY.out)
      obtain ⟨s, hs⟩ : ∃ s, readS d fr ch 1 = s := ⟨_, rfl⟩
      rw [hs] at HRC
      have HS := Aside0.mk hs
      obtain ⟨st, ep, bo⟩ := s
      clear hs
      go_wp2_with (first | (go_at_call 33; refine (HRC.out).mono ?_; rintro e w5 ⟨v5, rfl, hR5, hb5⟩; refine of_halt ?_))
      unfold G.Halt
      obtain ⟨A5, c5, rfl⟩ := Kd.R_slice hR5
      have HG5 := Aside0.mk ((hb5.block _ (blk_lt HG.out)).trans HG.out)
      have HB5 := Aside0.mk (HB.out.trans (hb5.mono HB.out.size))
      have HR5 := Aside0.mk (And.intro hR5 hb5)
      clear hR5 hb5
      go_upto_region 13 with (fail)
      have hb6 := below_alloc (Below.refl w5.heap.size w5) (.cells #[.bool st, .int .i64 ep, .slice A5 bo.length c5] 29)
      have hk6 := blk_new w5 (.cells #[.bool st, .int .i64 ep, .slice A5 bo.length c5] 29)
      obtain ⟨W6, hW6⟩ : ∃ W6, w5.alloc (.cells #[.bool st, .int .i64 ep, .slice A5 bo.length c5] 29) = W6 := ⟨_, rfl⟩
      obtain ⟨g5, hg5⟩ : ∃ g5, w5.heap.size = g5 := ⟨_, rfl⟩
      rw [hW6] at hb6 hk6
      rw [hW6]
      rw [hg5] at hk6
      rw [hg5]
      have H6 := Aside0.mk (And.intro ((hb6.block _ (blk_lt HG5.out)).trans HG5.out) (And.intro hk6 (And.intro (HB5.out.trans (hb6.mono HB5.out.size)) hb6)))
      obtain ⟨c0, c1, c2, c3, c4, c5_, c6, c7, c8⟩ := cells9 H6.out.1
      have z1 := blk_frozen H6.out.1 6
      have z2 := blk_frozen H6.out.1 7
      have z3 := blk_frozen H6.out.1 8
      clear hb6 hk6 hW6 hg5 c0 c1 c2
      refine start_ (n := 7) (S := fun w' => w'.cell? ⟨g5, 0, none⟩ = some (.bool st) ∧ w'.cell? ⟨g5, 1, none⟩ = some (.int .i64 ep) ∧ w'.cell? ⟨g5, 2, none⟩ = some (.slice A5 bo.length c5)) (ds := [6]) #[false, false, false, false, false, false, false] (by kernel_rfl) rfl rfl ⟨(cells3 (blk_drew H6.out.2.1)).1, (cells3 (blk_drew H6.out.2.1)).2.1, (cells3 (blk_drew H6.out.2.1)).2.2.1⟩ (fun hHeld => ?_)
      refine pure_ (i := 0) (N := some 60) (v := ?_) (a' := ?_) #[true, false, false, false, false, false, false] rfl rfl (by kernel_rfl) (fun _ _ _ h => h) (Or.inl ⟨by rfl, ?_⟩) ?_ ?_
      rotate_left
      · intro w'
        go_simp
        with_reducible rfl
      rotate_left
      · simp only [Act.put, List.setIfInBounds_toArray, List.set_cons_zero, List.set_cons_succ, i64_w, i32_w]
        rfl
      refine pure_ (i := 1) (N := some 61) (v := ?_) (a' := ?_) #[true, true, false, false, false, false, false] rfl rfl (by kernel_rfl) (fun _ _ _ h => h) (Or.inl ⟨by rfl, ?_⟩) ?_ ?_
      rotate_left
      · intro w'
        go_simp
        with_reducible rfl
      rotate_left
      · simp only [Act.put, List.setIfInBounds_toArray, List.set_cons_zero, List.set_cons_succ, i64_w, i32_w]
        rfl
      refine pure_ (i := 3) (N := some 63) (v := ?_) (a' := ?_) #[true, true, false, true, false, false, false] rfl rfl (by kernel_rfl) (fun _ _ _ h => h) (Or.inl ⟨by rfl, ?_⟩) ?_ ?_
      rotate_left
      · intro w'
        go_simp
        with_reducible rfl
      rotate_left
      · simp only [Act.put, List.setIfInBounds_toArray, List.set_cons_zero, List.set_cons_succ, i64_w, i32_w]
        rfl
      refine pure_ (i := 4) (N := some 64) (v := ?_) (a' := ?_) #[true, true, false, true, true, false, false] rfl rfl (by kernel_rfl) (fun _ _ _ h => h) (Or.inl ⟨by rfl, ?_⟩) ?_ ?_
      rotate_left
      · intro w'
        go_simp
        with_reducible rfl
      rotate_left
      · simp only [Act.put, List.setIfInBounds_toArray, List.set_cons_zero, List.set_cons_succ, i64_w, i32_w]
        rfl
      refine take_ (i := 2) (N := some 62) (v := ?_) (a' := ?_) #[true, true, true, true, true, false, false] rfl rfl (by kernel_rfl) (fun _ _ _ h => h) (Or.inl ⟨by rfl, ?_⟩) hHeld ?_ ?_
      rotate_left
      · rintro w' ⟨s0, s1, s2⟩
        go_simp
        with_reducible rfl
      rotate_left
      · simp only [Act.put, List.setIfInBounds_toArray, List.set_cons_zero, List.set_cons_succ, i64_w, i32_w]
        rfl
      refine pure_ (i := 5) (N := some 65) (v := ?_) (a' := ?_) #[true, true, true, true, true, true, false] rfl rfl (by kernel_rfl) (fun _ _ _ h => h) (Or.inl ⟨by rfl, ?_⟩) ?_ ?_
      rotate_left
      · intro w'
        go_simp
        with_reducible rfl
      rotate_left
      · simp only [Act.put, List.setIfInBounds_toArray, List.set_cons_zero, List.set_cons_succ, i64_w, i32_w]
        rfl
      refine last_ (i := 6) (N := none) #[true, true, true, true, true, true, true] rfl rfl (by kernel_rfl) (by decide) (fun K hK => ?_)
      refine skip_ (w1 := ?_) (by rfl) rfl ?_ ?_
      rotate_left
      · go_simp
        rfl
      refine hK.out _ _ ?_
      clear hK K
      refine done_ (by kernel_rfl) ?_
      clear c3 c4 c5_ c6 c7 c8 z1 z2 z3 hHeld
      have HI6 := Aside0.mk (show OpI gd fr ch (sA d fr ch 2) (sB d fr ch 2) W _ from by
        have e0 : sA d fr ch 2 = sA d fr ch 1 := rfl
        have e1 : sB d fr ch 2 = (st, ep, bo) := by rw [← HS.out]; rfl
        rw [e0, e1]
        exact ⟨_, _, blk_put (blk_put (blk_put (blk_drew H6.out.1) 6 (.bool st) rfl) 7 (.int .i64 ep) rfl) 8 (.slice A5 bo.length c5) rfl, RowB.set (RowB.set (RowB.set ((HRW.out.1.below HR5.out.2).below H6.out.2.2.2) (blk_drew H6.out.1) 6 (.bool st)) (blk_put (blk_drew H6.out.1) 6 (.bool st) rfl) 7 (.int .i64 ep)) (blk_put (blk_put (blk_drew H6.out.1) 6 (.bool st) rfl) 7 (.int .i64 ep) rfl) 8 (.slice A5 bo.length c5), RowB.set (RowB.set (RowB.set ((RowB.of_own HR5.out.1 (blk_lt HG.out)).below H6.out.2.2.2) (blk_drew H6.out.1) 6 (.bool st)) (blk_put (blk_drew H6.out.1) 6 (.bool st) rfl) 7 (.int .i64 ep)) (blk_put (blk_put (blk_drew H6.out.1) 6 (.bool st) rfl) 7 (.int .i64 ep) rfl) 8 (.slice A5 bo.length c5), below_set (below_set (below_set (below_drew H6.out.2.2.1) (Nat.le_refl _)) (Nat.le_refl _)) (Nat.le_refl _)⟩)
      go_wp2
      go_roundg (gk - 1)
      case measure => have := HJ.out; omega
      case rel => exact ⟨2, by first | rfl | simp, ⟨by have := HJ.out; omega⟩, HI6⟩
    · have e0 : sA d fr ch 2 = readS d fr ch 0 := rfl
      have e1 : sB d fr ch 2 = readS d fr ch 1 := rfl
      rw [e0, e1] at HG HRW
      go_wp2
      go_ret2
      refine ⟨fun k => W.heap.size ≤ k ∧ k < wr.heap.size, W.heap.size, v0, v1, rfl, ⟨HG.out, ⟨Nat.le_refl _, blk_lt HG.out⟩, ?_, ?_, fun k hk => hk.2, ?_, ?_, HN.out.1, HN.out.2.1⟩, fun k hk => hk.1, HB.out⟩
      · exact Kd.R_mono (Kd.R_bound HRW.out.1) (fun k hk => ⟨⟨hk.1.1, hk.2.2.1⟩, hk.1.2⟩)
      · exact Kd.R_mono (Kd.R_bound HRW.out.2) (fun k hk => ⟨⟨hk.1.1, hk.2.2.1⟩, hk.1.2⟩)
      · exact readS_ok d fr ch 0
      · exact readS_ok d fr ch 1
end Go.Proofs.YthpholjelfajiaaDoor.G
